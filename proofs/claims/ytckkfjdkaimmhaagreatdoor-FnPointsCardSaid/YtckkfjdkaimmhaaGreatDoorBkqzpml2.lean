/- A part of proofs about signs and points: what some functions answer, and that their calls answer so. No condition. -/
import Derived.Test.YtckkfjdkaimmhaaGreatDoorProg
import Derived.Test.YtckkfjdkaimmhaaGreatDoorV1
import Derived.Test.YtckkfjdkaimmhaaGreatDoorBkqzpml1
set_option linter.unusedVariables false
set_option linter.unusedSimpArgs false
namespace Go.Proofs.YtckkfjdkaimmhaaGreatDoor.PX
open Go.RowKit Go.Proofs.YtckkfjdkaimmhaaGreatDoor.G Go.Proofs.YtckkfjdkaimmhaaGreatDoorW.PrintWords Go.Proofs.YtckkfjdkaimmhaaGreatDoorW.PrintLast Go.Proofs.YtckkfjdkaimmhaaGreatDoorW.PrintMore
attribute [local go_sem] max2_int min2_int Yi Yh Z4 Z7 Xk Xn   -- for this text's walks alone
set_option linter.unusedVariables false
set_option linter.unusedSimpArgs false
theorem Q0 {w : World} {g : Nat} {a b : Value} {q : Addr} {v : Option Value} (hn : q.block ≠ g) (h : w.cell? q = v) : ((w.setCell ⟨g, 0, none⟩ a).setCell ⟨g, 1, none⟩ b).cell? q = v :=
 (cell_far (p := ⟨g, 1, none⟩) hn b).trans ((cell_far (p := ⟨g, 0, none⟩) hn a).trans h)
def Ja.f (k : Nat) (l0 : List Int) : Option (Int × Int × Int × Int × Int × Int) := (Jm.f k l0).bind fun aC => ((Qj.f k aC.1 aC.2.1 aC.2.2).bind fun aA => (if 2 < (aA.1.length : Int) then ((Q3.f aC.1 aA.2.1 aA.2.2 6).bind fun aD => (if aD.1 = 0 then ((J7.f aC.1 aD.2.1 aD.2.2 (([1000, 1001, (-1001)] : List Int))).bind fun aG => (if 0 < (aA.1.length : Int) then (if 1 < (aA.1.length : Int) then (some ((Qb aA.1 0).f0, (Qb aA.1 0).f1, (Qb aA.1 1).f0, (Qb aA.1 1).f1, aG.1, (Qb aA.1 2).f1)) else (none)) else (none))) else (if aD.1 = 1 then (if 0 < (aA.1.length : Int) then (if 1 < (aA.1.length : Int) then (some ((Qb aA.1 0).f0, (Qb aA.1 0).f1, (Qb aA.1 1).f0, (Qb aA.1 1).f1, (Qb aA.1 0).f0, (Qb aA.1 0).f1)) else (none)) else (none)) else (if aD.1 = 2 then (if 1 < (aA.1.length : Int) then (if 0 < (aA.1.length : Int) then (some ((Qb aA.1 0).f0, (Qb aA.1 0).f1, (Qb aA.1 1).f0, (Qb aA.1 1).f1, wrap64 ((wrap64 (2 * ((Qb aA.1 1).f0))) - ((Qb aA.1 0).f0)), wrap64 ((wrap64 (2 * ((Qb aA.1 1).f1))) - ((Qb aA.1 0).f1)))) else (none)) else (none)) else (if 0 < (aA.1.length : Int) then (if 1 < (aA.1.length : Int) then (some ((Qb aA.1 0).f0, (Qb aA.1 0).f1, (Qb aA.1 1).f0, (Qb aA.1 1).f1, (Qb aA.1 2).f0, (Qb aA.1 2).f1)) else (none)) else (none)))))) else (none)))
def Ja.T10 : Bool × List (List Nat × List Nat) := (true, [([], []), ([0], [0]), ([1], [1]), ([2], [2]), ([3], [3]), ([], []), ([5], [5]), ([6], [6]), ([7], [7]), ([4, 8], [4, 8]), ([], []), ([10], [10]), ([11], [11]), ([12], [12]), ([13], [13]), ([], []), ([15], [15]), ([16], [16]), ([17], [17]), ([14, 18], [14, 18]), ([9, 19], [9, 19]), ([20, 0, 1, 2, 3, 4, 5, 6, 7, 8, 9, 10, 11, 12, 13, 14, 15, 16, 17, 18, 19, 20], [20])])
def Ja.B10 : List Nat := [0, 1, 3, 7, 15, 0, 32, 96, 224, 511, 0, 1024, 3072, 7168, 15360, 0, 32768, 98304, 229376, 523264, 1048575, 2097151]
theorem Ja.tab10 : Vj .any (opsOf Tryz.f84 10) = Ja.T10 := by kernel_rfl
theorem Ja.bits10 : Z5 Ja.T10.2 Ja.B10 = true := by kernel_rfl
def Ja.T11 : Bool × List (List Nat × List Nat) := (true, [([], []), ([0], [0]), ([1], [1]), ([], []), ([3], [3]), ([4], [4]), ([], []), ([2, 0, 1, 2], [2]), ([5, 7, 0, 1, 2, 3, 4, 5, 7], [5]), ([6, 8, 0, 1, 2, 3, 4, 5, 6, 7, 8], [6])])
def Ja.B11 : List Nat := [0, 1, 3, 0, 8, 24, 0, 7, 191, 511]
theorem Ja.tab11 : Vj .any (opsOf Tryz.f84 11) = Ja.T11 := by kernel_rfl
theorem Ja.bits11 : Z5 Ja.T11.2 Ja.B11 = true := by kernel_rfl
theorem jAv {p q p0 p1 p2 : Prop} (g : p) (g0 : p0) (g1 : p1) (g2 : p2) (h : p → p0 → p1 → p2 → q := by intro zg_ aA aC aD; repeat (first | (with_reducible first | exact zg_ | apply Qw | apply Qs | apply Qp | refine Q5 ?_ aA | refine Q5 ?_ aC | refine Q5 ?_ aD) | exact zg_)) : q := h g g0 g1 g2
theorem Xp {p q p0 p1 p2 : Prop} (g : p) (g0 : p0) (g1 : p1) (g2 : p2) (h : p → p0 → p1 → p2 → q := by intro zg_ aA aC aD; repeat (first | (with_reducible first | exact zg_ | apply Qe.alloc | apply Qe.drewN | apply Qe.drew | apply Qe.set_1 | apply Qe.set_2 | refine Qe.far ?_ aA _ | refine Qe.far ?_ aC _ | refine Qe.far ?_ aD _) | exact zg_)) : q := h g g0 g1 g2
theorem jAq {p q p0 p1 p2 p3 : Prop} (g : p) (g0 : p0) (g1 : p1) (g2 : p2) (g3 : p3) (h : p → p0 → p1 → p2 → p3 → q := by intro zg_ aA aC aD aG; repeat (first | (with_reducible first | exact zg_ | apply Qw | apply Qs | apply Qp | refine Q5 ?_ aA | refine Q5 ?_ aC | refine Q5 ?_ aD | refine Q5 ?_ aG) | exact zg_)) : q := h g g0 g1 g2 g3
theorem Xw {p q p0 p1 p2 p3 : Prop} (g : p) (g0 : p0) (g1 : p1) (g2 : p2) (g3 : p3) (h : p → p0 → p1 → p2 → p3 → q := by intro zg_ aA aC aD aG; repeat (first | (with_reducible first | exact zg_ | apply Qe.alloc | apply Qe.drewN | apply Qe.drew | apply Qe.set_1 | apply Qe.set_2 | refine Qe.far ?_ aA _ | refine Qe.far ?_ aC _ | refine Qe.far ?_ aD _ | refine Qe.far ?_ aG _) | exact zg_)) : q := h g g0 g1 g2 g3
theorem Uw {p q p0 p1 p2 p3 p4 : Prop} (g : p) (g0 : p0) (g1 : p1) (g2 : p2) (g3 : p3) (g4 : p4) (h : p → p0 → p1 → p2 → p3 → p4 → q := by intro zg_ aA aC aD aG aH; repeat (first | (with_reducible first | exact zg_ | apply Qw | apply Qs | apply Qp | refine Q5 ?_ aA | refine Q5 ?_ aC | refine Q5 ?_ aD | refine Q5 ?_ aG | refine Q5 ?_ aH) | exact zg_)) : q := h g g0 g1 g2 g3 g4
set_option maxHeartbeats 8000000 in
set_option maxRecDepth 100000 in
theorem Ja.calls (k : Nat) (A0 : Option Addr) (c0 : Nat) (l0 : List Int) (r1 : Int) (r2 : Int) (r3 : Int) (r4 : Int) (r5 : Int) (r6 : Int) (w : World) (hr0 : Kd.C (Kd.int .u8) w A0 l0.length l0) (hc0 : l0.length ≤ c0) (h : Ja.f k l0 = some (r1, r2, r3, r4, r5, r6)) :
  Calls Tryz.prog 84 #[.slice A0 l0.length c0] w fun e w' => e = .returned (.tuple #[.agg #[.int .i64 r1, .int .i64 r2], .agg #[.int .i64 r3, .int .i64 r4], .agg #[.int .i64 r5, .int .i64 r6]]) ∧ Below w.heap.size w w' := by
 have yA := Tryz.underlying48
 have lJ := Qa.mk hr0
 have lK := Qa.mk hc0
 clear hr0 hc0
 have HB := Qa.mk (Below.refl w.heap.size w)
 have H := h
 unfold Ja.f at H
 clear h
 obtain ⟨⟨bW, fH, fI⟩, A2, H⟩ := zO H
 dsimp only at H
 obtain ⟨⟨aD, bY, bZ⟩, A3, H⟩ := zO H
 dsimp only at H
 replace H := Yc H
 rcases H with ⟨c4, yB, H⟩ | ⟨c4, H⟩
 ·have yC : decide (2 < aD.length) = true := decide_eq_true (by omega)
  clear c4
  obtain ⟨⟨gD, fC, fD⟩, A5, H⟩ := zO H
  dsimp only at H
  replace H := Zb H
  rcases H with ⟨sQ, sU, H⟩ | ⟨c6, sQ, sU, H⟩
  ·generalize gH : (([1000, 1001, (-1001)] : List Int) : List Int) = gF at H
   have gI := Qa.mk gH.symm
   clear gH
   obtain ⟨⟨cK, iR, iT⟩, A7, H⟩ := zO H
   dsimp only at H
   replace H := Yc H
   rcases H with ⟨c8, yD, H⟩ | ⟨c8, H⟩
   ·have yE : decide (0 < aD.length) = true := decide_eq_true (by omega)
    clear c8
    replace H := Yc H
    rcases H with ⟨c9, yF, H⟩ | ⟨c9, H⟩
    ·have yG : decide (1 < aD.length) = true := decide_eq_true (by omega)
     clear c9
     simp only [Option.some.injEq, Prod.mk.injEq] at H
     obtain ⟨rfl, rfl, rfl, rfl, rfl, rfl⟩ := H
     go_enter Tryz.func84, Tryz.ntmps84
     try go_wp2_with (first | ((with_reducible refine Qo (N := 2) rfl ?_); refine zBx (N := 2) #[.int .i64 0, .int .i64 0] 48 ?_; intro bH hg w10 hbox hb; have aA := Qa.mk (hbox); have fM := zS hg; have aW := zS hg; replace HB := zX hb; clear hb hbox hg) | ((with_reducible refine Qo (N := 3) rfl ?_); refine zBx (N := 3) #[.int .i64 0, .int .i64 0] 48 ?_; intro bI hg w11 hbox hb; have aG := Qa.mk (hbox); have fO := zSg hg (zG aW.out); have bK := zSg hg (zG aW.out); have aX := zL hg aA.out; have aY := zLg hg aA.out; replace aA := zV aA.out hb; replace HB := zX1 aW.out hb; clear hb hbox hg) | ((with_reducible refine Qo (N := 4) rfl ?_); refine zBx (N := 4) #[.int .i64 0, .int .i64 0] 48 ?_; intro bJ hg w12 hbox hb; have aJ := Qa.mk (hbox); have fP := zSg hg (zG2 aW.out bK.out); have bM := zSg hg (zG2 aW.out bK.out); have aZ := zL hg aA.out; have bA := zLg hg aA.out; replace aA := zV aA.out hb; have bB := zL hg aG.out; have bC := zLg hg aG.out; replace aG := zV aG.out hb; replace HB := Qa.mk (Qk (zG2 aW.out bK.out) hb); clear hb hbox hg) | ((with_reducible refine Qd (f := 49) rfl ?_); refine zD (some 9) Tryz.func49 #[.slice A0 l0.length c0] ((Jm.calls k _ _ l0 bW fH fI w _ ?bT ?bU ?dA A2.out).mono ?_); (case bT => exact (jAv HB.out aW.out bK.out bM.out)); (case bU => exact lJ.out); (case dA => exact lK.out); rintro e w13 ⟨bV, rfl, hi, hb, hb2⟩; refine ⟨_, rfl, ?_⟩; have aI := Qa.mk (hi); have aM := Qa.mk (Qe.ne_blk hi (Je (g := bH) (o := .cells #[.int .i64 0, .int .i64 0] 48 (0, 0)) (zK aA.out) hb2) (by decide)); have bN := Qa.mk (Ne.symm (Qe.ne_blk hi (Je (g := bH) (o := .cells #[.int .i64 0, .int .i64 0] 48 (0, 0)) (zK aA.out) hb2) (by decide))); replace aA := Qa.mk (Je (g := bH) (o := .cells #[.int .i64 0, .int .i64 0] 48 (0, 0)) (zK aA.out) hb2); have aN := Qa.mk (Qe.ne_blk hi (Je (g := bI) (o := .cells #[.int .i64 0, .int .i64 0] 48 (0, 0)) (zK aG.out) hb2) (by decide)); have bO := Qa.mk (Ne.symm (Qe.ne_blk hi (Je (g := bI) (o := .cells #[.int .i64 0, .int .i64 0] 48 (0, 0)) (zK aG.out) hb2) (by decide))); replace aG := Qa.mk (Je (g := bI) (o := .cells #[.int .i64 0, .int .i64 0] 48 (0, 0)) (zK aG.out) hb2); have aQ := Qa.mk (Qe.ne_blk hi (Je (g := bJ) (o := .cells #[.int .i64 0, .int .i64 0] 48 (0, 0)) (zK aJ.out) hb2) (by decide)); have bP := Qa.mk (Ne.symm (Qe.ne_blk hi (Je (g := bJ) (o := .cells #[.int .i64 0, .int .i64 0] 48 (0, 0)) (zK aJ.out) hb2) (by decide))); replace aJ := Qa.mk (Je (g := bJ) (o := .cells #[.int .i64 0, .int .i64 0] 48 (0, 0)) (zK aJ.out) hb2); replace HB := Qa.mk (hb); (try clear hb); (try clear hb2); (try clear hi)) | ((with_reducible refine Qd (f := 85) rfl ?_); refine zD (some 11) Tryz.func85 _ ((Qj.calls k bV bW fH fI aD bY bZ w _ ?bT ?bU A3.out).mono ?_); (case bT => exact (Xp aI.out aM.out aN.out aQ.out)); (case bU => exact (jAq HB.out (Qe.ge aI.out) aW.out bK.out bM.out)); rintro e w14 ⟨gK, rfl, ho0, hi, hb, hk⟩; refine ⟨_, rfl, ?_⟩; have aC := Qa.mk (Kd.R_lower (Kd.R_newB (Kd.R_newB (Kd.R_newB ho0 (g := bH) (o := .cells #[.int .i64 0, .int .i64 0] 48 (0, 0)) (zK aA.out)) (g := bI) (o := .cells #[.int .i64 0, .int .i64 0] 48 (0, 0)) (zK aG.out)) (g := bJ) (o := .cells #[.int .i64 0, .int .i64 0] 48 (0, 0)) (zK aJ.out)) (Ql (zG4 (Qe.ge aI.out) aW.out bK.out bM.out))); replace aA := zKB hk aA.out bN.out; replace aG := zKB hk aG.out bO.out; replace aJ := zKB hk aJ.out bP.out; replace aI := Qa.mk (hi); replace HB := Qa.mk (hb); (try clear hb); (try clear hk); (try clear hi); (try clear ho0); obtain ⟨yH, sV, sW⟩ := Kd.R_slice aC.out; subst sW; have cO : 0 ≤ (2 : Int) := (by omega); have cZ : 2 < (aD.length : Int) := zA; obtain ⟨aH, fJ, bR, bS⟩ := Jj (Kd.R_reads' aC.out).2.2 2 cO cZ; cases fJ; (try simp only [show (2 : Int).toNat = 2 from rfl, Nat.reduceMul, Nat.reduceEqDiff, Go.Addr.add, ↓reduceIte] at bR); (try simp only [show (2 : Int).toNat = 2 from rfl, Nat.reduceMul, Nat.reduceEqDiff, Go.Addr.add, ↓reduceIte] at bS); have fQ : (2 < aD.length) = True := eq_true (by omega); (try rw [show ((2 : Int)).toNat = 2 from rfl] at bR); (try rw [show 2 * 2 = 4 from rfl] at bR); (try rw [show ((2 : Int)).toNat = 2 from rfl] at bS); (try rw [show 2 * 2 = 4 from rfl] at bS); replace cO := eq_true cO; replace cZ := eq_true cZ) | ((with_reducible refine Qo (N := 7) rfl ?_); refine zBx (N := 7) #[.int .i64 0, .int .i64 0] 48 ?_; intro aK hg w16 hbox hb; have eB := Qa.mk (Kd.R_below (Kd.R_elderB (zR aC.out) aK (Nat.le_of_eq hg.symm)) hb); have eD := zV aA.out hb; have eF := zV aG.out hb; have eG := zV aJ.out hb; have eH := Qa.mk (Qe.below (Xp aI.out aM.out aN.out aQ.out) hb); have eO := Qa.mk (Qk (zG4 (Qe.ge aI.out) aW.out bK.out bM.out) hb); have eP := Qa.mk (hbox); have fG := zSg hg (zG4 (Qe.ge aI.out) aW.out bK.out bM.out); have fT := zSg hg (zG4 (Qe.ge aI.out) aW.out bK.out bM.out); have fU := zL hg aA.out; have eQ := zLg hg aA.out; have eU := zL hg aG.out; have eX := zLg hg aG.out; have eY := zL hg aJ.out; have eZ := zLg hg aJ.out; have fA := Qa.mk ((by rw [hg]; exact Nat.ne_of_lt (Qe.lt (show Qe w _ bV bW bY bZ from (Xp aI.out aM.out aN.out aQ.out))) : bV ≠ aK)); have fB := Qa.mk ((by rw [hg]; exact Nat.ne_of_gt (Qe.lt (show Qe w _ bV bW bY bZ from (Xp aI.out aM.out aN.out aQ.out))) : aK ≠ bV)); clear aC; clear aA; clear aG; clear aJ; clear aI; clear HB; have aC := eB; have aA := eD; have aG := eF; have aJ := eG; have aI := eH; have HB := eO; have bG := eP; have fV := fG; have bX := fT; have aT := fU; have bD := eQ; have aU := eU; have bE := eX; have aV := eY; have bF := eZ; have bL := fA; have bQ := fB; clear eB eD eF eG eH eO eP fG fT fU eQ eU eX eY eZ fA fB; clear hb hbox hg; have uN := bD.out; have uO := aT.out; have uP := bE.out; have uQ := aU.out; have uR := bF.out; have uS := aV.out; have uT := bQ.out; have uU := bL.out; obtain ⟨lL, lM, lN, lQ⟩ := zq2 bG.out) | ((with_reducible refine Qd (f := 51) rfl ?_); refine zD (some 16) Tryz.func51 _ ((Q3.calls bV bW bY bZ 6 gD fC fD w _ ?bT ?bU A5.out).mono ?_); (case bT => exact (Xw aI.out aM.out aN.out aQ.out bL.out)); (case bU => exact (Uw HB.out (Qe.ge aI.out) aW.out bK.out bM.out bX.out)); rintro e w22 ⟨rfl, hi, hb, hk⟩; refine ⟨_, rfl, ?_⟩; replace aA := Qa.mk (Qq.blk hk (g' := bH) (o := .cells #[.int .i64 0, .int .i64 0] 48 (0, 0)) (zk2 aA.out aT.out aT.out) bN.out (by simp)); replace aG := Qa.mk (Qq.blk hk (g' := bI) (o := .cells #[.int .i64 0, .int .i64 0] 48 (0, 0)) (zk2 aG.out aU.out aU.out) bO.out (by simp)); replace aJ := Qa.mk (Qq.blk hk (g' := bJ) (o := .cells #[.int .i64 0, .int .i64 0] 48 (0, 0)) (zk2 aJ.out aV.out aV.out) bP.out (by simp)); replace aC := Qa.mk (Kd.R_mono (Kd.R_keep (Qe.apart (show Qe w _ bV bW bY bZ from (Xw aI.out aM.out aN.out aQ.out bL.out)) (by (with_reducible repeat (first | apply Kd.R_alloc | apply Kd.R_drewN | apply Kd.R_drew)); exact (Kd.R_mono (Kd.R_far (p := ⟨aK, 1, none⟩) (Kd.R_far (p := ⟨aK, 0, none⟩) (Kd.R_mono aC.out (fun k_ hk => (⟨hk, hk.2⟩ : _ ∧ k_ ≠ aK))) (fun _ hk => hk.2) (.int .i64 ((Qb aD 2).f0))) (fun _ hk => hk.2) (.int .i64 ((Qb aD 2).f1))) (fun _ h_ => h_.1))) (by decide)) hk (fun _ h => h.2)) (fun _ h => h.1)); replace bG := Qa.mk (Qq.blk hk (g' := aK) (o := .cells #[.int .i64 ((Qb aD 2).f0), .int .i64 ((Qb aD 2).f1)] 48 (0, 0)) (zk0 bG.out) bQ.out (by simp)); replace aI := Qa.mk (hi); replace HB := Qa.mk (hb); (try clear hb); (try clear hk); (try clear hi)) | ((with_reducible refine Qo (N := 20) rfl ?_); refine Kd.R_lit (Kd.int .i64) _ 3 ?hg (N := 20) ?hd (xs := ([1000, 1001, (-1001)] : List Int)) (inner := [.int .i64 1000, .int .i64 1001, .int .i64 (-1001)]) (ok := fun _ => True) (okp := fun _ => True) ?hr ?hp (fun _ hk => hk) trivial (Below.refl _ _) (Nat.le_refl _) (by simp) ?_; (case hd => rfl); (case hg => rfl); (case hr => first | (go_simp; done) | (go_simp; rfl)); (case hp => exact (J6.one (show Kd.M (Kd.int .i64) _ _ _ 1000 [.int .i64 1000] from rfl) (J6.one (show Kd.M (Kd.int .i64) _ _ _ 1001 [.int .i64 1001] from rfl) (J6.one (show Kd.M (Kd.int .i64) _ _ _ (-1001) [.int .i64 (-1001)] from rfl) (J6.none _ _))))); intro yI w23 fZ hb hg_ hnew_; clear hg_ hnew_; (first | rw [← gI.out] at fZ | (simp only [Int.reduceToNat] at fZ; rw [← gI.out] at fZ)); have eB := zW aC.out hb; have eD := Qa.mk (Kd.R_lower fZ (Ql (zG5 (Qe.ge aI.out) aW.out bK.out bM.out bX.out))); have eF := zV aA.out hb; have eG := zV aG.out hb; have eH := zV aJ.out hb; have eO := Qa.mk (Qe.below (Xw aI.out aM.out aN.out aQ.out bL.out) hb); have eP := zV bG.out hb; have fG := Qa.mk (Qk (zG5 (Qe.ge aI.out) aW.out bK.out bM.out bX.out) hb); clear aC; clear aA; clear aG; clear aJ; clear aI; clear bG; clear HB; have aC := eB; have cB := eD; have aA := eF; have aG := eG; have aJ := eH; have aI := eO; have bG := eP; have HB := fG; clear eB eD eF eG eH eO eP fG; clear hb fZ; obtain ⟨iU, iV, sZ⟩ := Kd.R_slice cB.out; subst sZ) | ((with_reducible refine Qd (f := 88) rfl ?_); refine zD (some 21) Tryz.func88 #[.pointer (some ⟨bV, 0, none⟩), .slice iU gF.length iV] ((J7.calls bV bW fC fD _ _ gF cK iR iT w _ ?bT ?bU ?dA ?iW ?iX A7.out).mono ?_); (case bT => exact (Xw aI.out aM.out aN.out aQ.out bL.out)); (case bU => exact (Uw HB.out (Qe.ge aI.out) aW.out bK.out bM.out bX.out)); (case dA => exact zc ((Kd.R_reads' cB.out).2.2)); (case iW => exact (Kd.R_reads' cB.out).2.1); (case iX => exact Km (Qe.own_ne aI.out cB.out (by decide))); rintro e gG ⟨rfl, hi, hb, hk⟩; refine ⟨_, rfl, ?_⟩; replace aA := zKB hk aA.out bN.out; replace aG := zKB hk aG.out bO.out; replace aJ := zKB hk aJ.out bP.out; replace aC := Qa.mk (Kd.R_mono (Kd.R_keep (Qe.apart (show Qe w _ bV bW fC fD from (Xw aI.out aM.out aN.out aQ.out bL.out)) (zR aC.out) (by decide)) hk (fun _ h => h.2)) (fun _ h => h.1)); replace bG := zKB hk bG.out bQ.out; replace cB := Qa.mk (Kd.R_mono (Kd.R_keep (Qe.apart (show Qe w _ bV bW fC fD from (Xw aI.out aM.out aN.out aQ.out bL.out)) (zR cB.out) (by decide)) hk (fun _ h => h.2)) (fun _ h => h.1)); replace aI := Qa.mk (hi); replace HB := Qa.mk (hb); (try clear hb); (try clear hk); (try clear hi); obtain ⟨lU, lV, lW, lX⟩ := zq2 bG.out))
     have eB : Qa (Kd.R k48 48 (gG.setCell ⟨aK, 0, none⟩ (.int .i64 cK)) w.heap.size (fun k_ => k_ ≠ bH ∧ k_ ≠ bI ∧ k_ ≠ bJ ∧ k_ ≠ aK) (.slice (some aH) aD.length sV) aD) := ⟨by (with_reducible repeat (first | apply Kd.R_alloc | apply Kd.R_drewN | apply Kd.R_drew)); exact Kd.R_mono (Kd.R_far (p := ⟨aK, 0, none⟩) (Kd.R_mono aC.out (fun k_ hk => (⟨hk, hk.2⟩ : _ ∧ k_ ≠ aK))) (fun _ hk => hk.2) (.int .i64 cK)) (fun _ hk => ⟨hk.1.1.1.1.2, ⟨hk.1.1.1.2, ⟨hk.1.1.2, hk.1.2⟩⟩⟩)⟩
     have eD : Qa (Kd.R (Kd.int .i64) 3 (gG.setCell ⟨aK, 0, none⟩ (.int .i64 cK)) w.heap.size (fun _ => True) (.slice iU gF.length iV) gF) := ⟨by (with_reducible repeat (first | apply Kd.R_alloc | apply Kd.R_drewN | apply Kd.R_drew)); exact Kd.R_mono (Kd.R_far (p := ⟨aK, 0, none⟩) (Kd.R_types cB.out bG.out (by decide)) (fun _ hk => hk.2) (.int .i64 cK)) (fun _ hk => trivial)⟩
     have eF : Qa ((gG.setCell ⟨aK, 0, none⟩ (.int .i64 cK)).heap[bH]? = some (.cells #[.int .i64 0, .int .i64 0] 48 (0, 0))) := ⟨zk1 aA.out aT.out⟩
     have eG : Qa ((gG.setCell ⟨aK, 0, none⟩ (.int .i64 cK)).heap[bI]? = some (.cells #[.int .i64 0, .int .i64 0] 48 (0, 0))) := ⟨zk1 aG.out aU.out⟩
     have eH : Qa ((gG.setCell ⟨aK, 0, none⟩ (.int .i64 cK)).heap[bJ]? = some (.cells #[.int .i64 0, .int .i64 0] 48 (0, 0))) := ⟨zk1 aJ.out aV.out⟩
     have eO : Qa ((gG.setCell ⟨aK, 0, none⟩ (.int .i64 cK)).heap[aK]? = some (.cells #[.int .i64 cK, .int .i64 ((Qb aD 2).f1)] 48 (0, 0))) := ⟨zk0 bG.out⟩
     have eP : Qa (Qe w (gG.setCell ⟨aK, 0, none⟩ (.int .i64 cK)) bV bW iR iT) := ⟨(Xw aI.out aM.out aN.out aQ.out bL.out)⟩
     have fG : Qa (Below w.heap.size w (gG.setCell ⟨aK, 0, none⟩ (.int .i64 cK))) := ⟨zG5 (Qe.ge aI.out) aW.out bK.out bM.out bX.out⟩
     (try clear aC)
     (try clear cB)
     (try clear aA)
     (try clear aG)
     (try clear aJ)
     (try clear bG)
     (try clear aI)
     (try clear HB)
     generalize (gG.setCell ⟨aK, 0, none⟩ (.int .i64 cK)) = yJ at eB eD eF eG eH eO eP fG ⊢
     have aC := eB
     have cB := eD
     have aA := eF
     have aG := eG
     have aJ := eH
     have bG := eO
     have aI := eP
     have HB := fG
     clear eB eD eF eG eH eO eP fG
     replace aC := Qa.mk (Kd.R_drew aC.out)
     replace cB := Qa.mk (Kd.R_drew cB.out)
     replace aA := Qa.mk (Q8 aA.out)
     replace aG := Qa.mk (Q8 aG.out)
     replace aJ := Qa.mk (Q8 aJ.out)
     replace bG := Qa.mk (Q8 bG.out)
     replace aI := Qa.mk (Qe.drew aI.out)
     replace HB := Qa.mk (Qp HB.out)
     have gL : 0 ≤ (0 : Int) := (by omega)
     have gM : 0 < (aD.length : Int) := zA
     obtain ⟨iY, tC, dB, dC⟩ := Jj (Kd.R_reads' aC.out).2.2 0 gL gM
     obtain rfl : aH = iY := (by injection tC)
     have uV : (0 < aD.length) = True := eq_true (by omega)
     (try rw [show ((0 : Int)).toNat = 0 from rfl] at dB)
     (try rw [show 0 * 2 = 0 from rfl] at dB)
     (try rw [Addr.add_zero'] at dB)
     (try rw [show ((0 : Int)).toNat = 0 from rfl] at dC)
     (try rw [show 0 * 2 = 0 from rfl] at dC)
     (try rw [Addr.add_zero'] at dC)
     replace gL := eq_true gL
     replace gM := eq_true gM
     have gN : 0 ≤ (1 : Int) := (by omega)
     have gP : 1 < (aD.length : Int) := zA
     obtain ⟨iZ, tF, dD, dE⟩ := Jj (Kd.R_reads' aC.out).2.2 1 gN gP
     obtain rfl : aH = iZ := (by injection tF)
     (try simp only [show (1 : Int).toNat = 1 from rfl, Nat.reduceMul, Nat.reduceEqDiff, Go.Addr.add, ↓reduceIte] at dD)
     (try simp only [show (1 : Int).toNat = 1 from rfl, Nat.reduceMul, Nat.reduceEqDiff, Go.Addr.add, ↓reduceIte] at dE)
     have uW : (1 < aD.length) = True := eq_true (by omega)
     (try rw [show ((1 : Int)).toNat = 1 from rfl] at dD)
     (try rw [show 1 * 2 = 2 from rfl] at dD)
     (try rw [show ((1 : Int)).toNat = 1 from rfl] at dE)
     (try rw [show 1 * 2 = 2 from rfl] at dE)
     replace gN := eq_true gN
     replace gP := eq_true gP
     refine Zy (n := 10) (S := fun w' => w'.cell? ⟨aK, 0, none⟩ = some (.int .i64 cK) ∧ w'.cell? ⟨aK, 1, none⟩ = some (.int .i64 ((Qb aD 2).f1)) ∧ w'.cell? aH = some (.int .i64 ((Qb aD 0).f0)) ∧ w'.cell? ⟨aH.block, aH.off + 1, none⟩ = some (.int .i64 ((Qb aD 0).f1)) ∧ w'.cell? ⟨aH.block, aH.off + 2, none⟩ = some (.int .i64 ((Qb aD 1).f0)) ∧ w'.cell? ⟨aH.block, aH.off + 2 + 1, none⟩ = some (.int .i64 ((Qb aD 1).f1))) (ds := []) #[false, false, false, false, false, false, false, false, false, false] (by kernel_rfl) rfl rfl ⟨(Qn bG.out 0).trans rfl, (Qn bG.out 1).trans rfl, dB, dC, dD, dE⟩ (fun hHeld => ?_); refine Jr Ja.tab11 Ja.bits11 (fun HT_ HW_ => ?_)
     generalize yJ.drew = iO at aC cB aA aG aJ bG aI HB dB dC dD dE hHeld ⊢
     refine zP 0 (some 51) rfl rfl ?_
     refine zP 1 (some 52) rfl rfl ?_
     refine zP 3 (some 54) rfl rfl ?_
     refine zP 4 (some 55) rfl rfl ?_
     refine zY6 2 (some 53) rfl rfl hHeld ?_
     refine zY6 5 (some 56) rfl rfl hHeld ?_
     refine zY6 6 (some 57) rfl rfl hHeld ?_
     refine zU 7 none rfl rfl (fun K hK => ?_)
     have yK : iO.cell? ⟨bH, 0, none⟩ = some (.int .i64 0) := (Qn aA.out 0).trans rfl
     have uX := Qy aA.out 0
     have lY := aY.out
     have lZ := bA.out
     have mD := bD.out
     have mE := aX.out
     have mF := aZ.out
     have mG := aT.out
     have yL : iO.cell? ⟨bH, 1, none⟩ = some (.int .i64 0) := (Qn aA.out 1).trans rfl
     have uY := Qy aA.out 1
     have mH := aY.out
     have mI := bA.out
     have mJ := bD.out
     have mK := aX.out
     have mM := aZ.out
     have mO := aT.out
     refine Vi (w1 := ?_) (by rfl) rfl ?_ ?_
     rotate_left
     ·go_simp
      rfl
     refine hK.out _ _ ⟨Q0 bD.out hHeld.1, Q0 bD.out hHeld.2.1, Q0 (show aH.block ≠ bH from Kd.own_blk (Kd.R_away aC.out (fun _ hk => hk.1))) hHeld.2.2.1, Q0 (show aH.block ≠ bH from Kd.own_blk (Kd.R_away aC.out (fun _ hk => hk.1))) hHeld.2.2.2.1, Q0 (show aH.block ≠ bH from Kd.own_blk (Kd.R_away aC.out (fun _ hk => hk.1))) hHeld.2.2.2.2.1, Q0 (show aH.block ≠ bH from Kd.own_blk (Kd.R_away aC.out (fun _ hk => hk.1))) hHeld.2.2.2.2.2⟩ (fun hHeld => ?_)
     clear hK K
     refine zU 8 none rfl rfl (fun K hK => ?_)
     have yM : iO.cell? ⟨bI, 0, none⟩ = some (.int .i64 0) := (Qn aG.out 0).trans rfl
     have uZ := Qy aG.out 0
     have mP := aX.out
     have mQ := bC.out
     have mR := bE.out
     have mU := aY.out
     have mV := bB.out
     have mW := aU.out
     have yN : iO.cell? ⟨bI, 1, none⟩ = some (.int .i64 0) := (Qn aG.out 1).trans rfl
     have vB := Qy aG.out 1
     have mX := aX.out
     have mY := bC.out
     have mZ := bE.out
     have nA := aY.out
     have nC := bB.out
     have nD := aU.out
     refine Vi (w1 := ?_) (by rfl) rfl ?_ ?_
     rotate_left
     ·go_simp
      rfl
     refine hK.out _ _ ⟨Q0 bE.out hHeld.1, Q0 bE.out hHeld.2.1, Q0 (show aH.block ≠ bI from Kd.own_blk (Kd.R_away aC.out (fun _ hk => hk.2.1))) hHeld.2.2.1, Q0 (show aH.block ≠ bI from Kd.own_blk (Kd.R_away aC.out (fun _ hk => hk.2.1))) hHeld.2.2.2.1, Q0 (show aH.block ≠ bI from Kd.own_blk (Kd.R_away aC.out (fun _ hk => hk.2.1))) hHeld.2.2.2.2.1, Q0 (show aH.block ≠ bI from Kd.own_blk (Kd.R_away aC.out (fun _ hk => hk.2.1))) hHeld.2.2.2.2.2⟩ (fun hHeld => ?_)
     clear hK K
     refine zU 9 none rfl rfl (fun K hK => ?_)
     have yO : iO.cell? ⟨bJ, 0, none⟩ = some (.int .i64 0) := (Qn aJ.out 0).trans rfl
     have vC := Qy aJ.out 0
     have nE := aZ.out
     have nG := bB.out
     have nH := bF.out
     have nI := bA.out
     have nJ := bC.out
     have nK := aV.out
     have yP : iO.cell? ⟨bJ, 1, none⟩ = some (.int .i64 0) := (Qn aJ.out 1).trans rfl
     have vD := Qy aJ.out 1
     have nL := aZ.out
     have nM := bB.out
     have nN := bF.out
     have nO := bA.out
     have nP := bC.out
     have nQ := aV.out
     refine Vi (w1 := ?_) (by rfl) rfl ?_ ?_
     rotate_left
     ·go_simp
      rfl
     refine hK.out _ _ ⟨Q0 bF.out hHeld.1, Q0 bF.out hHeld.2.1, Q0 (show aH.block ≠ bJ from Kd.own_blk (Kd.R_away aC.out (fun _ hk => hk.2.2.1))) hHeld.2.2.1, Q0 (show aH.block ≠ bJ from Kd.own_blk (Kd.R_away aC.out (fun _ hk => hk.2.2.1))) hHeld.2.2.2.1, Q0 (show aH.block ≠ bJ from Kd.own_blk (Kd.R_away aC.out (fun _ hk => hk.2.2.1))) hHeld.2.2.2.2.1, Q0 (show aH.block ≠ bJ from Kd.own_blk (Kd.R_away aC.out (fun _ hk => hk.2.2.1))) hHeld.2.2.2.2.2⟩ (fun hHeld => ?_)
     clear hK K
     refine Ya (Zj HT_.out (by kernel_rfl)) ?_
     try go_wp2
     refine bodyPost_ret (Yn (rs := [.cell 2 48, .cell 3 48, .cell 4 48]) rfl (by simp) (.cell bH 48 #[.int .i64 ((Qb aD 0).f0), .int .i64 ((Qb aD 0).f1)] (0, 0) _ rfl (zk4 aA.out aZ.out aZ.out aX.out aX.out) Tryz.underlying48 rfl (by kernel_rfl) (.cell bI 48 #[.int .i64 ((Qb aD 1).f0), .int .i64 ((Qb aD 1).f1)] (0, 0) _ rfl (zk4 aG.out bB.out bB.out aY.out aY.out) Tryz.underlying48 rfl (by kernel_rfl) (.cell bJ 48 #[.int .i64 cK, .int .i64 ((Qb aD 2).f1)] (0, 0) _ rfl (zk4 aJ.out bC.out bC.out bA.out bA.out) Tryz.underlying48 rfl (by kernel_rfl) .nil)))) rfl ?_
     exact ⟨zE, zG5 (Qe.ge aI.out) aW.out bK.out bM.out bX.out⟩
    exact absurd H (by simp)
   exact absurd H (by simp)
  replace H := Zb H
  rcases H with ⟨jA, jB, H⟩ | ⟨c36, jA, jB, H⟩
  ·replace H := Yc H
   rcases H with ⟨c37, vE, H⟩ | ⟨c37, H⟩
   ·have vF : decide (0 < aD.length) = true := decide_eq_true (by omega)
    clear c37
    replace H := Yc H
    rcases H with ⟨vG, vH, H⟩ | ⟨vG, H⟩
    ·have vI : decide (1 < aD.length) = true := decide_eq_true (by omega)
     clear vG
     simp only [Option.some.injEq, Prod.mk.injEq] at H
     obtain ⟨rfl, rfl, rfl, rfl, rfl, rfl⟩ := H
     go_enter Tryz.func84, Tryz.ntmps84
     try go_wp2_with (first | ((with_reducible refine Qo (N := 2) rfl ?_); refine zBx (N := 2) #[.int .i64 0, .int .i64 0] 48 ?_; intro bH hg w39 hbox hb; have aA := Qa.mk (hbox); have fM := zS hg; have aW := zS hg; replace HB := zX hb; clear hb hbox hg) | ((with_reducible refine Qo (N := 3) rfl ?_); refine zBx (N := 3) #[.int .i64 0, .int .i64 0] 48 ?_; intro bI hg w40 hbox hb; have aG := Qa.mk (hbox); have fO := zSg hg (zG aW.out); have bK := zSg hg (zG aW.out); have aX := zL hg aA.out; have aY := zLg hg aA.out; replace aA := zV aA.out hb; replace HB := zX1 aW.out hb; clear hb hbox hg) | ((with_reducible refine Qo (N := 4) rfl ?_); refine zBx (N := 4) #[.int .i64 0, .int .i64 0] 48 ?_; intro bJ hg w41 hbox hb; have aJ := Qa.mk (hbox); have fP := zSg hg (zG2 aW.out bK.out); have bM := zSg hg (zG2 aW.out bK.out); have aZ := zL hg aA.out; have bA := zLg hg aA.out; replace aA := zV aA.out hb; have bB := zL hg aG.out; have bC := zLg hg aG.out; replace aG := zV aG.out hb; replace HB := Qa.mk (Qk (zG2 aW.out bK.out) hb); clear hb hbox hg) | ((with_reducible refine Qd (f := 49) rfl ?_); refine zD (some 9) Tryz.func49 #[.slice A0 l0.length c0] ((Jm.calls k _ _ l0 bW fH fI w _ ?bT ?bU ?dA A2.out).mono ?_); (case bT => exact (jAv HB.out aW.out bK.out bM.out)); (case bU => exact lJ.out); (case dA => exact lK.out); rintro e w42 ⟨bV, rfl, hi, hb, hb2⟩; refine ⟨_, rfl, ?_⟩; have aI := Qa.mk (hi); have aM := Qa.mk (Qe.ne_blk hi (Je (g := bH) (o := .cells #[.int .i64 0, .int .i64 0] 48 (0, 0)) (zK aA.out) hb2) (by decide)); have bN := Qa.mk (Ne.symm (Qe.ne_blk hi (Je (g := bH) (o := .cells #[.int .i64 0, .int .i64 0] 48 (0, 0)) (zK aA.out) hb2) (by decide))); replace aA := Qa.mk (Je (g := bH) (o := .cells #[.int .i64 0, .int .i64 0] 48 (0, 0)) (zK aA.out) hb2); have aN := Qa.mk (Qe.ne_blk hi (Je (g := bI) (o := .cells #[.int .i64 0, .int .i64 0] 48 (0, 0)) (zK aG.out) hb2) (by decide)); have bO := Qa.mk (Ne.symm (Qe.ne_blk hi (Je (g := bI) (o := .cells #[.int .i64 0, .int .i64 0] 48 (0, 0)) (zK aG.out) hb2) (by decide))); replace aG := Qa.mk (Je (g := bI) (o := .cells #[.int .i64 0, .int .i64 0] 48 (0, 0)) (zK aG.out) hb2); have aQ := Qa.mk (Qe.ne_blk hi (Je (g := bJ) (o := .cells #[.int .i64 0, .int .i64 0] 48 (0, 0)) (zK aJ.out) hb2) (by decide)); have bP := Qa.mk (Ne.symm (Qe.ne_blk hi (Je (g := bJ) (o := .cells #[.int .i64 0, .int .i64 0] 48 (0, 0)) (zK aJ.out) hb2) (by decide))); replace aJ := Qa.mk (Je (g := bJ) (o := .cells #[.int .i64 0, .int .i64 0] 48 (0, 0)) (zK aJ.out) hb2); replace HB := Qa.mk (hb); (try clear hb); (try clear hb2); (try clear hi)) | ((with_reducible refine Qd (f := 85) rfl ?_); refine zD (some 11) Tryz.func85 _ ((Qj.calls k bV bW fH fI aD bY bZ w _ ?bT ?bU A3.out).mono ?_); (case bT => exact (Xp aI.out aM.out aN.out aQ.out)); (case bU => exact (jAq HB.out (Qe.ge aI.out) aW.out bK.out bM.out)); rintro e w43 ⟨gK, rfl, ho0, hi, hb, hk⟩; refine ⟨_, rfl, ?_⟩; have aC := Qa.mk (Kd.R_lower (Kd.R_newB (Kd.R_newB (Kd.R_newB ho0 (g := bH) (o := .cells #[.int .i64 0, .int .i64 0] 48 (0, 0)) (zK aA.out)) (g := bI) (o := .cells #[.int .i64 0, .int .i64 0] 48 (0, 0)) (zK aG.out)) (g := bJ) (o := .cells #[.int .i64 0, .int .i64 0] 48 (0, 0)) (zK aJ.out)) (Ql (zG4 (Qe.ge aI.out) aW.out bK.out bM.out))); replace aA := zKB hk aA.out bN.out; replace aG := zKB hk aG.out bO.out; replace aJ := zKB hk aJ.out bP.out; replace aI := Qa.mk (hi); replace HB := Qa.mk (hb); (try clear hb); (try clear hk); (try clear hi); (try clear ho0); obtain ⟨yQ, tH, tJ⟩ := Kd.R_slice aC.out; subst tJ; have cO : 0 ≤ (2 : Int) := (by omega); have cZ : 2 < (aD.length : Int) := zA; obtain ⟨aH, fJ, bR, bS⟩ := Jj (Kd.R_reads' aC.out).2.2 2 cO cZ; cases fJ; (try simp only [show (2 : Int).toNat = 2 from rfl, Nat.reduceMul, Nat.reduceEqDiff, Go.Addr.add, ↓reduceIte] at bR); (try simp only [show (2 : Int).toNat = 2 from rfl, Nat.reduceMul, Nat.reduceEqDiff, Go.Addr.add, ↓reduceIte] at bS); have fQ : (2 < aD.length) = True := eq_true (by omega); (try rw [show ((2 : Int)).toNat = 2 from rfl] at bR); (try rw [show 2 * 2 = 4 from rfl] at bR); (try rw [show ((2 : Int)).toNat = 2 from rfl] at bS); (try rw [show 2 * 2 = 4 from rfl] at bS); replace cO := eq_true cO; replace cZ := eq_true cZ) | ((with_reducible refine Qo (N := 7) rfl ?_); refine zBx (N := 7) #[.int .i64 0, .int .i64 0] 48 ?_; intro aK hg w45 hbox hb; have eB := Qa.mk (Kd.R_below (Kd.R_elderB (zR aC.out) aK (Nat.le_of_eq hg.symm)) hb); have eD := zV aA.out hb; have eF := zV aG.out hb; have eG := zV aJ.out hb; have eH := Qa.mk (Qe.below (Xp aI.out aM.out aN.out aQ.out) hb); have eO := Qa.mk (Qk (zG4 (Qe.ge aI.out) aW.out bK.out bM.out) hb); have eP := Qa.mk (hbox); have fG := zSg hg (zG4 (Qe.ge aI.out) aW.out bK.out bM.out); have fT := zSg hg (zG4 (Qe.ge aI.out) aW.out bK.out bM.out); have fU := zL hg aA.out; have eQ := zLg hg aA.out; have eU := zL hg aG.out; have eX := zLg hg aG.out; have eY := zL hg aJ.out; have eZ := zLg hg aJ.out; have fA := Qa.mk ((by rw [hg]; exact Nat.ne_of_lt (Qe.lt (show Qe w _ bV bW bY bZ from (Xp aI.out aM.out aN.out aQ.out))) : bV ≠ aK)); have fB := Qa.mk ((by rw [hg]; exact Nat.ne_of_gt (Qe.lt (show Qe w _ bV bW bY bZ from (Xp aI.out aM.out aN.out aQ.out))) : aK ≠ bV)); clear aC; clear aA; clear aG; clear aJ; clear aI; clear HB; have aC := eB; have aA := eD; have aG := eF; have aJ := eG; have aI := eH; have HB := eO; have bG := eP; have fV := fG; have bX := fT; have aT := fU; have bD := eQ; have aU := eU; have bE := eX; have aV := eY; have bF := eZ; have bL := fA; have bQ := fB; clear eB eD eF eG eH eO eP fG fT fU eQ eU eX eY eZ fA fB; clear hb hbox hg; have vJ := bD.out; have vK := aT.out; have vM := bE.out; have vN := aU.out; have vO := bF.out; have vP := aV.out; have vQ := bQ.out; have vR := bL.out; obtain ⟨nR, nS, nT, nU⟩ := zq2 bG.out) | ((with_reducible refine Qd (f := 51) rfl ?_); refine zD (some 16) Tryz.func51 _ ((Q3.calls bV bW bY bZ 6 gD fC fD w _ ?bT ?bU A5.out).mono ?_); (case bT => exact (Xw aI.out aM.out aN.out aQ.out bL.out)); (case bU => exact (Uw HB.out (Qe.ge aI.out) aW.out bK.out bM.out bX.out)); rintro e gJ ⟨rfl, hi, hb, hk⟩; refine ⟨_, rfl, ?_⟩; replace aA := Qa.mk (Qq.blk hk (g' := bH) (o := .cells #[.int .i64 0, .int .i64 0] 48 (0, 0)) (zk2 aA.out aT.out aT.out) bN.out (by simp)); replace aG := Qa.mk (Qq.blk hk (g' := bI) (o := .cells #[.int .i64 0, .int .i64 0] 48 (0, 0)) (zk2 aG.out aU.out aU.out) bO.out (by simp)); replace aJ := Qa.mk (Qq.blk hk (g' := bJ) (o := .cells #[.int .i64 0, .int .i64 0] 48 (0, 0)) (zk2 aJ.out aV.out aV.out) bP.out (by simp)); replace aC := Qa.mk (Kd.R_mono (Kd.R_keep (Qe.apart (show Qe w _ bV bW bY bZ from (Xw aI.out aM.out aN.out aQ.out bL.out)) (by (with_reducible repeat (first | apply Kd.R_alloc | apply Kd.R_drewN | apply Kd.R_drew)); exact (Kd.R_mono (Kd.R_far (p := ⟨aK, 1, none⟩) (Kd.R_far (p := ⟨aK, 0, none⟩) (Kd.R_mono aC.out (fun k_ hk => (⟨hk, hk.2⟩ : _ ∧ k_ ≠ aK))) (fun _ hk => hk.2) (.int .i64 ((Qb aD 2).f0))) (fun _ hk => hk.2) (.int .i64 ((Qb aD 2).f1))) (fun _ h_ => h_.1))) (by decide)) hk (fun _ h => h.2)) (fun _ h => h.1)); replace bG := Qa.mk (Qq.blk hk (g' := aK) (o := .cells #[.int .i64 ((Qb aD 2).f0), .int .i64 ((Qb aD 2).f1)] 48 (0, 0)) (zk0 bG.out) bQ.out (by simp)); replace aI := Qa.mk (hi); replace HB := Qa.mk (hb); (try clear hb); (try clear hk); (try clear hi); have gQ : 0 ≤ (0 : Int) := (by omega); have gT : 0 < (aD.length : Int) := zA; obtain ⟨jC, tK, fE, fF⟩ := Jj (Kd.R_reads' aC.out).2.2 0 gQ gT; obtain rfl : aH = jC := (by injection tK); have vS : (0 < aD.length) = True := eq_true (by omega); (try rw [show ((0 : Int)).toNat = 0 from rfl] at fE); (try rw [show 0 * 2 = 0 from rfl] at fE); (try rw [Addr.add_zero'] at fE); (try rw [show ((0 : Int)).toNat = 0 from rfl] at fF); (try rw [show 0 * 2 = 0 from rfl] at fF); (try rw [Addr.add_zero'] at fF); replace gQ := eq_true gQ; replace gT := eq_true gT; obtain ⟨nV, nW, nX, nY⟩ := zq2 bG.out))
     have eB : Qa (Kd.R k48 48 ((gJ.setCell ⟨aK, 0, none⟩ (.int .i64 ((Qb aD 0).f0))).setCell ⟨aK, 1, none⟩ (.int .i64 ((Qb aD 0).f1))) w.heap.size (fun k_ => k_ ≠ bH ∧ k_ ≠ bI ∧ k_ ≠ bJ ∧ k_ ≠ aK) (.slice (some aH) aD.length tH) aD) := ⟨by (with_reducible repeat (first | apply Kd.R_alloc | apply Kd.R_drewN | apply Kd.R_drew)); exact Kd.R_mono (Kd.R_far (p := ⟨aK, 1, none⟩) (Kd.R_far (p := ⟨aK, 0, none⟩) (Kd.R_mono aC.out (fun k_ hk => (⟨hk, hk.2⟩ : _ ∧ k_ ≠ aK))) (fun _ hk => hk.2) (.int .i64 ((Qb aD 0).f0))) (fun _ hk => hk.2) (.int .i64 ((Qb aD 0).f1))) (fun _ hk => ⟨hk.1.1.1.1.2, ⟨hk.1.1.1.2, ⟨hk.1.1.2, hk.1.2⟩⟩⟩)⟩
     have eD : Qa (((gJ.setCell ⟨aK, 0, none⟩ (.int .i64 ((Qb aD 0).f0))).setCell ⟨aK, 1, none⟩ (.int .i64 ((Qb aD 0).f1))).heap[bH]? = some (.cells #[.int .i64 0, .int .i64 0] 48 (0, 0))) := ⟨zk2 aA.out aT.out aT.out⟩
     have eF : Qa (((gJ.setCell ⟨aK, 0, none⟩ (.int .i64 ((Qb aD 0).f0))).setCell ⟨aK, 1, none⟩ (.int .i64 ((Qb aD 0).f1))).heap[bI]? = some (.cells #[.int .i64 0, .int .i64 0] 48 (0, 0))) := ⟨zk2 aG.out aU.out aU.out⟩
     have eG : Qa (((gJ.setCell ⟨aK, 0, none⟩ (.int .i64 ((Qb aD 0).f0))).setCell ⟨aK, 1, none⟩ (.int .i64 ((Qb aD 0).f1))).heap[bJ]? = some (.cells #[.int .i64 0, .int .i64 0] 48 (0, 0))) := ⟨zk2 aJ.out aV.out aV.out⟩
     have eH : Qa (((gJ.setCell ⟨aK, 0, none⟩ (.int .i64 ((Qb aD 0).f0))).setCell ⟨aK, 1, none⟩ (.int .i64 ((Qb aD 0).f1))).heap[aK]? = some (.cells #[.int .i64 ((Qb aD 0).f0), .int .i64 ((Qb aD 0).f1)] 48 (0, 0))) := ⟨zk0 bG.out⟩
     have eO : Qa (Qe w ((gJ.setCell ⟨aK, 0, none⟩ (.int .i64 ((Qb aD 0).f0))).setCell ⟨aK, 1, none⟩ (.int .i64 ((Qb aD 0).f1))) bV bW fC fD) := ⟨(Xw aI.out aM.out aN.out aQ.out bL.out)⟩
     have eP : Qa (Below w.heap.size w ((gJ.setCell ⟨aK, 0, none⟩ (.int .i64 ((Qb aD 0).f0))).setCell ⟨aK, 1, none⟩ (.int .i64 ((Qb aD 0).f1)))) := ⟨zG5 (Qe.ge aI.out) aW.out bK.out bM.out bX.out⟩
     (try clear aC)
     (try clear aA)
     (try clear aG)
     (try clear aJ)
     (try clear bG)
     (try clear aI)
     (try clear HB)
     generalize ((gJ.setCell ⟨aK, 0, none⟩ (.int .i64 ((Qb aD 0).f0))).setCell ⟨aK, 1, none⟩ (.int .i64 ((Qb aD 0).f1))) = yR at eB eD eF eG eH eO eP ⊢
     have aC := eB
     have aA := eD
     have aG := eF
     have aJ := eG
     have bG := eH
     have aI := eO
     have HB := eP
     clear eB eD eF eG eH eO eP
     replace aC := Qa.mk (Kd.R_drew aC.out)
     replace aA := Qa.mk (Q8 aA.out)
     replace aG := Qa.mk (Q8 aG.out)
     replace aJ := Qa.mk (Q8 aJ.out)
     replace bG := Qa.mk (Q8 bG.out)
     replace aI := Qa.mk (Qe.drew aI.out)
     replace HB := Qa.mk (Qp HB.out)
     have gU : 0 ≤ (0 : Int) := (by omega)
     have gV : 0 < (aD.length : Int) := zA
     obtain ⟨jD, tL, dF, dG⟩ := Jj (Kd.R_reads' aC.out).2.2 0 gU gV
     obtain rfl : aH = jD := (by injection tL)
     have vT : (0 < aD.length) = True := eq_true (by omega)
     (try rw [show ((0 : Int)).toNat = 0 from rfl] at dF)
     (try rw [show 0 * 2 = 0 from rfl] at dF)
     (try rw [Addr.add_zero'] at dF)
     (try rw [show ((0 : Int)).toNat = 0 from rfl] at dG)
     (try rw [show 0 * 2 = 0 from rfl] at dG)
     (try rw [Addr.add_zero'] at dG)
     replace gU := eq_true gU
     replace gV := eq_true gV
     have gW : 0 ≤ (1 : Int) := (by omega)
     have gX : 1 < (aD.length : Int) := zA
     obtain ⟨jE, tN, dH, dI⟩ := Jj (Kd.R_reads' aC.out).2.2 1 gW gX
     obtain rfl : aH = jE := (by injection tN)
     (try simp only [show (1 : Int).toNat = 1 from rfl, Nat.reduceMul, Nat.reduceEqDiff, Go.Addr.add, ↓reduceIte] at dH)
     (try simp only [show (1 : Int).toNat = 1 from rfl, Nat.reduceMul, Nat.reduceEqDiff, Go.Addr.add, ↓reduceIte] at dI)
     have vU : (1 < aD.length) = True := eq_true (by omega)
     (try rw [show ((1 : Int)).toNat = 1 from rfl] at dH)
     (try rw [show 1 * 2 = 2 from rfl] at dH)
     (try rw [show ((1 : Int)).toNat = 1 from rfl] at dI)
     (try rw [show 1 * 2 = 2 from rfl] at dI)
     replace gW := eq_true gW
     replace gX := eq_true gX
     refine Zy (n := 10) (S := fun w' => w'.cell? ⟨aK, 0, none⟩ = some (.int .i64 ((Qb aD 0).f0)) ∧ w'.cell? ⟨aK, 1, none⟩ = some (.int .i64 ((Qb aD 0).f1)) ∧ w'.cell? aH = some (.int .i64 ((Qb aD 0).f0)) ∧ w'.cell? ⟨aH.block, aH.off + 1, none⟩ = some (.int .i64 ((Qb aD 0).f1)) ∧ w'.cell? ⟨aH.block, aH.off + 2, none⟩ = some (.int .i64 ((Qb aD 1).f0)) ∧ w'.cell? ⟨aH.block, aH.off + 2 + 1, none⟩ = some (.int .i64 ((Qb aD 1).f1))) (ds := []) #[false, false, false, false, false, false, false, false, false, false] (by kernel_rfl) rfl rfl ⟨(Qn bG.out 0).trans rfl, (Qn bG.out 1).trans rfl, dF, dG, dH, dI⟩ (fun hHeld => ?_); refine Jr Ja.tab11 Ja.bits11 (fun HT_ HW_ => ?_)
     generalize yR.drew = iP at aC aA aG aJ bG aI HB dF dG dH dI hHeld ⊢
     refine zP 0 (some 51) rfl rfl ?_
     refine zP 1 (some 52) rfl rfl ?_
     refine zP 3 (some 54) rfl rfl ?_
     refine zP 4 (some 55) rfl rfl ?_
     refine zY6 2 (some 53) rfl rfl hHeld ?_
     refine zY6 5 (some 56) rfl rfl hHeld ?_
     refine zY6 6 (some 57) rfl rfl hHeld ?_
     refine zU 7 none rfl rfl (fun K hK => ?_)
     have yS : iP.cell? ⟨bH, 0, none⟩ = some (.int .i64 0) := (Qn aA.out 0).trans rfl
     have vV := Qy aA.out 0
     have nZ := aY.out
     have oC := bA.out
     have oD := bD.out
     have oF := aX.out
     have oG := aZ.out
     have oH := aT.out
     have yT : iP.cell? ⟨bH, 1, none⟩ = some (.int .i64 0) := (Qn aA.out 1).trans rfl
     have vW := Qy aA.out 1
     have oI := aY.out
     have oJ := bA.out
     have oK := bD.out
     have oL := aX.out
     have oM := aZ.out
     have oN := aT.out
     refine Vi (w1 := ?_) (by rfl) rfl ?_ ?_
     rotate_left
     ·go_simp
      rfl
     refine hK.out _ _ ⟨Q0 bD.out hHeld.1, Q0 bD.out hHeld.2.1, Q0 (show aH.block ≠ bH from Kd.own_blk (Kd.R_away aC.out (fun _ hk => hk.1))) hHeld.2.2.1, Q0 (show aH.block ≠ bH from Kd.own_blk (Kd.R_away aC.out (fun _ hk => hk.1))) hHeld.2.2.2.1, Q0 (show aH.block ≠ bH from Kd.own_blk (Kd.R_away aC.out (fun _ hk => hk.1))) hHeld.2.2.2.2.1, Q0 (show aH.block ≠ bH from Kd.own_blk (Kd.R_away aC.out (fun _ hk => hk.1))) hHeld.2.2.2.2.2⟩ (fun hHeld => ?_)
     clear hK K
     refine zU 8 none rfl rfl (fun K hK => ?_)
     have yU : iP.cell? ⟨bI, 0, none⟩ = some (.int .i64 0) := (Qn aG.out 0).trans rfl
     have vX := Qy aG.out 0
     have oO := aX.out
     have oP := bC.out
     have oQ := bE.out
     have oU := aY.out
     have oV := bB.out
     have oW := aU.out
     have yV : iP.cell? ⟨bI, 1, none⟩ = some (.int .i64 0) := (Qn aG.out 1).trans rfl
     have vY := Qy aG.out 1
     have oZ := aX.out
     have pE := bC.out
     have pF := bE.out
     have pG := aY.out
     have pI := bB.out
     have pJ := aU.out
     refine Vi (w1 := ?_) (by rfl) rfl ?_ ?_
     rotate_left
     ·go_simp
      rfl
     refine hK.out _ _ ⟨Q0 bE.out hHeld.1, Q0 bE.out hHeld.2.1, Q0 (show aH.block ≠ bI from Kd.own_blk (Kd.R_away aC.out (fun _ hk => hk.2.1))) hHeld.2.2.1, Q0 (show aH.block ≠ bI from Kd.own_blk (Kd.R_away aC.out (fun _ hk => hk.2.1))) hHeld.2.2.2.1, Q0 (show aH.block ≠ bI from Kd.own_blk (Kd.R_away aC.out (fun _ hk => hk.2.1))) hHeld.2.2.2.2.1, Q0 (show aH.block ≠ bI from Kd.own_blk (Kd.R_away aC.out (fun _ hk => hk.2.1))) hHeld.2.2.2.2.2⟩ (fun hHeld => ?_)
     clear hK K
     refine zU 9 none rfl rfl (fun K hK => ?_)
     have yX : iP.cell? ⟨bJ, 0, none⟩ = some (.int .i64 0) := (Qn aJ.out 0).trans rfl
     have vZ := Qy aJ.out 0
     have pK := aZ.out
     have pM := bB.out
     have pO := bF.out
     have pQ := bA.out
     have pR := bC.out
     have pU := aV.out
     have yY : iP.cell? ⟨bJ, 1, none⟩ = some (.int .i64 0) := (Qn aJ.out 1).trans rfl
     have wB := Qy aJ.out 1
     have pV := aZ.out
     have pW := bB.out
     have pX := bF.out
     have pY := bA.out
     have qA := bC.out
     have qB := aV.out
     refine Vi (w1 := ?_) (by rfl) rfl ?_ ?_
     rotate_left
     ·go_simp
      rfl
     refine hK.out _ _ ⟨Q0 bF.out hHeld.1, Q0 bF.out hHeld.2.1, Q0 (show aH.block ≠ bJ from Kd.own_blk (Kd.R_away aC.out (fun _ hk => hk.2.2.1))) hHeld.2.2.1, Q0 (show aH.block ≠ bJ from Kd.own_blk (Kd.R_away aC.out (fun _ hk => hk.2.2.1))) hHeld.2.2.2.1, Q0 (show aH.block ≠ bJ from Kd.own_blk (Kd.R_away aC.out (fun _ hk => hk.2.2.1))) hHeld.2.2.2.2.1, Q0 (show aH.block ≠ bJ from Kd.own_blk (Kd.R_away aC.out (fun _ hk => hk.2.2.1))) hHeld.2.2.2.2.2⟩ (fun hHeld => ?_)
     clear hK K
     refine Ya (Zj HT_.out (by kernel_rfl)) ?_
     try go_wp2
     refine bodyPost_ret (Yn (rs := [.cell 2 48, .cell 3 48, .cell 4 48]) rfl (by simp) (.cell bH 48 #[.int .i64 ((Qb aD 0).f0), .int .i64 ((Qb aD 0).f1)] (0, 0) _ rfl (zk4 aA.out aZ.out aZ.out aX.out aX.out) Tryz.underlying48 rfl (by kernel_rfl) (.cell bI 48 #[.int .i64 ((Qb aD 1).f0), .int .i64 ((Qb aD 1).f1)] (0, 0) _ rfl (zk4 aG.out bB.out bB.out aY.out aY.out) Tryz.underlying48 rfl (by kernel_rfl) (.cell bJ 48 #[.int .i64 ((Qb aD 0).f0), .int .i64 ((Qb aD 0).f1)] (0, 0) _ rfl (zk4 aJ.out bC.out bC.out bA.out bA.out) Tryz.underlying48 rfl (by kernel_rfl) .nil)))) rfl ?_
     exact ⟨zE, zG5 (Qe.ge aI.out) aW.out bK.out bM.out bX.out⟩
    exact absurd H (by simp)
   exact absurd H (by simp)
  replace H := Zb H
  rcases H with ⟨jF, jG, H⟩ | ⟨c61, jF, jG, H⟩
  ·replace H := Yc H
   rcases H with ⟨wC, wD, H⟩ | ⟨wC, H⟩
   ·have wE : decide (1 < aD.length) = true := decide_eq_true (by omega)
    clear wC
    replace H := Yc H
    rcases H with ⟨wF, wG, H⟩ | ⟨wF, H⟩
    ·have wH : decide (0 < aD.length) = true := decide_eq_true (by omega)
     clear wF
     simp only [Option.some.injEq, Prod.mk.injEq] at H
     obtain ⟨rfl, rfl, rfl, rfl, rfl, rfl⟩ := H
     go_enter Tryz.func84, Tryz.ntmps84
     try go_wp2_with (first | ((with_reducible refine Qo (N := 2) rfl ?_); refine zBx (N := 2) #[.int .i64 0, .int .i64 0] 48 ?_; intro bH hg w64 hbox hb; have aA := Qa.mk (hbox); have fM := zS hg; have aW := zS hg; replace HB := zX hb; clear hb hbox hg) | ((with_reducible refine Qo (N := 3) rfl ?_); refine zBx (N := 3) #[.int .i64 0, .int .i64 0] 48 ?_; intro bI hg w65 hbox hb; have aG := Qa.mk (hbox); have fO := zSg hg (zG aW.out); have bK := zSg hg (zG aW.out); have aX := zL hg aA.out; have aY := zLg hg aA.out; replace aA := zV aA.out hb; replace HB := zX1 aW.out hb; clear hb hbox hg) | ((with_reducible refine Qo (N := 4) rfl ?_); refine zBx (N := 4) #[.int .i64 0, .int .i64 0] 48 ?_; intro bJ hg w66 hbox hb; have aJ := Qa.mk (hbox); have fP := zSg hg (zG2 aW.out bK.out); have bM := zSg hg (zG2 aW.out bK.out); have aZ := zL hg aA.out; have bA := zLg hg aA.out; replace aA := zV aA.out hb; have bB := zL hg aG.out; have bC := zLg hg aG.out; replace aG := zV aG.out hb; replace HB := Qa.mk (Qk (zG2 aW.out bK.out) hb); clear hb hbox hg) | ((with_reducible refine Qd (f := 49) rfl ?_); refine zD (some 9) Tryz.func49 #[.slice A0 l0.length c0] ((Jm.calls k _ _ l0 bW fH fI w _ ?bT ?bU ?dA A2.out).mono ?_); (case bT => exact (jAv HB.out aW.out bK.out bM.out)); (case bU => exact lJ.out); (case dA => exact lK.out); rintro e w67 ⟨bV, rfl, hi, hb, hb2⟩; refine ⟨_, rfl, ?_⟩; have aI := Qa.mk (hi); have aM := Qa.mk (Qe.ne_blk hi (Je (g := bH) (o := .cells #[.int .i64 0, .int .i64 0] 48 (0, 0)) (zK aA.out) hb2) (by decide)); have bN := Qa.mk (Ne.symm (Qe.ne_blk hi (Je (g := bH) (o := .cells #[.int .i64 0, .int .i64 0] 48 (0, 0)) (zK aA.out) hb2) (by decide))); replace aA := Qa.mk (Je (g := bH) (o := .cells #[.int .i64 0, .int .i64 0] 48 (0, 0)) (zK aA.out) hb2); have aN := Qa.mk (Qe.ne_blk hi (Je (g := bI) (o := .cells #[.int .i64 0, .int .i64 0] 48 (0, 0)) (zK aG.out) hb2) (by decide)); have bO := Qa.mk (Ne.symm (Qe.ne_blk hi (Je (g := bI) (o := .cells #[.int .i64 0, .int .i64 0] 48 (0, 0)) (zK aG.out) hb2) (by decide))); replace aG := Qa.mk (Je (g := bI) (o := .cells #[.int .i64 0, .int .i64 0] 48 (0, 0)) (zK aG.out) hb2); have aQ := Qa.mk (Qe.ne_blk hi (Je (g := bJ) (o := .cells #[.int .i64 0, .int .i64 0] 48 (0, 0)) (zK aJ.out) hb2) (by decide)); have bP := Qa.mk (Ne.symm (Qe.ne_blk hi (Je (g := bJ) (o := .cells #[.int .i64 0, .int .i64 0] 48 (0, 0)) (zK aJ.out) hb2) (by decide))); replace aJ := Qa.mk (Je (g := bJ) (o := .cells #[.int .i64 0, .int .i64 0] 48 (0, 0)) (zK aJ.out) hb2); replace HB := Qa.mk (hb); (try clear hb); (try clear hb2); (try clear hi)) | ((with_reducible refine Qd (f := 85) rfl ?_); refine zD (some 11) Tryz.func85 _ ((Qj.calls k bV bW fH fI aD bY bZ w _ ?bT ?bU A3.out).mono ?_); (case bT => exact (Xp aI.out aM.out aN.out aQ.out)); (case bU => exact (jAq HB.out (Qe.ge aI.out) aW.out bK.out bM.out)); rintro e w68 ⟨gK, rfl, ho0, hi, hb, hk⟩; refine ⟨_, rfl, ?_⟩; have aC := Qa.mk (Kd.R_lower (Kd.R_newB (Kd.R_newB (Kd.R_newB ho0 (g := bH) (o := .cells #[.int .i64 0, .int .i64 0] 48 (0, 0)) (zK aA.out)) (g := bI) (o := .cells #[.int .i64 0, .int .i64 0] 48 (0, 0)) (zK aG.out)) (g := bJ) (o := .cells #[.int .i64 0, .int .i64 0] 48 (0, 0)) (zK aJ.out)) (Ql (zG4 (Qe.ge aI.out) aW.out bK.out bM.out))); replace aA := zKB hk aA.out bN.out; replace aG := zKB hk aG.out bO.out; replace aJ := zKB hk aJ.out bP.out; replace aI := Qa.mk (hi); replace HB := Qa.mk (hb); (try clear hb); (try clear hk); (try clear hi); (try clear ho0); obtain ⟨yZ, tO, tQ⟩ := Kd.R_slice aC.out; subst tQ; have cO : 0 ≤ (2 : Int) := (by omega); have cZ : 2 < (aD.length : Int) := zA; obtain ⟨aH, fJ, bR, bS⟩ := Jj (Kd.R_reads' aC.out).2.2 2 cO cZ; cases fJ; (try simp only [show (2 : Int).toNat = 2 from rfl, Nat.reduceMul, Nat.reduceEqDiff, Go.Addr.add, ↓reduceIte] at bR); (try simp only [show (2 : Int).toNat = 2 from rfl, Nat.reduceMul, Nat.reduceEqDiff, Go.Addr.add, ↓reduceIte] at bS); have fQ : (2 < aD.length) = True := eq_true (by omega); (try rw [show ((2 : Int)).toNat = 2 from rfl] at bR); (try rw [show 2 * 2 = 4 from rfl] at bR); (try rw [show ((2 : Int)).toNat = 2 from rfl] at bS); (try rw [show 2 * 2 = 4 from rfl] at bS); replace cO := eq_true cO; replace cZ := eq_true cZ) | ((with_reducible refine Qo (N := 7) rfl ?_); refine zBx (N := 7) #[.int .i64 0, .int .i64 0] 48 ?_; intro aK hg w70 hbox hb; have eB := Qa.mk (Kd.R_below (Kd.R_elderB (zR aC.out) aK (Nat.le_of_eq hg.symm)) hb); have eD := zV aA.out hb; have eF := zV aG.out hb; have eG := zV aJ.out hb; have eH := Qa.mk (Qe.below (Xp aI.out aM.out aN.out aQ.out) hb); have eO := Qa.mk (Qk (zG4 (Qe.ge aI.out) aW.out bK.out bM.out) hb); have eP := Qa.mk (hbox); have fG := zSg hg (zG4 (Qe.ge aI.out) aW.out bK.out bM.out); have fT := zSg hg (zG4 (Qe.ge aI.out) aW.out bK.out bM.out); have fU := zL hg aA.out; have eQ := zLg hg aA.out; have eU := zL hg aG.out; have eX := zLg hg aG.out; have eY := zL hg aJ.out; have eZ := zLg hg aJ.out; have fA := Qa.mk ((by rw [hg]; exact Nat.ne_of_lt (Qe.lt (show Qe w _ bV bW bY bZ from (Xp aI.out aM.out aN.out aQ.out))) : bV ≠ aK)); have fB := Qa.mk ((by rw [hg]; exact Nat.ne_of_gt (Qe.lt (show Qe w _ bV bW bY bZ from (Xp aI.out aM.out aN.out aQ.out))) : aK ≠ bV)); clear aC; clear aA; clear aG; clear aJ; clear aI; clear HB; have aC := eB; have aA := eD; have aG := eF; have aJ := eG; have aI := eH; have HB := eO; have bG := eP; have fV := fG; have bX := fT; have aT := fU; have bD := eQ; have aU := eU; have bE := eX; have aV := eY; have bF := eZ; have bL := fA; have bQ := fB; clear eB eD eF eG eH eO eP fG fT fU eQ eU eX eY eZ fA fB; clear hb hbox hg; have wI := bD.out; have wJ := aT.out; have wK := bE.out; have wL := aU.out; have wM := bF.out; have wN := aV.out; have wO := bQ.out; have wP := bL.out; obtain ⟨qC, qD, qE, qF⟩ := zq2 bG.out) | ((with_reducible refine Qd (f := 51) rfl ?_); refine zD (some 16) Tryz.func51 _ ((Q3.calls bV bW bY bZ 6 gD fC fD w _ ?bT ?bU A5.out).mono ?_); (case bT => exact (Xw aI.out aM.out aN.out aQ.out bL.out)); (case bU => exact (Uw HB.out (Qe.ge aI.out) aW.out bK.out bM.out bX.out)); rintro e zC ⟨rfl, hi, hb, hk⟩; refine ⟨_, rfl, ?_⟩; replace aA := Qa.mk (Qq.blk hk (g' := bH) (o := .cells #[.int .i64 0, .int .i64 0] 48 (0, 0)) (zk2 aA.out aT.out aT.out) bN.out (by simp)); replace aG := Qa.mk (Qq.blk hk (g' := bI) (o := .cells #[.int .i64 0, .int .i64 0] 48 (0, 0)) (zk2 aG.out aU.out aU.out) bO.out (by simp)); replace aJ := Qa.mk (Qq.blk hk (g' := bJ) (o := .cells #[.int .i64 0, .int .i64 0] 48 (0, 0)) (zk2 aJ.out aV.out aV.out) bP.out (by simp)); replace aC := Qa.mk (Kd.R_mono (Kd.R_keep (Qe.apart (show Qe w _ bV bW bY bZ from (Xw aI.out aM.out aN.out aQ.out bL.out)) (by (with_reducible repeat (first | apply Kd.R_alloc | apply Kd.R_drewN | apply Kd.R_drew)); exact (Kd.R_mono (Kd.R_far (p := ⟨aK, 1, none⟩) (Kd.R_far (p := ⟨aK, 0, none⟩) (Kd.R_mono aC.out (fun k_ hk => (⟨hk, hk.2⟩ : _ ∧ k_ ≠ aK))) (fun _ hk => hk.2) (.int .i64 ((Qb aD 2).f0))) (fun _ hk => hk.2) (.int .i64 ((Qb aD 2).f1))) (fun _ h_ => h_.1))) (by decide)) hk (fun _ h => h.2)) (fun _ h => h.1)); replace bG := Qa.mk (Qq.blk hk (g' := aK) (o := .cells #[.int .i64 ((Qb aD 2).f0), .int .i64 ((Qb aD 2).f1)] 48 (0, 0)) (zk0 bG.out) bQ.out (by simp)); replace aI := Qa.mk (hi); replace HB := Qa.mk (hb); (try clear hb); (try clear hk); (try clear hi)))
     replace aC := Qa.mk (Kd.R_drew aC.out)
     replace aA := Qa.mk (Q8 aA.out)
     replace aG := Qa.mk (Q8 aG.out)
     replace aJ := Qa.mk (Q8 aJ.out)
     replace bG := Qa.mk (Q8 bG.out)
     replace aI := Qa.mk (Qe.drew aI.out)
     replace HB := Qa.mk (Qp HB.out)
     have gY : 0 ≤ (1 : Int) := (by omega)
     have gZ : 1 < (aD.length : Int) := zA
     obtain ⟨jH, tT, dJ, dK⟩ := Jj (Kd.R_reads' aC.out).2.2 1 gY gZ
     obtain rfl : aH = jH := (by injection tT)
     (try simp only [show (1 : Int).toNat = 1 from rfl, Nat.reduceMul, Nat.reduceEqDiff, Go.Addr.add, ↓reduceIte] at dJ)
     (try simp only [show (1 : Int).toNat = 1 from rfl, Nat.reduceMul, Nat.reduceEqDiff, Go.Addr.add, ↓reduceIte] at dK)
     have wQ : (1 < aD.length) = True := eq_true (by omega)
     (try rw [show ((1 : Int)).toNat = 1 from rfl] at dJ)
     (try rw [show 1 * 2 = 2 from rfl] at dJ)
     (try rw [show ((1 : Int)).toNat = 1 from rfl] at dK)
     (try rw [show 1 * 2 = 2 from rfl] at dK)
     replace gY := eq_true gY
     replace gZ := eq_true gZ
     have iA : 0 ≤ (0 : Int) := (by omega)
     have iB : 0 < (aD.length : Int) := zA
     obtain ⟨jI, tV, dL, dM⟩ := Jj (Kd.R_reads' aC.out).2.2 0 iA iB
     obtain rfl : aH = jI := (by injection tV)
     have wR : (0 < aD.length) = True := eq_true (by omega)
     (try rw [show ((0 : Int)).toNat = 0 from rfl] at dL)
     (try rw [show 0 * 2 = 0 from rfl] at dL)
     (try rw [Addr.add_zero'] at dL)
     (try rw [show ((0 : Int)).toNat = 0 from rfl] at dM)
     (try rw [show 0 * 2 = 0 from rfl] at dM)
     (try rw [Addr.add_zero'] at dM)
     replace iA := eq_true iA
     replace iB := eq_true iB
     have iC : 0 ≤ (1 : Int) := (by omega)
     have iD : 1 < (aD.length : Int) := zA
     obtain ⟨jJ, tX, dN, dO⟩ := Jj (Kd.R_reads' aC.out).2.2 1 iC iD
     obtain rfl : aH = jJ := (by injection tX)
     (try simp only [show (1 : Int).toNat = 1 from rfl, Nat.reduceMul, Nat.reduceEqDiff, Go.Addr.add, ↓reduceIte] at dN)
     (try simp only [show (1 : Int).toNat = 1 from rfl, Nat.reduceMul, Nat.reduceEqDiff, Go.Addr.add, ↓reduceIte] at dO)
     have wS : (1 < aD.length) = True := eq_true (by omega)
     (try rw [show ((1 : Int)).toNat = 1 from rfl] at dN)
     (try rw [show 1 * 2 = 2 from rfl] at dN)
     (try rw [show ((1 : Int)).toNat = 1 from rfl] at dO)
     (try rw [show 1 * 2 = 2 from rfl] at dO)
     replace iC := eq_true iC
     replace iD := eq_true iD
     have iE : 0 ≤ (0 : Int) := (by omega)
     have iF : 0 < (aD.length : Int) := zA
     obtain ⟨jK, tY, dP, dQ⟩ := Jj (Kd.R_reads' aC.out).2.2 0 iE iF
     obtain rfl : aH = jK := (by injection tY)
     have wT : (0 < aD.length) = True := eq_true (by omega)
     (try rw [show ((0 : Int)).toNat = 0 from rfl] at dP)
     (try rw [show 0 * 2 = 0 from rfl] at dP)
     (try rw [Addr.add_zero'] at dP)
     (try rw [show ((0 : Int)).toNat = 0 from rfl] at dQ)
     (try rw [show 0 * 2 = 0 from rfl] at dQ)
     (try rw [Addr.add_zero'] at dQ)
     replace iE := eq_true iE
     replace iF := eq_true iF
     refine Zy (n := 22) (S := fun w' => w'.cell? ⟨aH.block, aH.off + 2, none⟩ = some (.int .i64 ((Qb aD 1).f0)) ∧ w'.cell? ⟨aH.block, aH.off + 2 + 1, none⟩ = some (.int .i64 ((Qb aD 1).f1)) ∧ w'.cell? aH = some (.int .i64 ((Qb aD 0).f0)) ∧ w'.cell? ⟨aH.block, aH.off + 1, none⟩ = some (.int .i64 ((Qb aD 0).f1)) ∧ w'.cell? ⟨aH.block, aH.off + 2, none⟩ = some (.int .i64 ((Qb aD 1).f0)) ∧ w'.cell? ⟨aH.block, aH.off + 2 + 1, none⟩ = some (.int .i64 ((Qb aD 1).f1)) ∧ w'.cell? aH = some (.int .i64 ((Qb aD 0).f0)) ∧ w'.cell? ⟨aH.block, aH.off + 1, none⟩ = some (.int .i64 ((Qb aD 0).f1))) (ds := []) #[false, false, false, false, false, false, false, false, false, false, false, false, false, false, false, false, false, false, false, false, false, false] (by kernel_rfl) rfl rfl ⟨dJ, dK, dL, dM, dN, dO, dP, dQ⟩ (fun hHeld => ?_); refine Jr Ja.tab10 Ja.bits10 (fun HT_ HW_ => ?_)
     generalize zC.drew = gB at aC aA aG aJ bG aI HB dJ dK dL dM dN dO dP dQ hHeld ⊢
     refine zP 0 (some 30) rfl rfl ?_
     refine zP 1 (some 31) rfl rfl ?_
     refine zP 2 (some 32) rfl rfl ?_
     refine zP 5 (some 35) rfl rfl ?_
     refine zP 6 (some 36) rfl rfl ?_
     refine zP 7 (some 37) rfl rfl ?_
     refine zP 10 (some 40) rfl rfl ?_
     refine zP 11 (some 41) rfl rfl ?_
     refine zP 12 (some 42) rfl rfl ?_
     refine zP 15 (some 45) rfl rfl ?_
     refine zP 16 (some 46) rfl rfl ?_
     refine zP 17 (some 47) rfl rfl ?_
     refine zY8 3 (some 33) rfl rfl hHeld ?_
     refine zP 4 (some 34) rfl rfl ?_
     refine zY8 8 (some 38) rfl rfl hHeld ?_
     refine zP 9 (some 39) rfl rfl ?_
     refine zY8 13 (some 43) rfl rfl hHeld ?_
     refine zP 14 (some 44) rfl rfl ?_
     refine zY8 18 (some 48) rfl rfl hHeld ?_
     refine zP 19 (some 49) rfl rfl ?_
     refine zP 20 (some 50) rfl rfl ?_
     refine zU 21 none rfl rfl (fun K hK => ?_)
     have zH : gB.cell? ⟨aK, 0, none⟩ = some (.int .i64 ((Qb aD 2).f0)) := (Qn bG.out 0).trans rfl
     have wU := Qy bG.out 0
     have qG := aT.out
     have qH := aU.out
     have qI := aV.out
     have qJ := bD.out
     have qK := bE.out
     have qL := bF.out
     have zI : gB.cell? ⟨aK, 1, none⟩ = some (.int .i64 ((Qb aD 2).f1)) := (Qn bG.out 1).trans rfl
     have wV := Qy bG.out 1
     have qM := aT.out
     have qN := aU.out
     have qO := aV.out
     have qP := bD.out
     have qQ := bE.out
     have qR := bF.out
     refine Vi (w1 := ?_) (by rfl) rfl ?_ ?_
     rotate_left
     ·go_simp
      rfl
     refine hK.out _ _ ⟨Q0 (show aH.block ≠ aK from Kd.own_blk (Kd.R_away aC.out (fun _ hk => hk.2))) hHeld.1, Q0 (show aH.block ≠ aK from Kd.own_blk (Kd.R_away aC.out (fun _ hk => hk.2))) hHeld.2.1, Q0 (show aH.block ≠ aK from Kd.own_blk (Kd.R_away aC.out (fun _ hk => hk.2))) hHeld.2.2.1, Q0 (show aH.block ≠ aK from Kd.own_blk (Kd.R_away aC.out (fun _ hk => hk.2))) hHeld.2.2.2.1, Q0 (show aH.block ≠ aK from Kd.own_blk (Kd.R_away aC.out (fun _ hk => hk.2))) hHeld.2.2.2.2.1, Q0 (show aH.block ≠ aK from Kd.own_blk (Kd.R_away aC.out (fun _ hk => hk.2))) hHeld.2.2.2.2.2.1, Q0 (show aH.block ≠ aK from Kd.own_blk (Kd.R_away aC.out (fun _ hk => hk.2))) hHeld.2.2.2.2.2.2.1, Q0 (show aH.block ≠ aK from Kd.own_blk (Kd.R_away aC.out (fun _ hk => hk.2))) hHeld.2.2.2.2.2.2.2⟩ (fun hHeld => ?_)
     clear hK K
     refine Ya (Zj HT_.out (by kernel_rfl)) ?_
     try go_wp2
     have eB : Qa (Kd.R k48 48 ((gB.setCell ⟨aK, 0, none⟩ (.int .i64 (wrap64 ((wrap64 (2 * ((Qb aD 1).f0))) - ((Qb aD 0).f0))))).setCell ⟨aK, 1, none⟩ (.int .i64 (wrap64 ((wrap64 (2 * ((Qb aD 1).f1))) - ((Qb aD 0).f1))))) w.heap.size (fun k_ => k_ ≠ bH ∧ k_ ≠ bI ∧ k_ ≠ bJ ∧ k_ ≠ aK) (.slice (some aH) aD.length tO) aD) := ⟨by (with_reducible repeat (first | apply Kd.R_alloc | apply Kd.R_drewN | apply Kd.R_drew)); exact Kd.R_mono (Kd.R_far (p := ⟨aK, 1, none⟩) (Kd.R_far (p := ⟨aK, 0, none⟩) (Kd.R_mono aC.out (fun k_ hk => (⟨hk, hk.2⟩ : _ ∧ k_ ≠ aK))) (fun _ hk => hk.2) (.int .i64 (wrap64 ((wrap64 (2 * ((Qb aD 1).f0))) - ((Qb aD 0).f0))))) (fun _ hk => hk.2) (.int .i64 (wrap64 ((wrap64 (2 * ((Qb aD 1).f1))) - ((Qb aD 0).f1))))) (fun _ hk => ⟨hk.1.1.1.1.2, ⟨hk.1.1.1.2, ⟨hk.1.1.2, hk.1.2⟩⟩⟩)⟩
     have eD : Qa (((gB.setCell ⟨aK, 0, none⟩ (.int .i64 (wrap64 ((wrap64 (2 * ((Qb aD 1).f0))) - ((Qb aD 0).f0))))).setCell ⟨aK, 1, none⟩ (.int .i64 (wrap64 ((wrap64 (2 * ((Qb aD 1).f1))) - ((Qb aD 0).f1))))).heap[bH]? = some (.cells #[.int .i64 0, .int .i64 0] 48 (0, 0))) := ⟨zk2 aA.out aT.out aT.out⟩
     have eF : Qa (((gB.setCell ⟨aK, 0, none⟩ (.int .i64 (wrap64 ((wrap64 (2 * ((Qb aD 1).f0))) - ((Qb aD 0).f0))))).setCell ⟨aK, 1, none⟩ (.int .i64 (wrap64 ((wrap64 (2 * ((Qb aD 1).f1))) - ((Qb aD 0).f1))))).heap[bI]? = some (.cells #[.int .i64 0, .int .i64 0] 48 (0, 0))) := ⟨zk2 aG.out aU.out aU.out⟩
     have eG : Qa (((gB.setCell ⟨aK, 0, none⟩ (.int .i64 (wrap64 ((wrap64 (2 * ((Qb aD 1).f0))) - ((Qb aD 0).f0))))).setCell ⟨aK, 1, none⟩ (.int .i64 (wrap64 ((wrap64 (2 * ((Qb aD 1).f1))) - ((Qb aD 0).f1))))).heap[bJ]? = some (.cells #[.int .i64 0, .int .i64 0] 48 (0, 0))) := ⟨zk2 aJ.out aV.out aV.out⟩
     have eH : Qa (((gB.setCell ⟨aK, 0, none⟩ (.int .i64 (wrap64 ((wrap64 (2 * ((Qb aD 1).f0))) - ((Qb aD 0).f0))))).setCell ⟨aK, 1, none⟩ (.int .i64 (wrap64 ((wrap64 (2 * ((Qb aD 1).f1))) - ((Qb aD 0).f1))))).heap[aK]? = some (.cells #[.int .i64 (wrap64 ((wrap64 (2 * ((Qb aD 1).f0))) - ((Qb aD 0).f0))), .int .i64 (wrap64 ((wrap64 (2 * ((Qb aD 1).f1))) - ((Qb aD 0).f1)))] 48 (0, 0))) := ⟨zk0 bG.out⟩
     have eO : Qa (Qe w ((gB.setCell ⟨aK, 0, none⟩ (.int .i64 (wrap64 ((wrap64 (2 * ((Qb aD 1).f0))) - ((Qb aD 0).f0))))).setCell ⟨aK, 1, none⟩ (.int .i64 (wrap64 ((wrap64 (2 * ((Qb aD 1).f1))) - ((Qb aD 0).f1))))) bV bW fC fD) := ⟨(Xw aI.out aM.out aN.out aQ.out bL.out)⟩
     have eP : Qa (Below w.heap.size w ((gB.setCell ⟨aK, 0, none⟩ (.int .i64 (wrap64 ((wrap64 (2 * ((Qb aD 1).f0))) - ((Qb aD 0).f0))))).setCell ⟨aK, 1, none⟩ (.int .i64 (wrap64 ((wrap64 (2 * ((Qb aD 1).f1))) - ((Qb aD 0).f1)))))) := ⟨zG5 (Qe.ge aI.out) aW.out bK.out bM.out bX.out⟩
     (try clear aC)
     (try clear aA)
     (try clear aG)
     (try clear aJ)
     (try clear bG)
     (try clear aI)
     (try clear HB)
     generalize ((gB.setCell ⟨aK, 0, none⟩ (.int .i64 (wrap64 ((wrap64 (2 * ((Qb aD 1).f0))) - ((Qb aD 0).f0))))).setCell ⟨aK, 1, none⟩ (.int .i64 (wrap64 ((wrap64 (2 * ((Qb aD 1).f1))) - ((Qb aD 0).f1))))) = zJ at eB eD eF eG eH eO eP ⊢
     have aC := eB
     have aA := eD
     have aG := eF
     have aJ := eG
     have bG := eH
     have aI := eO
     have HB := eP
     clear eB eD eF eG eH eO eP
     replace aC := Qa.mk (Kd.R_drew aC.out)
     replace aA := Qa.mk (Q8 aA.out)
     replace aG := Qa.mk (Q8 aG.out)
     replace aJ := Qa.mk (Q8 aJ.out)
     replace bG := Qa.mk (Q8 bG.out)
     replace aI := Qa.mk (Qe.drew aI.out)
     replace HB := Qa.mk (Qp HB.out)
     have iG : 0 ≤ (0 : Int) := (by omega)
     have iH : 0 < (aD.length : Int) := zA
     obtain ⟨jL, tZ, dR, dS⟩ := Jj (Kd.R_reads' aC.out).2.2 0 iG iH
     obtain rfl : aH = jL := (by injection tZ)
     have wW : (0 < aD.length) = True := eq_true (by omega)
     (try rw [show ((0 : Int)).toNat = 0 from rfl] at dR)
     (try rw [show 0 * 2 = 0 from rfl] at dR)
     (try rw [Addr.add_zero'] at dR)
     (try rw [show ((0 : Int)).toNat = 0 from rfl] at dS)
     (try rw [show 0 * 2 = 0 from rfl] at dS)
     (try rw [Addr.add_zero'] at dS)
     replace iG := eq_true iG
     replace iH := eq_true iH
     have iI : 0 ≤ (1 : Int) := (by omega)
     have iJ : 1 < (aD.length : Int) := zA
     obtain ⟨jM, uA, dU, dV⟩ := Jj (Kd.R_reads' aC.out).2.2 1 iI iJ
     obtain rfl : aH = jM := (by injection uA)
     (try simp only [show (1 : Int).toNat = 1 from rfl, Nat.reduceMul, Nat.reduceEqDiff, Go.Addr.add, ↓reduceIte] at dU)
     (try simp only [show (1 : Int).toNat = 1 from rfl, Nat.reduceMul, Nat.reduceEqDiff, Go.Addr.add, ↓reduceIte] at dV)
     have wX : (1 < aD.length) = True := eq_true (by omega)
     (try rw [show ((1 : Int)).toNat = 1 from rfl] at dU)
     (try rw [show 1 * 2 = 2 from rfl] at dU)
     (try rw [show ((1 : Int)).toNat = 1 from rfl] at dV)
     (try rw [show 1 * 2 = 2 from rfl] at dV)
     replace iI := eq_true iI
     replace iJ := eq_true iJ
     refine Zy (n := 10) (S := fun w' => w'.cell? ⟨aK, 0, none⟩ = some (.int .i64 (wrap64 ((wrap64 (2 * ((Qb aD 1).f0))) - ((Qb aD 0).f0)))) ∧ w'.cell? ⟨aK, 1, none⟩ = some (.int .i64 (wrap64 ((wrap64 (2 * ((Qb aD 1).f1))) - ((Qb aD 0).f1)))) ∧ w'.cell? aH = some (.int .i64 ((Qb aD 0).f0)) ∧ w'.cell? ⟨aH.block, aH.off + 1, none⟩ = some (.int .i64 ((Qb aD 0).f1)) ∧ w'.cell? ⟨aH.block, aH.off + 2, none⟩ = some (.int .i64 ((Qb aD 1).f0)) ∧ w'.cell? ⟨aH.block, aH.off + 2 + 1, none⟩ = some (.int .i64 ((Qb aD 1).f1))) (ds := []) #[false, false, false, false, false, false, false, false, false, false] (by kernel_rfl) rfl rfl ⟨(Qn bG.out 0).trans rfl, (Qn bG.out 1).trans rfl, dR, dS, dU, dV⟩ (fun hHeld => ?_); refine Jr Ja.tab11 Ja.bits11 (fun HT_ HW_ => ?_)
     generalize zJ.drew = iQ at aC aA aG aJ bG aI HB dR dS dU dV hHeld ⊢
     refine zP 0 (some 51) rfl rfl ?_
     refine zP 1 (some 52) rfl rfl ?_
     refine zP 3 (some 54) rfl rfl ?_
     refine zP 4 (some 55) rfl rfl ?_
     refine zY6 2 (some 53) rfl rfl hHeld ?_
     refine zY6 5 (some 56) rfl rfl hHeld ?_
     refine zY6 6 (some 57) rfl rfl hHeld ?_
     refine zU 7 none rfl rfl (fun K hK => ?_)
     have zQ : iQ.cell? ⟨bH, 0, none⟩ = some (.int .i64 0) := (Qn aA.out 0).trans rfl
     have wY := Qy aA.out 0
     have qU := aY.out
     have qV := bA.out
     have qW := bD.out
     have qX := aX.out
     have qY := aZ.out
     have qZ := aT.out
     have zT : iQ.cell? ⟨bH, 1, none⟩ = some (.int .i64 0) := (Qn aA.out 1).trans rfl
     have wZ := Qy aA.out 1
     have rA := aY.out
     have rC := bA.out
     have rD := bD.out
     have rE := aX.out
     have rF := aZ.out
     have rG := aT.out
     refine Vi (w1 := ?_) (by rfl) rfl ?_ ?_
     rotate_left
     ·go_simp
      rfl
     refine hK.out _ _ ⟨Q0 bD.out hHeld.1, Q0 bD.out hHeld.2.1, Q0 (show aH.block ≠ bH from Kd.own_blk (Kd.R_away aC.out (fun _ hk => hk.1))) hHeld.2.2.1, Q0 (show aH.block ≠ bH from Kd.own_blk (Kd.R_away aC.out (fun _ hk => hk.1))) hHeld.2.2.2.1, Q0 (show aH.block ≠ bH from Kd.own_blk (Kd.R_away aC.out (fun _ hk => hk.1))) hHeld.2.2.2.2.1, Q0 (show aH.block ≠ bH from Kd.own_blk (Kd.R_away aC.out (fun _ hk => hk.1))) hHeld.2.2.2.2.2⟩ (fun hHeld => ?_)
     clear hK K
     refine zU 8 none rfl rfl (fun K hK => ?_)
     have zY : iQ.cell? ⟨bI, 0, none⟩ = some (.int .i64 0) := (Qn aG.out 0).trans rfl
     have xA := Qy aG.out 0
     have rH := aX.out
     have rJ := bC.out
     have rM := bE.out
     have rO := aY.out
     have rP := bB.out
     have rQ := aU.out
     have zZ : iQ.cell? ⟨bI, 1, none⟩ = some (.int .i64 0) := (Qn aG.out 1).trans rfl
     have xB := Qy aG.out 1
     have rR := aX.out
     have rT := bC.out
     have rU := bE.out
     have rV := aY.out
     have rW := bB.out
     have rX := aU.out
     refine Vi (w1 := ?_) (by rfl) rfl ?_ ?_
     rotate_left
     ·go_simp
      rfl
     refine hK.out _ _ ⟨Q0 bE.out hHeld.1, Q0 bE.out hHeld.2.1, Q0 (show aH.block ≠ bI from Kd.own_blk (Kd.R_away aC.out (fun _ hk => hk.2.1))) hHeld.2.2.1, Q0 (show aH.block ≠ bI from Kd.own_blk (Kd.R_away aC.out (fun _ hk => hk.2.1))) hHeld.2.2.2.1, Q0 (show aH.block ≠ bI from Kd.own_blk (Kd.R_away aC.out (fun _ hk => hk.2.1))) hHeld.2.2.2.2.1, Q0 (show aH.block ≠ bI from Kd.own_blk (Kd.R_away aC.out (fun _ hk => hk.2.1))) hHeld.2.2.2.2.2⟩ (fun hHeld => ?_)
     clear hK K
     refine zU 9 none rfl rfl (fun K hK => ?_)
     have aAa : iQ.cell? ⟨bJ, 0, none⟩ = some (.int .i64 0) := (Qn aJ.out 0).trans rfl
     have xC := Qy aJ.out 0
     have rY := aZ.out
     have rZ := bB.out
     have sD := bF.out
     have sF := bA.out
     have sG := bC.out
     have sH := aV.out
     have aAb : iQ.cell? ⟨bJ, 1, none⟩ = some (.int .i64 0) := (Qn aJ.out 1).trans rfl
     have xD := Qy aJ.out 1
     have sJ := aZ.out
     have sK := bB.out
     have sM := bF.out
     have sN := bA.out
     have sO := bC.out
     have sP := aV.out
     refine Vi (w1 := ?_) (by rfl) rfl ?_ ?_
     rotate_left
     ·go_simp
      rfl
     refine hK.out _ _ ⟨Q0 bF.out hHeld.1, Q0 bF.out hHeld.2.1, Q0 (show aH.block ≠ bJ from Kd.own_blk (Kd.R_away aC.out (fun _ hk => hk.2.2.1))) hHeld.2.2.1, Q0 (show aH.block ≠ bJ from Kd.own_blk (Kd.R_away aC.out (fun _ hk => hk.2.2.1))) hHeld.2.2.2.1, Q0 (show aH.block ≠ bJ from Kd.own_blk (Kd.R_away aC.out (fun _ hk => hk.2.2.1))) hHeld.2.2.2.2.1, Q0 (show aH.block ≠ bJ from Kd.own_blk (Kd.R_away aC.out (fun _ hk => hk.2.2.1))) hHeld.2.2.2.2.2⟩ (fun hHeld => ?_)
     clear hK K
     refine Ya (Zj HT_.out (by kernel_rfl)) ?_
     try go_wp2
     refine bodyPost_ret (Yn (rs := [.cell 2 48, .cell 3 48, .cell 4 48]) rfl (by simp) (.cell bH 48 #[.int .i64 ((Qb aD 0).f0), .int .i64 ((Qb aD 0).f1)] (0, 0) _ rfl (zk4 aA.out aZ.out aZ.out aX.out aX.out) Tryz.underlying48 rfl (by kernel_rfl) (.cell bI 48 #[.int .i64 ((Qb aD 1).f0), .int .i64 ((Qb aD 1).f1)] (0, 0) _ rfl (zk4 aG.out bB.out bB.out aY.out aY.out) Tryz.underlying48 rfl (by kernel_rfl) (.cell bJ 48 #[.int .i64 (wrap64 ((wrap64 (2 * ((Qb aD 1).f0))) - ((Qb aD 0).f0))), .int .i64 (wrap64 ((wrap64 (2 * ((Qb aD 1).f1))) - ((Qb aD 0).f1)))] (0, 0) _ rfl (zk4 aJ.out bC.out bC.out bA.out bA.out) Tryz.underlying48 rfl (by kernel_rfl) .nil)))) rfl ?_
     exact ⟨zE, zG5 (Qe.ge aI.out) aW.out bK.out bM.out bX.out⟩
    exact absurd H (by simp)
   exact absurd H (by simp)
  replace H := Yc H
  rcases H with ⟨xE, xG, H⟩ | ⟨xE, H⟩
  ·have xH : decide (0 < aD.length) = true := decide_eq_true (by omega)
   clear xE
   replace H := Yc H
   rcases H with ⟨xI, xJ, H⟩ | ⟨xI, H⟩
   ·have xK : decide (1 < aD.length) = true := decide_eq_true (by omega)
    clear xI
    simp only [Option.some.injEq, Prod.mk.injEq] at H
    obtain ⟨rfl, rfl, rfl, rfl, rfl, rfl⟩ := H
    go_enter Tryz.func84, Tryz.ntmps84
    try go_wp2_with (first | ((with_reducible refine Qo (N := 2) rfl ?_); refine zBx (N := 2) #[.int .i64 0, .int .i64 0] 48 ?_; intro bH hg w90 hbox hb; have aA := Qa.mk (hbox); have fM := zS hg; have aW := zS hg; replace HB := zX hb; clear hb hbox hg) | ((with_reducible refine Qo (N := 3) rfl ?_); refine zBx (N := 3) #[.int .i64 0, .int .i64 0] 48 ?_; intro bI hg w91 hbox hb; have aG := Qa.mk (hbox); have fO := zSg hg (zG aW.out); have bK := zSg hg (zG aW.out); have aX := zL hg aA.out; have aY := zLg hg aA.out; replace aA := zV aA.out hb; replace HB := zX1 aW.out hb; clear hb hbox hg) | ((with_reducible refine Qo (N := 4) rfl ?_); refine zBx (N := 4) #[.int .i64 0, .int .i64 0] 48 ?_; intro bJ hg w92 hbox hb; have aJ := Qa.mk (hbox); have fP := zSg hg (zG2 aW.out bK.out); have bM := zSg hg (zG2 aW.out bK.out); have aZ := zL hg aA.out; have bA := zLg hg aA.out; replace aA := zV aA.out hb; have bB := zL hg aG.out; have bC := zLg hg aG.out; replace aG := zV aG.out hb; replace HB := Qa.mk (Qk (zG2 aW.out bK.out) hb); clear hb hbox hg) | ((with_reducible refine Qd (f := 49) rfl ?_); refine zD (some 9) Tryz.func49 #[.slice A0 l0.length c0] ((Jm.calls k _ _ l0 bW fH fI w _ ?bT ?bU ?dA A2.out).mono ?_); (case bT => exact (jAv HB.out aW.out bK.out bM.out)); (case bU => exact lJ.out); (case dA => exact lK.out); rintro e w93 ⟨bV, rfl, hi, hb, hb2⟩; refine ⟨_, rfl, ?_⟩; have aI := Qa.mk (hi); have aM := Qa.mk (Qe.ne_blk hi (Je (g := bH) (o := .cells #[.int .i64 0, .int .i64 0] 48 (0, 0)) (zK aA.out) hb2) (by decide)); have bN := Qa.mk (Ne.symm (Qe.ne_blk hi (Je (g := bH) (o := .cells #[.int .i64 0, .int .i64 0] 48 (0, 0)) (zK aA.out) hb2) (by decide))); replace aA := Qa.mk (Je (g := bH) (o := .cells #[.int .i64 0, .int .i64 0] 48 (0, 0)) (zK aA.out) hb2); have aN := Qa.mk (Qe.ne_blk hi (Je (g := bI) (o := .cells #[.int .i64 0, .int .i64 0] 48 (0, 0)) (zK aG.out) hb2) (by decide)); have bO := Qa.mk (Ne.symm (Qe.ne_blk hi (Je (g := bI) (o := .cells #[.int .i64 0, .int .i64 0] 48 (0, 0)) (zK aG.out) hb2) (by decide))); replace aG := Qa.mk (Je (g := bI) (o := .cells #[.int .i64 0, .int .i64 0] 48 (0, 0)) (zK aG.out) hb2); have aQ := Qa.mk (Qe.ne_blk hi (Je (g := bJ) (o := .cells #[.int .i64 0, .int .i64 0] 48 (0, 0)) (zK aJ.out) hb2) (by decide)); have bP := Qa.mk (Ne.symm (Qe.ne_blk hi (Je (g := bJ) (o := .cells #[.int .i64 0, .int .i64 0] 48 (0, 0)) (zK aJ.out) hb2) (by decide))); replace aJ := Qa.mk (Je (g := bJ) (o := .cells #[.int .i64 0, .int .i64 0] 48 (0, 0)) (zK aJ.out) hb2); replace HB := Qa.mk (hb); (try clear hb); (try clear hb2); (try clear hi)) | ((with_reducible refine Qd (f := 85) rfl ?_); refine zD (some 11) Tryz.func85 _ ((Qj.calls k bV bW fH fI aD bY bZ w _ ?bT ?bU A3.out).mono ?_); (case bT => exact (Xp aI.out aM.out aN.out aQ.out)); (case bU => exact (jAq HB.out (Qe.ge aI.out) aW.out bK.out bM.out)); rintro e w94 ⟨gK, rfl, ho0, hi, hb, hk⟩; refine ⟨_, rfl, ?_⟩; have aC := Qa.mk (Kd.R_lower (Kd.R_newB (Kd.R_newB (Kd.R_newB ho0 (g := bH) (o := .cells #[.int .i64 0, .int .i64 0] 48 (0, 0)) (zK aA.out)) (g := bI) (o := .cells #[.int .i64 0, .int .i64 0] 48 (0, 0)) (zK aG.out)) (g := bJ) (o := .cells #[.int .i64 0, .int .i64 0] 48 (0, 0)) (zK aJ.out)) (Ql (zG4 (Qe.ge aI.out) aW.out bK.out bM.out))); replace aA := zKB hk aA.out bN.out; replace aG := zKB hk aG.out bO.out; replace aJ := zKB hk aJ.out bP.out; replace aI := Qa.mk (hi); replace HB := Qa.mk (hb); (try clear hb); (try clear hk); (try clear hi); (try clear ho0); obtain ⟨aAc, aAd, uB⟩ := Kd.R_slice aC.out; subst uB; have cO : 0 ≤ (2 : Int) := (by omega); have cZ : 2 < (aD.length : Int) := zA; obtain ⟨aH, fJ, bR, bS⟩ := Jj (Kd.R_reads' aC.out).2.2 2 cO cZ; cases fJ; (try simp only [show (2 : Int).toNat = 2 from rfl, Nat.reduceMul, Nat.reduceEqDiff, Go.Addr.add, ↓reduceIte] at bR); (try simp only [show (2 : Int).toNat = 2 from rfl, Nat.reduceMul, Nat.reduceEqDiff, Go.Addr.add, ↓reduceIte] at bS); have fQ : (2 < aD.length) = True := eq_true (by omega); (try rw [show ((2 : Int)).toNat = 2 from rfl] at bR); (try rw [show 2 * 2 = 4 from rfl] at bR); (try rw [show ((2 : Int)).toNat = 2 from rfl] at bS); (try rw [show 2 * 2 = 4 from rfl] at bS); replace cO := eq_true cO; replace cZ := eq_true cZ) | ((with_reducible refine Qo (N := 7) rfl ?_); refine zBx (N := 7) #[.int .i64 0, .int .i64 0] 48 ?_; intro aK hg w96 hbox hb; have eB := Qa.mk (Kd.R_below (Kd.R_elderB (zR aC.out) aK (Nat.le_of_eq hg.symm)) hb); have eD := zV aA.out hb; have eF := zV aG.out hb; have eG := zV aJ.out hb; have eH := Qa.mk (Qe.below (Xp aI.out aM.out aN.out aQ.out) hb); have eO := Qa.mk (Qk (zG4 (Qe.ge aI.out) aW.out bK.out bM.out) hb); have eP := Qa.mk (hbox); have fG := zSg hg (zG4 (Qe.ge aI.out) aW.out bK.out bM.out); have fT := zSg hg (zG4 (Qe.ge aI.out) aW.out bK.out bM.out); have fU := zL hg aA.out; have eQ := zLg hg aA.out; have eU := zL hg aG.out; have eX := zLg hg aG.out; have eY := zL hg aJ.out; have eZ := zLg hg aJ.out; have fA := Qa.mk ((by rw [hg]; exact Nat.ne_of_lt (Qe.lt (show Qe w _ bV bW bY bZ from (Xp aI.out aM.out aN.out aQ.out))) : bV ≠ aK)); have fB := Qa.mk ((by rw [hg]; exact Nat.ne_of_gt (Qe.lt (show Qe w _ bV bW bY bZ from (Xp aI.out aM.out aN.out aQ.out))) : aK ≠ bV)); clear aC; clear aA; clear aG; clear aJ; clear aI; clear HB; have aC := eB; have aA := eD; have aG := eF; have aJ := eG; have aI := eH; have HB := eO; have bG := eP; have fV := fG; have bX := fT; have aT := fU; have bD := eQ; have aU := eU; have bE := eX; have aV := eY; have bF := eZ; have bL := fA; have bQ := fB; clear eB eD eF eG eH eO eP fG fT fU eQ eU eX eY eZ fA fB; clear hb hbox hg; have xL := bD.out; have xM := aT.out; have xN := bE.out; have xO := aU.out; have xP := bF.out; have xQ := aV.out; have uC := bQ.out; have uD := bL.out; obtain ⟨jN, jO, jP, jQ⟩ := zq2 bG.out) | ((with_reducible refine Qd (f := 51) rfl ?_); refine zD (some 16) Tryz.func51 _ ((Q3.calls bV bW bY bZ 6 gD fC fD w _ ?bT ?bU A5.out).mono ?_); (case bT => exact (Xw aI.out aM.out aN.out aQ.out bL.out)); (case bU => exact (Uw HB.out (Qe.ge aI.out) aW.out bK.out bM.out bX.out)); rintro e uE ⟨rfl, hi, hb, hk⟩; refine ⟨_, rfl, ?_⟩; replace aA := Qa.mk (Qq.blk hk (g' := bH) (o := .cells #[.int .i64 0, .int .i64 0] 48 (0, 0)) (zk2 aA.out aT.out aT.out) bN.out (by simp)); replace aG := Qa.mk (Qq.blk hk (g' := bI) (o := .cells #[.int .i64 0, .int .i64 0] 48 (0, 0)) (zk2 aG.out aU.out aU.out) bO.out (by simp)); replace aJ := Qa.mk (Qq.blk hk (g' := bJ) (o := .cells #[.int .i64 0, .int .i64 0] 48 (0, 0)) (zk2 aJ.out aV.out aV.out) bP.out (by simp)); replace aC := Qa.mk (Kd.R_mono (Kd.R_keep (Qe.apart (show Qe w _ bV bW bY bZ from (Xw aI.out aM.out aN.out aQ.out bL.out)) (by (with_reducible repeat (first | apply Kd.R_alloc | apply Kd.R_drewN | apply Kd.R_drew)); exact (Kd.R_mono (Kd.R_far (p := ⟨aK, 1, none⟩) (Kd.R_far (p := ⟨aK, 0, none⟩) (Kd.R_mono aC.out (fun k_ hk => (⟨hk, hk.2⟩ : _ ∧ k_ ≠ aK))) (fun _ hk => hk.2) (.int .i64 ((Qb aD 2).f0))) (fun _ hk => hk.2) (.int .i64 ((Qb aD 2).f1))) (fun _ h_ => h_.1))) (by decide)) hk (fun _ h => h.2)) (fun _ h => h.1)); replace bG := Qa.mk (Qq.blk hk (g' := aK) (o := .cells #[.int .i64 ((Qb aD 2).f0), .int .i64 ((Qb aD 2).f1)] 48 (0, 0)) (zk0 bG.out) bQ.out (by simp)); replace aI := Qa.mk (hi); replace HB := Qa.mk (hb); (try clear hb); (try clear hk); (try clear hi)))
    replace aC := Qa.mk (Kd.R_drew aC.out)
    replace aA := Qa.mk (Q8 aA.out)
    replace aG := Qa.mk (Q8 aG.out)
    replace aJ := Qa.mk (Q8 aJ.out)
    replace bG := Qa.mk (Q8 bG.out)
    replace aI := Qa.mk (Qe.drew aI.out)
    replace HB := Qa.mk (Qp HB.out)
    have iK : 0 ≤ (0 : Int) := (by omega)
    have iL : 0 < (aD.length : Int) := zA
    obtain ⟨jR, uF, dW, dX⟩ := Jj (Kd.R_reads' aC.out).2.2 0 iK iL
    obtain rfl : aH = jR := (by injection uF)
    have xR : (0 < aD.length) = True := eq_true (by omega)
    (try rw [show ((0 : Int)).toNat = 0 from rfl] at dW)
    (try rw [show 0 * 2 = 0 from rfl] at dW)
    (try rw [Addr.add_zero'] at dW)
    (try rw [show ((0 : Int)).toNat = 0 from rfl] at dX)
    (try rw [show 0 * 2 = 0 from rfl] at dX)
    (try rw [Addr.add_zero'] at dX)
    replace iK := eq_true iK
    replace iL := eq_true iL
    have iM : 0 ≤ (1 : Int) := (by omega)
    have iN : 1 < (aD.length : Int) := zA
    obtain ⟨jS, uG, dY, dZ⟩ := Jj (Kd.R_reads' aC.out).2.2 1 iM iN
    obtain rfl : aH = jS := (by injection uG)
    (try simp only [show (1 : Int).toNat = 1 from rfl, Nat.reduceMul, Nat.reduceEqDiff, Go.Addr.add, ↓reduceIte] at dY)
    (try simp only [show (1 : Int).toNat = 1 from rfl, Nat.reduceMul, Nat.reduceEqDiff, Go.Addr.add, ↓reduceIte] at dZ)
    have xS : (1 < aD.length) = True := eq_true (by omega)
    (try rw [show ((1 : Int)).toNat = 1 from rfl] at dY)
    (try rw [show 1 * 2 = 2 from rfl] at dY)
    (try rw [show ((1 : Int)).toNat = 1 from rfl] at dZ)
    (try rw [show 1 * 2 = 2 from rfl] at dZ)
    replace iM := eq_true iM
    replace iN := eq_true iN
    refine Zy (n := 10) (S := fun w' => w'.cell? ⟨aK, 0, none⟩ = some (.int .i64 ((Qb aD 2).f0)) ∧ w'.cell? ⟨aK, 1, none⟩ = some (.int .i64 ((Qb aD 2).f1)) ∧ w'.cell? aH = some (.int .i64 ((Qb aD 0).f0)) ∧ w'.cell? ⟨aH.block, aH.off + 1, none⟩ = some (.int .i64 ((Qb aD 0).f1)) ∧ w'.cell? ⟨aH.block, aH.off + 2, none⟩ = some (.int .i64 ((Qb aD 1).f0)) ∧ w'.cell? ⟨aH.block, aH.off + 2 + 1, none⟩ = some (.int .i64 ((Qb aD 1).f1))) (ds := []) #[false, false, false, false, false, false, false, false, false, false] (by kernel_rfl) rfl rfl ⟨(Qn bG.out 0).trans rfl, (Qn bG.out 1).trans rfl, dW, dX, dY, dZ⟩ (fun hHeld => ?_); refine Jr Ja.tab11 Ja.bits11 (fun HT_ HW_ => ?_)
    generalize uE.drew = fK at aC aA aG aJ bG aI HB dW dX dY dZ hHeld ⊢
    refine zP 0 (some 51) rfl rfl ?_
    refine zP 1 (some 52) rfl rfl ?_
    refine zP 3 (some 54) rfl rfl ?_
    refine zP 4 (some 55) rfl rfl ?_
    refine zY6 2 (some 53) rfl rfl hHeld ?_
    refine zY6 5 (some 56) rfl rfl hHeld ?_
    refine zY6 6 (some 57) rfl rfl hHeld ?_
    refine zU 7 none rfl rfl (fun K hK => ?_)
    have xU : fK.cell? ⟨bH, 0, none⟩ = some (.int .i64 0) := (Qn aA.out 0).trans rfl
    have uH := Qy aA.out 0
    have jT := aY.out
    have jU := bA.out
    have jV := bD.out
    have jW := aX.out
    have jX := aZ.out
    have jY := aT.out
    have xV : fK.cell? ⟨bH, 1, none⟩ = some (.int .i64 0) := (Qn aA.out 1).trans rfl
    have uI := Qy aA.out 1
    have jZ := aY.out
    have kC := bA.out
    have kD := bD.out
    have kE := aX.out
    have kF := aZ.out
    have kG := aT.out
    refine Vi (w1 := ?_) (by rfl) rfl ?_ ?_
    rotate_left
    ·go_simp
     rfl
    refine hK.out _ _ ⟨Q0 bD.out hHeld.1, Q0 bD.out hHeld.2.1, Q0 (show aH.block ≠ bH from Kd.own_blk (Kd.R_away aC.out (fun _ hk => hk.1.1.1.2))) hHeld.2.2.1, Q0 (show aH.block ≠ bH from Kd.own_blk (Kd.R_away aC.out (fun _ hk => hk.1.1.1.2))) hHeld.2.2.2.1, Q0 (show aH.block ≠ bH from Kd.own_blk (Kd.R_away aC.out (fun _ hk => hk.1.1.1.2))) hHeld.2.2.2.2.1, Q0 (show aH.block ≠ bH from Kd.own_blk (Kd.R_away aC.out (fun _ hk => hk.1.1.1.2))) hHeld.2.2.2.2.2⟩ (fun hHeld => ?_)
    clear hK K
    refine zU 8 none rfl rfl (fun K hK => ?_)
    have xW : fK.cell? ⟨bI, 0, none⟩ = some (.int .i64 0) := (Qn aG.out 0).trans rfl
    have uJ := Qy aG.out 0
    have kH := aX.out
    have kI := bC.out
    have kJ := bE.out
    have kK := aY.out
    have kL := bB.out
    have kM := aU.out
    have xX : fK.cell? ⟨bI, 1, none⟩ = some (.int .i64 0) := (Qn aG.out 1).trans rfl
    have uK := Qy aG.out 1
    have kN := aX.out
    have kP := bC.out
    have kQ := bE.out
    have kR := aY.out
    have kS := bB.out
    have kT := aU.out
    refine Vi (w1 := ?_) (by rfl) rfl ?_ ?_
    rotate_left
    ·go_simp
     rfl
    refine hK.out _ _ ⟨Q0 bE.out hHeld.1, Q0 bE.out hHeld.2.1, Q0 (show aH.block ≠ bI from Kd.own_blk (Kd.R_away aC.out (fun _ hk => hk.1.1.2))) hHeld.2.2.1, Q0 (show aH.block ≠ bI from Kd.own_blk (Kd.R_away aC.out (fun _ hk => hk.1.1.2))) hHeld.2.2.2.1, Q0 (show aH.block ≠ bI from Kd.own_blk (Kd.R_away aC.out (fun _ hk => hk.1.1.2))) hHeld.2.2.2.2.1, Q0 (show aH.block ≠ bI from Kd.own_blk (Kd.R_away aC.out (fun _ hk => hk.1.1.2))) hHeld.2.2.2.2.2⟩ (fun hHeld => ?_)
    clear hK K
    refine zU 9 none rfl rfl (fun K hK => ?_)
    have xY : fK.cell? ⟨bJ, 0, none⟩ = some (.int .i64 0) := (Qn aJ.out 0).trans rfl
    have uL := Qy aJ.out 0
    have kU := aZ.out
    have kV := bB.out
    have kW := bF.out
    have kX := bA.out
    have kY := bC.out
    have kZ := aV.out
    have xZ : fK.cell? ⟨bJ, 1, none⟩ = some (.int .i64 0) := (Qn aJ.out 1).trans rfl
    have uM := Qy aJ.out 1
    have lC := aZ.out
    have lD := bB.out
    have lF := bF.out
    have lG := bA.out
    have lH := bC.out
    have lI := aV.out
    refine Vi (w1 := ?_) (by rfl) rfl ?_ ?_
    rotate_left
    ·go_simp
     rfl
    refine hK.out _ _ ⟨Q0 bF.out hHeld.1, Q0 bF.out hHeld.2.1, Q0 (show aH.block ≠ bJ from Kd.own_blk (Kd.R_away aC.out (fun _ hk => hk.1.2))) hHeld.2.2.1, Q0 (show aH.block ≠ bJ from Kd.own_blk (Kd.R_away aC.out (fun _ hk => hk.1.2))) hHeld.2.2.2.1, Q0 (show aH.block ≠ bJ from Kd.own_blk (Kd.R_away aC.out (fun _ hk => hk.1.2))) hHeld.2.2.2.2.1, Q0 (show aH.block ≠ bJ from Kd.own_blk (Kd.R_away aC.out (fun _ hk => hk.1.2))) hHeld.2.2.2.2.2⟩ (fun hHeld => ?_)
    clear hK K
    refine Ya (Zj HT_.out (by kernel_rfl)) ?_
    try go_wp2
    refine bodyPost_ret (Yn (rs := [.cell 2 48, .cell 3 48, .cell 4 48]) rfl (by simp) (.cell bH 48 #[.int .i64 ((Qb aD 0).f0), .int .i64 ((Qb aD 0).f1)] (0, 0) _ rfl (zk4 aA.out aZ.out aZ.out aX.out aX.out) Tryz.underlying48 rfl (by kernel_rfl) (.cell bI 48 #[.int .i64 ((Qb aD 1).f0), .int .i64 ((Qb aD 1).f1)] (0, 0) _ rfl (zk4 aG.out bB.out bB.out aY.out aY.out) Tryz.underlying48 rfl (by kernel_rfl) (.cell bJ 48 #[.int .i64 ((Qb aD 2).f0), .int .i64 ((Qb aD 2).f1)] (0, 0) _ rfl (zk4 aJ.out bC.out bC.out bA.out bA.out) Tryz.underlying48 rfl (by kernel_rfl) .nil)))) rfl ?_
    exact ⟨zE, zG5 (Qe.ge aI.out) aW.out bK.out bM.out bX.out⟩
   exact absurd H (by simp)
  exact absurd H (by simp)
 exact absurd H (by simp)
def Zh.f (k : Nat) (l0 : List Int) : Option (Int × Int × Int × Int × Int × Int) := (Ja.f k l0).bind fun aA => (some (aA.1, aA.2.1, aA.2.2.1, aA.2.2.2.1, aA.2.2.2.2.1, aA.2.2.2.2.2))
set_option maxHeartbeats 8000000 in
set_option maxRecDepth 100000 in
theorem Zh.calls (k : Nat) (A0 : Option Addr) (c0 : Nat) (l0 : List Int) (r1 : Int) (r2 : Int) (r3 : Int) (r4 : Int) (r5 : Int) (r6 : Int) (w : World) (hr0 : Kd.C (Kd.int .u8) w A0 l0.length l0) (hc0 : l0.length ≤ c0) (h : Zh.f k l0 = some (r1, r2, r3, r4, r5, r6)) :
  Calls Tryz.prog 29 #[.slice A0 l0.length c0] w fun e w' => e = .returned (.tuple #[.agg #[.int .i64 r1, .int .i64 r2], .agg #[.int .i64 r3, .int .i64 r4], .agg #[.int .i64 r5, .int .i64 r6]]) ∧ Below w.heap.size w w' := by
 have jX := Tryz.underlying48
 have jY := Qa.mk hr0
 have jZ := Qa.mk hc0
 clear hr0 hc0
 have HB := Qa.mk (Below.refl w.heap.size w)
 have H := h
 unfold Zh.f at H
 clear h
 obtain ⟨⟨bV, bW, bX, bY, bZ, cB⟩, A2, H⟩ := zO H
 replace H : (some (bV, bW, bX, bY, bZ, cB)) = some (r1, r2, r3, r4, r5, r6) := H
 simp only [Option.some.injEq, Prod.mk.injEq] at H
 obtain ⟨rfl, rfl, rfl, rfl, rfl, rfl⟩ := H
 go_enter Tryz.func29, Tryz.ntmps29
 try go_wp2_with (first | ((with_reducible refine Qo (N := 2) rfl ?_); refine zBx (N := 2) #[.int .i64 0, .int .i64 0] 48 ?_; intro aZ hg w3 hbox hb; have aA := Qa.mk (hbox); have iM := zS hg; have aJ := zS hg; replace HB := zX hb; clear hb hbox hg) | ((with_reducible refine Qo (N := 3) rfl ?_); refine zBx (N := 3) #[.int .i64 0, .int .i64 0] 48 ?_; intro bA hg w4 hbox hb; have aC := Qa.mk (hbox); have iN := zSg hg (zG aJ.out); have bI := zSg hg (zG aJ.out); have bC := zL hg aA.out; have bD := zLg hg aA.out; replace aA := zV aA.out hb; replace HB := zX1 aJ.out hb; clear hb hbox hg) | ((with_reducible refine Qo (N := 4) rfl ?_); refine zBx (N := 4) #[.int .i64 0, .int .i64 0] 48 ?_; intro bB hg w5 hbox hb; have aD := Qa.mk (hbox); have iO := zSg hg (zG2 aJ.out bI.out); have bT := zSg hg (zG2 aJ.out bI.out); have bE := zL hg aA.out; have bF := zLg hg aA.out; replace aA := zV aA.out hb; have bG := zL hg aC.out; have bH := zLg hg aC.out; replace aC := zV aC.out hb; replace HB := Qa.mk (Qk (zG2 aJ.out bI.out) hb); clear hb hbox hg) | ((with_reducible refine Qd (f := 84) rfl ?_); refine zD (some 10) Tryz.func84 #[.slice A0 l0.length c0] ((Ja.calls k _ _ l0 bV bW bX bY bZ cB _ ?dH ?dI A2.out).mono ?_); (case dH => exact zc (Kd.C_below jY.out HB.out)); (case dI => exact jZ.out); rintro e w6 ⟨rfl, hb⟩; refine ⟨_, rfl, ?_⟩; replace aA := zV aA.out hb; replace aC := zV aC.out hb; replace aD := zV aD.out hb; replace HB := Qa.mk (Qk (zG3 aJ.out bI.out bT.out) hb); (try clear hb)) | ((with_reducible refine Qo (N := 5) rfl ?_); refine zBx (N := 5) #[.int .i64 0, .int .i64 0] 48 ?_; intro aG hg w7 hbox hb; have aY := Qa.mk (hbox); have iP := zSg hg (zG3 aJ.out bI.out bT.out); have dD := zSg hg (zG3 aJ.out bI.out bT.out); have bJ := zL hg aA.out; have aK := zLg hg aA.out; replace aA := zV aA.out hb; have bK := zL hg aC.out; have aM := zLg hg aC.out; replace aC := zV aC.out hb; have bL := zL hg aD.out; have aN := zLg hg aD.out; replace aD := zV aD.out hb; replace HB := Qa.mk (Qk (zG3 aJ.out bI.out bT.out) hb); clear hb hbox hg) | ((with_reducible refine Qo (N := 6) rfl ?_); refine zBx (N := 6) #[.int .i64 0, .int .i64 0] 48 ?_; intro aH hg w8 hbox hb; have bM := Qa.mk (hbox); have iQ := zSg hg (zG4 aJ.out bI.out bT.out dD.out); have dE := zSg hg (zG4 aJ.out bI.out bT.out dD.out); have bN := zL hg aA.out; have aQ := zLg hg aA.out; replace aA := zV aA.out hb; have bO := zL hg aC.out; have aT := zLg hg aC.out; replace aC := zV aC.out hb; have bP := zL hg aD.out; have aU := zLg hg aD.out; replace aD := zV aD.out hb; have cK := zL hg aY.out; have cO := zLg hg aY.out; replace aY := zV aY.out hb; replace HB := Qa.mk (Qk (zG4 aJ.out bI.out bT.out dD.out) hb); clear hb hbox hg) | ((with_reducible refine Qo (N := 7) rfl ?_); refine zBx (N := 7) #[.int .i64 0, .int .i64 0] 48 ?_; intro aI hg w9 hbox hb; have bU := Qa.mk (hbox); have iR := zSg hg (zG5 aJ.out bI.out bT.out dD.out dE.out); have dF := zSg hg (zG5 aJ.out bI.out bT.out dD.out dE.out); have bQ := zL hg aA.out; have aV := zLg hg aA.out; replace aA := zV aA.out hb; have bR := zL hg aC.out; have aW := zLg hg aC.out; replace aC := zV aC.out hb; have bS := zL hg aD.out; have aX := zLg hg aD.out; replace aD := zV aD.out hb; have cZ := zL hg aY.out; have dA := zLg hg aY.out; replace aY := zV aY.out hb; have dB := zL hg bM.out; have dC := zLg hg bM.out; replace bM := zV bM.out hb; replace HB := Qa.mk (Qk (zG5 aJ.out bI.out bT.out dD.out dE.out) hb); clear hb hbox hg; have iT := aK.out; have iU := bJ.out; have iV := aM.out; have iW := bK.out; have iX := aN.out; have iY := bL.out; have iZ := cK.out; have jA := cO.out; have jB := cZ.out; have jC := dA.out; obtain ⟨dJ, dK, dL, dM⟩ := zq2 aY.out; have jD := aQ.out; have jE := bN.out; have jF := aT.out; have jG := bO.out; have jH := aU.out; have jI := bP.out; have jJ := dB.out; have jK := dC.out; obtain ⟨dN, dO, dP, dQ⟩ := zq2 bM.out; have jL := aV.out; have jM := bQ.out; have jN := aW.out; have jO := bR.out; have jP := aX.out; have jQ := bS.out; obtain ⟨dR, dS, dU, dV⟩ := zq2 bU.out))
 have iF : Qa (((((((w9.setCell ⟨aG, 0, none⟩ (.int .i64 bV)).setCell ⟨aG, 1, none⟩ (.int .i64 bW)).setCell ⟨aH, 0, none⟩ (.int .i64 bX)).setCell ⟨aH, 1, none⟩ (.int .i64 bY)).setCell ⟨aI, 0, none⟩ (.int .i64 bZ)).setCell ⟨aI, 1, none⟩ (.int .i64 cB)).heap[aZ]? = some (.cells #[.int .i64 0, .int .i64 0] 48 (0, 0))) := ⟨zk6 aA.out bQ.out bQ.out bN.out bN.out bJ.out bJ.out⟩
 have iG : Qa (((((((w9.setCell ⟨aG, 0, none⟩ (.int .i64 bV)).setCell ⟨aG, 1, none⟩ (.int .i64 bW)).setCell ⟨aH, 0, none⟩ (.int .i64 bX)).setCell ⟨aH, 1, none⟩ (.int .i64 bY)).setCell ⟨aI, 0, none⟩ (.int .i64 bZ)).setCell ⟨aI, 1, none⟩ (.int .i64 cB)).heap[bA]? = some (.cells #[.int .i64 0, .int .i64 0] 48 (0, 0))) := ⟨zk6 aC.out bR.out bR.out bO.out bO.out bK.out bK.out⟩
 have iH : Qa (((((((w9.setCell ⟨aG, 0, none⟩ (.int .i64 bV)).setCell ⟨aG, 1, none⟩ (.int .i64 bW)).setCell ⟨aH, 0, none⟩ (.int .i64 bX)).setCell ⟨aH, 1, none⟩ (.int .i64 bY)).setCell ⟨aI, 0, none⟩ (.int .i64 bZ)).setCell ⟨aI, 1, none⟩ (.int .i64 cB)).heap[bB]? = some (.cells #[.int .i64 0, .int .i64 0] 48 (0, 0))) := ⟨zk6 aD.out bS.out bS.out bP.out bP.out bL.out bL.out⟩
 have iI : Qa (((((((w9.setCell ⟨aG, 0, none⟩ (.int .i64 bV)).setCell ⟨aG, 1, none⟩ (.int .i64 bW)).setCell ⟨aH, 0, none⟩ (.int .i64 bX)).setCell ⟨aH, 1, none⟩ (.int .i64 bY)).setCell ⟨aI, 0, none⟩ (.int .i64 bZ)).setCell ⟨aI, 1, none⟩ (.int .i64 cB)).heap[aG]? = some (.cells #[.int .i64 bV, .int .i64 bW] 48 (0, 0))) := ⟨zk4 aY.out cZ.out cZ.out cK.out cK.out⟩
 have iJ : Qa (((((((w9.setCell ⟨aG, 0, none⟩ (.int .i64 bV)).setCell ⟨aG, 1, none⟩ (.int .i64 bW)).setCell ⟨aH, 0, none⟩ (.int .i64 bX)).setCell ⟨aH, 1, none⟩ (.int .i64 bY)).setCell ⟨aI, 0, none⟩ (.int .i64 bZ)).setCell ⟨aI, 1, none⟩ (.int .i64 cB)).heap[aH]? = some (.cells #[.int .i64 bX, .int .i64 bY] 48 (0, 0))) := ⟨zk4 bM.out dB.out dB.out cO.out cO.out⟩
 have iK : Qa (((((((w9.setCell ⟨aG, 0, none⟩ (.int .i64 bV)).setCell ⟨aG, 1, none⟩ (.int .i64 bW)).setCell ⟨aH, 0, none⟩ (.int .i64 bX)).setCell ⟨aH, 1, none⟩ (.int .i64 bY)).setCell ⟨aI, 0, none⟩ (.int .i64 bZ)).setCell ⟨aI, 1, none⟩ (.int .i64 cB)).heap[aI]? = some (.cells #[.int .i64 bZ, .int .i64 cB] 48 (0, 0))) := ⟨zk4 bU.out dC.out dC.out dA.out dA.out⟩
 have iL : Qa (Below w.heap.size w ((((((w9.setCell ⟨aG, 0, none⟩ (.int .i64 bV)).setCell ⟨aG, 1, none⟩ (.int .i64 bW)).setCell ⟨aH, 0, none⟩ (.int .i64 bX)).setCell ⟨aH, 1, none⟩ (.int .i64 bY)).setCell ⟨aI, 0, none⟩ (.int .i64 bZ)).setCell ⟨aI, 1, none⟩ (.int .i64 cB))) := ⟨zG6 aJ.out bI.out bT.out dD.out dE.out dF.out⟩
 (try clear aA)
 (try clear aC)
 (try clear aD)
 (try clear aY)
 (try clear bM)
 (try clear bU)
 (try clear HB)
 generalize ((((((w9.setCell ⟨aG, 0, none⟩ (.int .i64 bV)).setCell ⟨aG, 1, none⟩ (.int .i64 bW)).setCell ⟨aH, 0, none⟩ (.int .i64 bX)).setCell ⟨aH, 1, none⟩ (.int .i64 bY)).setCell ⟨aI, 0, none⟩ (.int .i64 bZ)).setCell ⟨aI, 1, none⟩ (.int .i64 cB)) = kC at iF iG iH iI iJ iK iL ⊢
 have aA := iF
 have aC := iG
 have aD := iH
 have aY := iI
 have bM := iJ
 have bU := iK
 have HB := iL
 clear iF iG iH iI iJ iK iL
 replace aA := Qa.mk (Q8 aA.out)
 replace aC := Qa.mk (Q8 aC.out)
 replace aD := Qa.mk (Q8 aD.out)
 replace aY := Qa.mk (Q8 aY.out)
 replace bM := Qa.mk (Q8 bM.out)
 replace bU := Qa.mk (Q8 bU.out)
 replace HB := Qa.mk (Qp HB.out)
 refine Zy (n := 6) (S := fun w' => w'.cell? ⟨aG, 0, none⟩ = some (.int .i64 bV) ∧ w'.cell? ⟨aG, 1, none⟩ = some (.int .i64 bW) ∧ w'.cell? ⟨aH, 0, none⟩ = some (.int .i64 bX) ∧ w'.cell? ⟨aH, 1, none⟩ = some (.int .i64 bY) ∧ w'.cell? ⟨aI, 0, none⟩ = some (.int .i64 bZ) ∧ w'.cell? ⟨aI, 1, none⟩ = some (.int .i64 cB)) (ds := []) #[false, false, false, false, false, false] (by kernel_rfl) rfl rfl ⟨(Qn aY.out 0).trans rfl, (Qn aY.out 1).trans rfl, (Qn bM.out 0).trans rfl, (Qn bM.out 1).trans rfl, (Qn bU.out 0).trans rfl, (Qn bU.out 1).trans rfl⟩ (fun hHeld => ?_)
 generalize kC.drew = dG at aA aC aD aY bM bU HB hHeld ⊢
 refine take_ (i := 0) (N := some 14) (v := ?_) (a' := ?_) #[true, false, false, false, false, false] rfl rfl (by kernel_rfl) (fun _ _ _ h => h) (Or.inl ⟨by rfl, ?_⟩) hHeld ?_ ?_
 rotate_left
 ·rintro w' ⟨s0, s1, s2, s3, s4, s5⟩
  go_simp
  with_reducible rfl
 rotate_left
 ·simp only [Act.put, List.setIfInBounds_toArray, List.set_cons_zero, List.set_cons_succ, Zd, Zf]
  rfl
 refine take_ (i := 1) (N := some 15) (v := ?_) (a' := ?_) #[true, true, false, false, false, false] rfl rfl (by kernel_rfl) (fun _ _ _ h => h) (Or.inl ⟨by rfl, ?_⟩) hHeld ?_ ?_
 rotate_left
 ·rintro w' ⟨s0, s1, s2, s3, s4, s5⟩
  go_simp
  with_reducible rfl
 rotate_left
 ·simp only [Act.put, List.setIfInBounds_toArray, List.set_cons_zero, List.set_cons_succ, Zd, Zf]
  rfl
 refine take_ (i := 2) (N := some 16) (v := ?_) (a' := ?_) #[true, true, true, false, false, false] rfl rfl (by kernel_rfl) (fun _ _ _ h => h) (Or.inl ⟨by rfl, ?_⟩) hHeld ?_ ?_
 rotate_left
 ·rintro w' ⟨s0, s1, s2, s3, s4, s5⟩
  go_simp
  with_reducible rfl
 rotate_left
 ·simp only [Act.put, List.setIfInBounds_toArray, List.set_cons_zero, List.set_cons_succ, Zd, Zf]
  rfl
 refine jI0 (i := 3) (N := none) #[true, true, true, true, false, false] rfl rfl (by kernel_rfl) (by decide) (fun K hK => ?_)
 have kD : dG.cell? ⟨aZ, 0, none⟩ = some (.int .i64 0) := (Qn aA.out 0).trans rfl
 have jR := Qy aA.out 0
 have dW := bD.out
 have dX := bF.out
 have dY := aK.out
 have dZ := aQ.out
 have eB := aV.out
 have eD := bC.out
 have eF := bE.out
 have eG := bJ.out
 have eH := bN.out
 have eO := bQ.out
 have kE : dG.cell? ⟨aZ, 1, none⟩ = some (.int .i64 0) := (Qn aA.out 1).trans rfl
 have jS := Qy aA.out 1
 have eP := bD.out
 have eQ := bF.out
 have eU := aK.out
 have eX := aQ.out
 have eY := aV.out
 have eZ := bC.out
 have fA := bE.out
 have fB := bJ.out
 have fC := bN.out
 have fD := bQ.out
 refine Vi (w1 := ?_) (by rfl) rfl ?_ ?_
 rotate_left
 ·go_simp
  rfl
 refine hK.out _ _ ⟨((cell_far (p := ⟨aZ, _, none⟩) aK.out _).trans (((cell_far (p := ⟨aZ, _, none⟩) aK.out _).trans (hHeld.1)))), ((cell_far (p := ⟨aZ, _, none⟩) aK.out _).trans (((cell_far (p := ⟨aZ, _, none⟩) aK.out _).trans (hHeld.2.1)))), ((cell_far (p := ⟨aZ, _, none⟩) aQ.out _).trans (((cell_far (p := ⟨aZ, _, none⟩) aQ.out _).trans (hHeld.2.2.1)))), ((cell_far (p := ⟨aZ, _, none⟩) aQ.out _).trans (((cell_far (p := ⟨aZ, _, none⟩) aQ.out _).trans (hHeld.2.2.2.1)))), ((cell_far (p := ⟨aZ, _, none⟩) aV.out _).trans (((cell_far (p := ⟨aZ, _, none⟩) aV.out _).trans (hHeld.2.2.2.2.1)))), ((cell_far (p := ⟨aZ, _, none⟩) aV.out _).trans (((cell_far (p := ⟨aZ, _, none⟩) aV.out _).trans (hHeld.2.2.2.2.2))))⟩ (fun hHeld => ?_)
 clear hK K
 refine jI0 (i := 4) (N := none) #[true, true, true, true, true, false] rfl rfl (by kernel_rfl) (by decide) (fun K hK => ?_)
 have kF : dG.cell? ⟨bA, 0, none⟩ = some (.int .i64 0) := (Qn aC.out 0).trans rfl
 have jT := Qy aC.out 0
 have fE := bC.out
 have fF := bH.out
 have fG := aM.out
 have fH := aT.out
 have fI := aW.out
 have fJ := bD.out
 have fK := bG.out
 have fM := bK.out
 have fO := bO.out
 have fP := bR.out
 have kG : dG.cell? ⟨bA, 1, none⟩ = some (.int .i64 0) := (Qn aC.out 1).trans rfl
 have jU := Qy aC.out 1
 have fQ := bC.out
 have fT := bH.out
 have fU := aM.out
 have fV := aT.out
 have fZ := aW.out
 have gB := bD.out
 have gD := bG.out
 have gF := bK.out
 have gG := bO.out
 have gH := bR.out
 refine Vi (w1 := ?_) (by rfl) rfl ?_ ?_
 rotate_left
 ·go_simp
  rfl
 refine hK.out _ _ ⟨((cell_far (p := ⟨bA, _, none⟩) aM.out _).trans (((cell_far (p := ⟨bA, _, none⟩) aM.out _).trans (hHeld.1)))), ((cell_far (p := ⟨bA, _, none⟩) aM.out _).trans (((cell_far (p := ⟨bA, _, none⟩) aM.out _).trans (hHeld.2.1)))), ((cell_far (p := ⟨bA, _, none⟩) aT.out _).trans (((cell_far (p := ⟨bA, _, none⟩) aT.out _).trans (hHeld.2.2.1)))), ((cell_far (p := ⟨bA, _, none⟩) aT.out _).trans (((cell_far (p := ⟨bA, _, none⟩) aT.out _).trans (hHeld.2.2.2.1)))), ((cell_far (p := ⟨bA, _, none⟩) aW.out _).trans (((cell_far (p := ⟨bA, _, none⟩) aW.out _).trans (hHeld.2.2.2.2.1)))), ((cell_far (p := ⟨bA, _, none⟩) aW.out _).trans (((cell_far (p := ⟨bA, _, none⟩) aW.out _).trans (hHeld.2.2.2.2.2))))⟩ (fun hHeld => ?_)
 clear hK K
 refine jI0 (i := 5) (N := none) #[true, true, true, true, true, true] rfl rfl (by kernel_rfl) (by decide) (fun K hK => ?_)
 have kH : dG.cell? ⟨bB, 0, none⟩ = some (.int .i64 0) := (Qn aD.out 0).trans rfl
 have jV := Qy aD.out 0
 have gI := bE.out
 have gJ := bG.out
 have gK := aN.out
 have gL := aU.out
 have gM := aX.out
 have gN := bF.out
 have gP := bH.out
 have gQ := bL.out
 have gT := bP.out
 have gU := bS.out
 have kI : dG.cell? ⟨bB, 1, none⟩ = some (.int .i64 0) := (Qn aD.out 1).trans rfl
 have jW := Qy aD.out 1
 have gV := bE.out
 have gW := bG.out
 have gX := aN.out
 have gY := aU.out
 have gZ := aX.out
 have iA := bF.out
 have iB := bH.out
 have iC := bL.out
 have iD := bP.out
 have iE := bS.out
 refine Vi (w1 := ?_) (by rfl) rfl ?_ ?_
 rotate_left
 ·go_simp
  rfl
 refine hK.out _ _ ⟨((cell_far (p := ⟨bB, _, none⟩) aN.out _).trans (((cell_far (p := ⟨bB, _, none⟩) aN.out _).trans (hHeld.1)))), ((cell_far (p := ⟨bB, _, none⟩) aN.out _).trans (((cell_far (p := ⟨bB, _, none⟩) aN.out _).trans (hHeld.2.1)))), ((cell_far (p := ⟨bB, _, none⟩) aU.out _).trans (((cell_far (p := ⟨bB, _, none⟩) aU.out _).trans (hHeld.2.2.1)))), ((cell_far (p := ⟨bB, _, none⟩) aU.out _).trans (((cell_far (p := ⟨bB, _, none⟩) aU.out _).trans (hHeld.2.2.2.1)))), ((cell_far (p := ⟨bB, _, none⟩) aX.out _).trans (((cell_far (p := ⟨bB, _, none⟩) aX.out _).trans (hHeld.2.2.2.2.1)))), ((cell_far (p := ⟨bB, _, none⟩) aX.out _).trans (((cell_far (p := ⟨bB, _, none⟩) aX.out _).trans (hHeld.2.2.2.2.2))))⟩ (fun hHeld => ?_)
 clear hK K
 refine Ya (by kernel_rfl) ?_
 try go_wp2
 refine bodyPost_ret (Yn (rs := [.cell 2 48, .cell 3 48, .cell 4 48]) rfl (by simp) (.cell aZ 48 #[.int .i64 bV, .int .i64 bW] (0, 0) _ rfl (zk4 aA.out bE.out bE.out bC.out bC.out) Tryz.underlying48 rfl (by kernel_rfl) (.cell bA 48 #[.int .i64 bX, .int .i64 bY] (0, 0) _ rfl (zk4 aC.out bG.out bG.out bD.out bD.out) Tryz.underlying48 rfl (by kernel_rfl) (.cell bB 48 #[.int .i64 bZ, .int .i64 cB] (0, 0) _ rfl (zk4 aD.out bH.out bH.out bF.out bF.out) Tryz.underlying48 rfl (by kernel_rfl) .nil)))) rfl ?_
 exact ⟨zE, zG6 aJ.out bI.out bT.out dD.out dE.out dF.out⟩
def J4.f (k : Nat) (aG : List Int) (aH : Int) (aI : Int) : Option ((List (S48)) × Int × Int) := (Qj.f k aG aH aI).bind fun aA => ((Q3.f aG aA.2.1 aA.2.2 14).bind fun aC => (if aC.1 = 0 then ((J7.f aG aC.2.1 aC.2.2 (([50, 51, (-51)] : List Int))).bind fun aD => (if 0 < (aA.1.length : Int) then (some ((aA.1.set (0 : Int).toNat (⟨aD.1, (Qb aA.1 0).f1⟩ : S48)), aD.2.1, aD.2.2)) else (none))) else (if aC.1 = 1 then (if 0 < (aA.1.length : Int) then (if aA.1.length < 8796093022208 then (some ((aA.1 ++ [(⟨(Qb aA.1 0).f0, (Qb aA.1 0).f1⟩ : S48)]), aC.2.1, aC.2.2)) else (none)) else (none)) else (some (aA.1, aC.2.1, aC.2.2)))))
theorem Ye {p q : Prop} (g : p) (h : p → q := by intro zg_; repeat (first | (with_reducible first | exact zg_ | apply Qe.alloc | apply Qe.drewN | apply Qe.drew | apply Qe.set_1 | apply Qe.set_2) | exact zg_)) : q := h g
theorem We {p q p0 : Prop} (g : p) (g0 : p0) (h : p → p0 → q := by intro zg_ aA; repeat (first | (with_reducible first | exact zg_ | apply Qw | apply Qs | apply Qp | refine Q5 ?_ aA) | exact zg_)) : q := h g g0
theorem Yd {p q : Prop} (g : p) (h : p → q := by intro zg_; repeat (first | (with_reducible first | exact zg_ | apply Qq.set_ | apply Xl | apply Xa | apply Xm) | exact zg_)) : q := h g
set_option maxHeartbeats 8000000 in
set_option maxRecDepth 100000 in
theorem J4.calls (k : Nat) (g : Nat) (aH : List Int) (aX : Int) (aY : Int) (r1 : List (S48)) (r2 : Int) (r3 : Int) (w0 w : World) (hI : Qe w0 w g aH aX aY) (hB : Below w0.heap.size w0 w) (h : J4.f k aH aX aY = some (r1, r2, r3)) :
  Calls Tryz.prog 54 #[.pointer (some ⟨g, 0, none⟩)] w fun e w' => ∃ dX : Value, e = .returned (dX) ∧ Kd.R k48 48 w' w.heap.size (fun _ => True) dX r1 ∧ Qe w0 w' g aH r2 r3 ∧ Below w0.heap.size w0 w' ∧ Qq w w' g none := by
 have eP := Tryz.underlying48
 have HI0 := Qa.mk hI
 have HK := Qa.mk (Qq.refl w g none)
 have HL := Qa.mk hB.size
 clear hI
 have HW0 := Qa.mk hB.size
 have HB := Qa.mk hB
 clear hB
 have H := h
 unfold J4.f at H
 clear h
 obtain ⟨⟨aC, aJ, aK⟩, A2, H⟩ := zO H
 dsimp only at H
 obtain ⟨⟨bM, aU, aV⟩, A3, H⟩ := zO H
 dsimp only at H
 replace H := Zb H
 rcases H with ⟨dH, dI, H⟩ | ⟨c4, dH, dI, H⟩
 ·generalize bC : (([50, 51, (-51)] : List Int) : List Int) = bT at H
  have bD := Qa.mk bC.symm
  clear bC
  obtain ⟨⟨aW, dJ, dK⟩, A5, H⟩ := zO H
  dsimp only at H
  replace H := Yc H
  rcases H with ⟨c6, eQ, H⟩ | ⟨c6, H⟩
  ·have eU : decide (0 < aC.length) = true := decide_eq_true (by omega)
   clear c6
   generalize bE : (aC.set (0 : Int).toNat (⟨aW, (Qb aC 0).f1⟩ : S48) : List (S48)) = dL at H
   have bU := Qa.mk bE.symm
   clear bE
   simp only [Option.some.injEq, Prod.mk.injEq] at H
   obtain ⟨rfl, rfl, rfl⟩ := H
   go_enter Tryz.func54, Tryz.ntmps54
   go_wp2_with (first | ((with_reducible refine Qd (f := 85) rfl ?_); refine zD (some 5) Tryz.func85 _ ((Qj.calls k g aH aX aY aC aJ aK w0 _ ?aD ?aG A2.out).mono ?_); (case aD => exact (Ye HI0.out)); (case aG => exact (We HB.out (Qe.ge HI0.out))); rintro e w8 ⟨bV, rfl, ho0, hi, hb, hk⟩; refine ⟨_, rfl, ?_⟩; have aA := Qa.mk (Kd.R_lower ho0 (Xt (w := w) (g := g) (row := none) (Yd HK.out))); replace HK := Qa.mk (Qq.trans (Yd HK.out) hk (.inl rfl)); replace HI0 := Qa.mk (hi); replace HB := Qa.mk (hb); (try clear hb); (try clear hk); (try clear hi); (try clear ho0)) | ((with_reducible refine Qd (f := 51) rfl ?_); refine zD (some 7) Tryz.func51 _ ((Q3.calls g aH aJ aK 14 bM aU aV w0 _ ?aD ?aG A3.out).mono ?_); (case aD => exact (Ye HI0.out)); (case aG => exact (We HB.out (Qe.ge HI0.out))); rintro e w9 ⟨rfl, hi, hb, hk⟩; refine ⟨_, rfl, ?_⟩; replace aA := Qa.mk (Kd.R_mono (Kd.R_keep (Qe.apart (show Qe w0 _ g aH aJ aK from (Ye HI0.out)) (zR aA.out) (by decide)) hk (fun _ h => h.2)) (fun _ h => h.1)); replace HK := Qa.mk (Qq.trans (Yd HK.out) hk (.inl rfl)); replace HI0 := Qa.mk (hi); replace HB := Qa.mk (hb); (try clear hb); (try clear hk); (try clear hi)) | ((with_reducible refine Qo (N := 12) rfl ?_); refine Kd.R_lit (Kd.int .i64) _ 3 ?hg (N := 12) ?hd (xs := ([50, 51, (-51)] : List Int)) (inner := [.int .i64 50, .int .i64 51, .int .i64 (-51)]) (ok := fun _ => True) (okp := fun _ => True) ?hr ?hp (fun _ hk => hk) trivial (Below.refl _ _) (Nat.le_refl _) (by simp) ?_; (case hd => rfl); (case hg => rfl); (case hr => first | (go_simp; done) | (go_simp; rfl)); (case hp => exact (J6.one (show Kd.M (Kd.int .i64) _ _ _ 50 [.int .i64 50] from rfl) (J6.one (show Kd.M (Kd.int .i64) _ _ _ 51 [.int .i64 51] from rfl) (J6.one (show Kd.M (Kd.int .i64) _ _ _ (-51) [.int .i64 (-51)] from rfl) (J6.none _ _))))); intro eX fE aZ hb hg_ hnew_; clear hg_ hnew_; (first | rw [← bD.out] at aZ | (simp only [Int.reduceToNat] at aZ; rw [← bD.out] at aZ)); have bW := zW aA.out hb; have bX := Qa.mk (Kd.R_lower aZ (Xt (w := w) (g := g) (row := none) (Yd HK.out))); have bY := Qa.mk (Qe.below (Ye HI0.out) hb); have bZ := Qa.mk (Qq.trans (Yd HK.out) (Qq.of_below hb g none) (.inl rfl)); have dY := Qa.mk (Qk (zG (Qe.ge HI0.out)) hb); clear aA; clear HI0; clear HK; clear HB; have aA := bW; have aI := bX; have HI0 := bY; have HK := bZ; have HB := dY; clear bW bX bY bZ dY; clear hb aZ; obtain ⟨dM, dN, dO⟩ := Kd.R_slice aI.out; subst dO) | ((with_reducible refine Qd (f := 88) rfl ?_); refine zD (some 13) Tryz.func88 #[.pointer (some ⟨g, 0, none⟩), .slice dM bT.length dN] ((J7.calls g aH aU aV _ _ bT aW dJ dK w0 _ ?aD ?aG ?cB ?cK ?cO A5.out).mono ?_); (case aD => exact (Ye HI0.out)); (case aG => exact (We HB.out (Qe.ge HI0.out))); (case cB => exact zc ((Kd.R_reads' aI.out).2.2)); (case cK => exact (Kd.R_reads' aI.out).2.1); (case cO => exact Km (Qe.own_ne HI0.out aI.out (by decide))); rintro e bN ⟨rfl, hi, hb, hk⟩; refine ⟨_, rfl, ?_⟩; replace aA := Qa.mk (Kd.R_mono (Kd.R_keep (Qe.apart (show Qe w0 _ g aH aU aV from (Ye HI0.out)) (zR aA.out) (by decide)) hk (fun _ h => h.2)) (fun _ h => h.1)); replace aI := Qa.mk (Kd.R_mono (Kd.R_keep (Qe.apart (show Qe w0 _ g aH aU aV from (Ye HI0.out)) (zR aI.out) (by decide)) hk (fun _ h => h.2)) (fun _ h => h.1)); replace HK := Qa.mk (Qq.trans (Yd HK.out) hk (.inl rfl)); replace HI0 := Qa.mk (hi); replace HB := Qa.mk (hb); (try clear hb); (try clear hk); (try clear hi); have p7 : 0 ≤ (0 : Int) := (by omega); have q7 : (0 : Int) < ((aC.length : Int) : Int) := zA; have fF : (0 < aC.length) = True := eq_true (by omega); obtain ⟨bB, dP, dZ, eB, eY, fG, eD⟩ := Kd.R_form aA.out (by omega); (first | cases dZ | (injection dZ with ea_ en_ ec_; (first | subst ea_ | (injection ea_ with ea_; subst ea_)); subst ec_; clear en_)); have eZ := Qa.mk eB; have fH := Qa.mk eD; clear eB eY eD; obtain ⟨fI, dQ, eF, bO, bP⟩ := Kd.R_elem aA.out z48 (0 : Int) p7 q7; obtain rfl := jBb eF; have bF : bN.cell? ⟨bB, (0 : Int).toNat * 2, none⟩ = some (.int .i64 ((Qb aC 0).f0)) := bO 0 _ rfl; have bG : bN.cell? ⟨bB, (0 : Int).toNat * 2 + 1, none⟩ = some (.int .i64 ((Qb aC 0).f1)) := bO 1 _ rfl; have bH : bN.frozen? ⟨bB, (0 : Int).toNat * 2, none⟩ = false := bP 0; have bI : bN.frozen? ⟨bB, (0 : Int).toNat * 2 + 1, none⟩ = false := bP 1; clear dQ bO bP eF; (try rw [show ((0 : Int)).toNat = 0 from rfl] at bF); (try simp only [Nat.reduceMul, Nat.zero_mul, Nat.zero_add, Nat.reduceAdd] at bF); (try rw [show ((0 : Int)).toNat = 0 from rfl] at bH); (try simp only [Nat.reduceMul, Nat.zero_mul, Nat.zero_add, Nat.reduceAdd] at bH); (try rw [show ((0 : Int)).toNat = 0 from rfl] at bG); (try simp only [Nat.reduceMul, Nat.zero_mul, Nat.zero_add, Nat.reduceAdd] at bG); (try rw [show ((0 : Int)).toNat = 0 from rfl] at bI); (try simp only [Nat.reduceMul, Nat.zero_mul, Nat.zero_add, Nat.reduceAdd] at bI); replace p7 := eq_true p7; replace q7 := eq_true q7; have cZ := Qa.mk (show Kd.R k48 48 bN w.heap.size (fun _ => True) (.slice (some ⟨bB, 0, none⟩) aC.length dP) aC from (zR aA.out)); obtain ⟨fA, bJ, dA, bA, bK⟩ := Kd.R_elem cZ.out z48 (0 : Int) (by omega) (by have h_ : (0 : Int) < ((aC.length : Int) : Int) := zA; first | exact h_ | (have e_ := (Kd.R_reads' aA.out).1; omega) | simpa using h_); obtain rfl := jBb dA; have bQ := Kd.R_seg cZ.out (0 : Int) (by omega) (by have h_ : (0 : Int) < ((aC.length : Int) : Int) := zA; first | exact h_ | (have e_ := (Kd.R_reads' aA.out).1; omega) | simpa using h_) (seg := [.int .i64 aW]) (j := 0) bJ bA (show 1 ≤ 2 from by decide) (x' := (⟨aW, (Qb aC 0).f1⟩ : S48)) (Z0 _ _ _ (⟨aW, (Qb aC 0).f1⟩ : S48) ) (fun _ hk => hk); have aQ := bA 0 _ rfl; (try simp only [show (k48).sz = 2 from rfl, Nat.mul_one, Nat.add_zero] at aQ); (try rw [show ((0 : Int)).toNat = 0 from rfl] at aQ); (try simp only [Nat.reduceMul, Nat.zero_mul, Nat.zero_add, Nat.reduceAdd] at aQ); have aT := bK 0; (try simp only [show (k48).sz = 2 from rfl, Nat.mul_one, Nat.add_zero] at aT); (try rw [show ((0 : Int)).toNat = 0 from rfl] at aT); (try simp only [Nat.reduceMul, Nat.zero_mul, Nat.zero_add, Nat.reduceAdd] at aT); clear bJ bA bK dA) | ((with_reducible refine jDl (t := 3) (p := 15) rfl ?_); refine jB6 (t := 3) (p := 15) (v := ?dR) (w1 := (bN.setCell ⟨bB, 0, none⟩ (.int .i64 aW))) ?hg ?ho ?hn ?hr ?_; (case ho => rfl); (case hg => rfl); (case hn => rfl); (case hr => first | (go_simp; done) | (go_simp; rfl)); intro dS hw; have hg : bN.grownBy dS (some bB) := (by rw [hw]; exact bQ.2); have hp_ : Kd.R k48 48 dS w.heap.size (fun _ => True) (.slice (some ⟨bB, 0, none⟩) aC.length dP) dL := (by rw [hw, bU.out]; exact bQ.1); clear bQ; replace HI0 := Qa.mk (Qe.grown (Ye HI0.out) hg (Qe.own_ne HI0.out aA.out (by decide))); replace aI := Qa.mk (Kd.R_over' (v := (.slice (some ⟨bB, 0, none⟩) aC.length dP)) (zR aI.out) (Kd.R_typed aA.out) (by decide) hg); replace HK := Qa.mk (Qq.trans (Yd HK.out) (Qq.of_grown hg g) (Kd.R_base2 aA.out)); replace aA := Qa.mk (hp_); replace HB := Qa.mk ((by rw [hw]; exact Q5 (HB.out) (Nat.le_trans HL.out eZ.out) : Below w0.heap.size w0 dS)); clear hg hw hp_))
   go_ret
   exact ⟨_, zE, zR aA.out, (Ye HI0.out), zG (Qe.ge HI0.out), (Yd HK.out)⟩
  exact absurd H (by simp)
 replace H := Zb H
 rcases H with ⟨dB, dC, H⟩ | ⟨c16, dB, dC, H⟩
 ·replace H := Yc H
  rcases H with ⟨c17, eG, H⟩ | ⟨c17, H⟩
  ·have eH : decide (0 < aC.length) = true := decide_eq_true (by omega)
   clear c17
   replace H := Z8 H
   rcases H with ⟨c18, H⟩ | ⟨c18, H⟩
   ·have dD := Qa.mk c18
    clear c18
    generalize bL : (aC ++ [(⟨(Qb aC 0).f0, (Qb aC 0).f1⟩ : S48)] : List (S48)) = fB at H
    have dE := Qa.mk bL.symm
    clear bL
    simp only [Option.some.injEq, Prod.mk.injEq] at H
    obtain ⟨rfl, rfl, rfl⟩ := H
    go_enter Tryz.func54, Tryz.ntmps54
    go_wp2_with (first | ((with_reducible refine Qd (f := 85) rfl ?_); refine zD (some 5) Tryz.func85 _ ((Qj.calls k g aH aX aY aC aJ aK w0 _ ?aD ?aG A2.out).mono ?_); (case aD => exact (Ye HI0.out)); (case aG => exact (We HB.out (Qe.ge HI0.out))); rintro e fJ ⟨bV, rfl, ho0, hi, hb, hk⟩; refine ⟨_, rfl, ?_⟩; have aA := Qa.mk (Kd.R_lower ho0 (Xt (w := w) (g := g) (row := none) (Yd HK.out))); replace HK := Qa.mk (Qq.trans (Yd HK.out) hk (.inl rfl)); replace HI0 := Qa.mk (hi); replace HB := Qa.mk (hb); (try clear hb); (try clear hk); (try clear hi); (try clear ho0)) | ((with_reducible refine Qd (f := 51) rfl ?_); refine zD (some 7) Tryz.func51 _ ((Q3.calls g aH aJ aK 14 bM aU aV w0 _ ?aD ?aG A3.out).mono ?_); (case aD => exact (Ye HI0.out)); (case aG => exact (We HB.out (Qe.ge HI0.out))); rintro e fK ⟨rfl, hi, hb, hk⟩; refine ⟨_, rfl, ?_⟩; replace aA := Qa.mk (Kd.R_mono (Kd.R_keep (Qe.apart (show Qe w0 _ g aH aJ aK from (Ye HI0.out)) (zR aA.out) (by decide)) hk (fun _ h => h.2)) (fun _ h => h.1)); replace HK := Qa.mk (Qq.trans (Yd HK.out) hk (.inl rfl)); replace HI0 := Qa.mk (hi); replace HB := Qa.mk (hb); (try clear hb); (try clear hk); (try clear hi); obtain ⟨fC, dU, dV⟩ := Kd.R_slice aA.out; subst dV; have bR : 0 ≤ (0 : Int) := (by omega); have bS : 0 < (aC.length : Int) := zA; obtain ⟨dF, dW, aM, aN⟩ := Jj (Kd.R_reads' aA.out).2.2 0 bR bS; cases dW; have eO : (0 < aC.length) = True := eq_true (by omega); (try rw [show ((0 : Int)).toNat = 0 from rfl] at aM); (try rw [show 0 * 2 = 0 from rfl] at aM); (try rw [Addr.add_zero'] at aM); (try rw [show ((0 : Int)).toNat = 0 from rfl] at aN); (try rw [show 0 * 2 = 0 from rfl] at aN); (try rw [Addr.add_zero'] at aN); replace bR := eq_true bR; replace bS := eq_true bS) | ((with_reducible refine J5 (b := .append) (xs := #[.tmp 18, .tmp 22]) rfl ?_); at_builtin; refine Kd.R_append k48 w.heap.size rfl (.tmp 18) (.tmp 22) 28 48 (.agg #[(.int .i64 0), (.int .i64 0)]) 16 rfl Tryz.underlying28 Yf rfl (by decide) (by omega) (.slice (some dF) aC.length dU) aC (⟨(Qb aC 0).f0, (Qb aC 0).f1⟩ : S48) [.int .i64 ((Qb aC 0).f0), .int .i64 ((Qb aC 0).f1)] (fun _ => True) (fun _ => False) rfl rfl ?aP (fun _ hk => hk.elim) ?aF ?aO (Below.refl _ _) ?aS ?aL ?_; (case aP => exact Z0 _ _ _ (⟨(Qb aC 0).f0, (Qb aC 0).f1⟩ : S48)); (case aF => exact (fun _ _ => trivial)); (case aO => exact (zR aA.out)); (case aS => exact (Xt (w := w) (g := g) (row := none) (Yd HK.out))); (case aL => have := dD.out; omega); intro fD fM ho hb hg hat; rw [← dE.out] at ho; have bW := Qa.mk (Qe.grown (Ye HI0.out) hg (Qe.own_ne HI0.out aA.out (by decide))); have bX := Qa.mk (Ub (zG (Qe.ge HI0.out)) HL.out hb); have bY := Qa.mk (Qq.trans (Yd HK.out) (Qq.of_grown hg g) (Kd.R_base2 aA.out)); have bZ := Qa.mk (ho); clear HI0; clear HB; clear HK; clear aA; have HI0 := bW; have HB := bX; have HK := bY; have dG := bZ; clear bW bX bY bZ; clear ho hb hg hat))
    go_ret
    exact ⟨_, zE, zR dG.out, (Ye HI0.out), zG (Qe.ge HI0.out), (Yd HK.out)⟩
   exact absurd H (by simp)
  exact absurd H (by simp)
 simp only [Option.some.injEq, Prod.mk.injEq] at H
 obtain ⟨rfl, rfl, rfl⟩ := H
 go_enter Tryz.func54, Tryz.ntmps54
 go_wp2_with (first | ((with_reducible refine Qd (f := 85) rfl ?_); refine zD (some 5) Tryz.func85 _ ((Qj.calls k g aH aX aY aC aJ aK w0 _ ?aD ?aG A2.out).mono ?_); (case aD => exact (Ye HI0.out)); (case aG => exact (We HB.out (Qe.ge HI0.out))); rintro e fO ⟨bV, rfl, ho0, hi, hb, hk⟩; refine ⟨_, rfl, ?_⟩; have aA := Qa.mk (Kd.R_lower ho0 (Xt (w := w) (g := g) (row := none) (Yd HK.out))); replace HK := Qa.mk (Qq.trans (Yd HK.out) hk (.inl rfl)); replace HI0 := Qa.mk (hi); replace HB := Qa.mk (hb); (try clear hb); (try clear hk); (try clear hi); (try clear ho0)) | ((with_reducible refine Qd (f := 51) rfl ?_); refine zD (some 7) Tryz.func51 _ ((Q3.calls g aH aJ aK 14 bM aU aV w0 _ ?aD ?aG A3.out).mono ?_); (case aD => exact (Ye HI0.out)); (case aG => exact (We HB.out (Qe.ge HI0.out))); rintro e fP ⟨rfl, hi, hb, hk⟩; refine ⟨_, rfl, ?_⟩; replace aA := Qa.mk (Kd.R_mono (Kd.R_keep (Qe.apart (show Qe w0 _ g aH aJ aK from (Ye HI0.out)) (zR aA.out) (by decide)) hk (fun _ h => h.2)) (fun _ h => h.1)); replace HK := Qa.mk (Qq.trans (Yd HK.out) hk (.inl rfl)); replace HI0 := Qa.mk (hi); replace HB := Qa.mk (hb); (try clear hb); (try clear hk); (try clear hi)))
 go_ret
 exact ⟨_, zE, zR aA.out, (Ye HI0.out), zG (Qe.ge HI0.out), (Yd HK.out)⟩
def Jz.f (k : Nat) (l0 : List Int) : Option ((List (S48))) := (Jm.f k l0).bind fun aA => ((J4.f k aA.1 aA.2.1 aA.2.2).bind fun aC => (some aC.1))
theorem jHg {p q : Prop} (g : p) (h : p → q := by intro zg_; repeat (first | (with_reducible first | exact zg_ | apply Qw | apply Qs | apply Qp) | exact zg_)) : q := h g
theorem jHm {p q : Prop} (g : p) (h : p → q := by intro zg_; repeat (first | (with_reducible first | exact zg_ | apply Qe.alloc | apply Qe.drewN | apply Qe.drew | apply Qe.set_1 | apply Qe.set_2) | exact zg_)) : q := h g
theorem jGz {p q p0 : Prop} (g : p) (g0 : p0) (h : p → p0 → q := by intro zg_ aA; repeat (first | (with_reducible first | exact zg_ | apply Qw | apply Qs | apply Qp | refine Q5 ?_ aA) | exact zg_)) : q := h g g0
set_option maxHeartbeats 8000000 in
set_option maxRecDepth 100000 in
theorem Jz.calls (k : Nat) (A0 : Option Addr) (c0 : Nat) (l0 : List Int) (r : List (S48)) (w : World) (hr0 : Kd.C (Kd.int .u8) w A0 l0.length l0) (hc0 : l0.length ≤ c0) (h : Jz.f k l0 = some r) :
  Calls Tryz.prog 30 #[.slice A0 l0.length c0] w fun e w' => ∃ aU : Value, e = .returned (aU) ∧ Kd.R k48 48 w' w.heap.size (fun _ => True) aU r ∧ Below w.heap.size w w' := by
 have aV := Qa.mk hr0
 have aW := Qa.mk hc0
 clear hr0 hc0
 have HB := Qa.mk (Below.refl w.heap.size w)
 have H := h
 unfold Jz.f at H
 clear h
 obtain ⟨⟨aG, aH, aI⟩, A2, H⟩ := zO H
 dsimp only at H
 obtain ⟨⟨aJ, aN, aQ⟩, A3, H⟩ := zO H
 replace H : (some aJ) = some r := H
 obtain rfl := Option.some.inj H
 go_enter Tryz.func30, Tryz.ntmps30
 go_wp2_with (first | ((with_reducible refine Qd (f := 49) rfl ?_); refine zD (some 4) Tryz.func49 #[.slice A0 l0.length c0] ((Jm.calls k _ _ l0 aG aH aI w _ ?aC ?aD ?aK A2.out).mono ?_); (case aC => exact (jHg HB.out)); (case aD => exact aV.out); (case aK => exact aW.out); rintro e w4 ⟨aT, rfl, hi, hb, hb2⟩; refine ⟨_, rfl, ?_⟩; have aA := Qa.mk (hi); replace HB := Qa.mk (hb); (try clear hb); (try clear hb2); (try clear hi)) | ((with_reducible refine Qd (f := 54) rfl ?_); refine zD (some 5) Tryz.func54 _ ((J4.calls k aT aG aH aI aJ aN aQ w _ ?aC ?aD A3.out).mono ?_); (case aC => exact (jHm aA.out)); (case aD => exact (jGz HB.out (Qe.ge aA.out))); rintro e w5 ⟨aX, rfl, ho0, hi, hb, hk⟩; refine ⟨_, rfl, ?_⟩; have aM := Qa.mk (Kd.R_lower ho0 (Ql (zG (Qe.ge aA.out)))); replace aA := Qa.mk (hi); replace HB := Qa.mk (hb); (try clear hb); (try clear hk); (try clear hi); (try clear ho0)))
 go_ret
 exact ⟨_, zE, zR aM.out, zG (Qe.ge aA.out)⟩
def Za.l0 : Nat → List ByteArray → ByteArray → List Int → Int → Option (ByteArray)
 | 0, _, _, _, _ => none
 | k + 1, x0, x1, x5, x6 => if x6 < (x0.length : Int) then (if x6 > 0 then (if x5.length + x1.size < 140737488355328 then ((some (x5 ++ bytesOf x1 : List Int)).bind fun aA => (if 0 ≤ x6 then (if aA.length + (Yr ByteArray.empty x0 x6).size < 140737488355328 then (Za.l0 k x0 x1 (aA ++ bytesOf (Yr ByteArray.empty x0 x6)) (wrap64 (x6 + 1))) else (none)) else (none))) else (none)) else (if 0 ≤ x6 then (if x5.length + (Yr ByteArray.empty x0 x6).size < 140737488355328 then (Za.l0 k x0 x1 (x5 ++ bytesOf (Yr ByteArray.empty x0 x6)) (wrap64 (x6 + 1))) else (none)) else (none))) else (some (strOfNums x5))
def Za.f (k : Nat) (l0 : List ByteArray) (a1 : ByteArray) : Option (ByteArray) := Za.l0 k l0 a1 (([] : List Int)) 0
set_option maxHeartbeats 8000000 in
set_option maxRecDepth 100000 in
theorem Za.calls (k : Nat) (A0 : Option Addr) (c0 : Nat) (l0 : List ByteArray) (a1 : ByteArray) (r : ByteArray) (w : World) (hr0 : Kd.C Kd.string w A0 l0.length l0) (hc0 : l0.length ≤ c0) (h : Za.f k l0 a1 = some r) :
  Calls Tryz.prog 100 #[.slice A0 l0.length c0, .string a1] w fun e w' => e = .returned (.string r) ∧ Below w.heap.size w w' := by
 have bS := Qa.mk hr0
 have cO := Qa.mk hc0
 clear hr0 hc0
 have HB := Qa.mk (Below.refl w.heap.size w)
 have H := h
 unfold Za.f at H
 clear h
 generalize aI : (([] : List Int) : List Int) = bJ at H
 have aJ := Qa.mk aI.symm
 clear aI
 have H' := Qa.mk H; clear H
 go_enter Tryz.func100, Tryz.ntmps100
 go_wp2_with (first | ((with_reducible refine Qo (N := 7) rfl ?_); refine Kd.R_lit (Kd.int .u8) _ 5 ?hg (N := 7) ?hd (xs := ([] : List Int)) (inner := []) (ok := fun _ => True) (okp := fun _ => True) ?hr ?hp (fun _ hk => hk) trivial (Below.refl _ _) (Nat.le_refl _) (by simp) ?_; (case hd => rfl); (case hg => rfl); (case hr => first | (go_simp; done) | (go_simp; rfl)); (case hp => exact (J6.none _ _)); intro bX w3 aX hb hg_ hnew_; clear hg_ hnew_; (first | rw [← aJ.out] at aX | (simp only [Int.reduceToNat] at aX; rw [← aJ.out] at aX)); have aY := Qa.mk (Kd.R_lower aX (Ql zB)); replace HB := zX hb; clear hb aX))
 go_loopg [5, 6] k (fun kq v5 v6 w' => ∃ (aG : List Int) (aA : Int), v6 = .int .i64 aA ∧ Qa (Za.l0 kq l0 a1 aG aA = some r) ∧ Qa (kq ≤ k) ∧ Qa (Kd.R (Kd.int .u8) 5 w' w.heap.size (fun _ => True) v5 aG) ∧ Qa (Below w.heap.size w w'))
 case atStart => exact ⟨(bJ), (0), zF, H', ⟨Nat.le_refl _⟩, ⟨zR aY.out⟩, ⟨zB⟩⟩
 case round =>
 clear H'
 obtain ⟨aG, aA, rfl, HA, bI, aH, HB⟩ := hrel
 cases gk with
 | zero => exact absurd HA.out (by simp [Za.l0])
 | succ k1 =>
 have H := HA.out
 clear HA
 simp only [Za.l0] at H
 replace H := Xg H
 rcases H with ⟨bK, H⟩ | ⟨bK, H⟩
 ·replace H := Z8 H
  rcases H with ⟨c6, H⟩ | ⟨c6, H⟩
  ·have bL : decide (0 < aA) = true := decide_eq_true c6
   clear c6
   replace H := Z8 H
   rcases H with ⟨c7, H⟩ | ⟨c7, H⟩
   ·have bM := Qa.mk c7
    clear c7
    obtain ⟨aQ, aZ, H⟩ := zs H
    replace H := J9 H
    rcases H with ⟨bY, H⟩ | ⟨c8, H⟩
    ·replace H := Z8 H
     rcases H with ⟨c9, H⟩ | ⟨c9, H⟩
     ·have bN := Qa.mk c9
      clear c9
      generalize aK : (aQ ++ bytesOf (Yr ByteArray.empty l0 aA) : List Int) = bA at H
      have bB := Qa.mk aK.symm
      clear aK
      have H' := Qa.mk H; clear H
      go_wp2_with (first | (at_builtin; refine Yp (w0 := w) w.heap.size rfl (.tmp 16) _ 22 9 5 rfl Tryz.underlying22 Tryz.underlying9 info5 u5 aG a1 rfl rfl ?aO ?aB ?aS ?aL ?_; (case aB => exact zB); (case aO => exact (Kd.own_of_R (zR aH.out))); (case aS => exact (Ql zB)); (case aL => have := bM.out; omega); intro bC bZ ho0 hb hg; have ho := Kd.R_of_own (h1 := fun _ => rfl) (ok := fun _ => True) ho0 (fun _ _ => trivial); clear ho0; have hat := True.intro; rw [← aZ.out] at ho; change Kd.R (Kd.int .u8) 5 bZ w.heap.size (fun _ => True) bC aQ at ho; have aM := Qa.mk (ho); replace HB := Qa.mk (hb); clear aH; clear ho hb hg hat; have aT : 0 ≤ (aA : Int) := zA; have aU : aA < (l0.length : Int) := zA; obtain ⟨bT, bO, aC⟩ := Kd.at_string bS.out aA aT aU; cases bO; replace aC := (HB.out.cell (World.block_lt_of_cell? w _ aC)).trans aC; replace aT := eq_true aT; replace aU := eq_true aU) | (at_builtin; refine Yp (w0 := w) w.heap.size rfl (.tmp 19) _ 22 9 5 rfl Tryz.underlying22 Tryz.underlying9 info5 bC aQ (Yr ByteArray.empty l0 aA) rfl rfl ?aO ?aB ?aS ?aL ?_; (case aB => exact zB); (case aO => exact (Kd.own_of_R (zR aM.out))); (case aS => exact (Ql zB)); (case aL => have := bN.out; omega); intro bP cB ho0 hb hg; have ho := Kd.R_of_own (h1 := fun _ => rfl) (ok := fun _ => True) ho0 (fun _ _ => trivial); clear ho0; have hat := True.intro; rw [← bB.out] at ho; change Kd.R (Kd.int .u8) 5 cB w.heap.size (fun _ => True) bP bA at ho; have bD := Qa.mk (ho); replace HB := Qa.mk (hb); clear aM; clear ho hb hg hat))
      go_roundg k1
      case measure => have := bI.out; omega
      case rel => exact ⟨(bA), (wrap64 (aA + 1)), zF, H', ⟨by have := bI.out; omega⟩, ⟨zR bD.out⟩, ⟨zB⟩⟩
     exact absurd H (by simp)
    exact absurd H (by simp)
   exact absurd H (by simp)
  have bL : decide (0 < aA) = false := decide_eq_false c6
  clear c6
  replace H := J9 H
  rcases H with ⟨bU, H⟩ | ⟨c12, H⟩
  ·replace H := Z8 H
   rcases H with ⟨c13, H⟩ | ⟨c13, H⟩
   ·have bE := Qa.mk c13
    clear c13
    generalize aN : (aG ++ bytesOf (Yr ByteArray.empty l0 aA) : List Int) = bF at H
    have bG := Qa.mk aN.symm
    clear aN
    have H' := Qa.mk H; clear H
    have aV : 0 ≤ (aA : Int) := zA
    have aW : aA < (l0.length : Int) := zA
    obtain ⟨bV, bQ, aD⟩ := Kd.at_string bS.out aA aV aW
    cases bQ
    replace aD := (HB.out.cell (World.block_lt_of_cell? w _ aD)).trans aD
    replace aV := eq_true aV
    replace aW := eq_true aW
    go_wp2_with (first | (at_builtin; refine Yp (w0 := w) w.heap.size rfl (.tmp 19) _ 22 9 5 rfl Tryz.underlying22 Tryz.underlying9 info5 u5 aG (Yr ByteArray.empty l0 aA) rfl rfl ?aO ?aB ?aS ?aL ?_; (case aB => exact zB); (case aO => exact (Kd.own_of_R (zR aH.out))); (case aS => exact (Ql zB)); (case aL => have := bE.out; omega); intro bR cK ho0 hb hg; have ho := Kd.R_of_own (h1 := fun _ => rfl) (ok := fun _ => True) ho0 (fun _ _ => trivial); clear ho0; have hat := True.intro; rw [← bG.out] at ho; change Kd.R (Kd.int .u8) 5 cK w.heap.size (fun _ => True) bR bF at ho; have bH := Qa.mk (ho); replace HB := Qa.mk (hb); clear aH; clear ho hb hg hat))
    go_roundg k1
    case measure => have := bI.out; omega
    case rel => exact ⟨(bF), (wrap64 (aA + 1)), zF, H', ⟨by have := bI.out; omega⟩, ⟨zR bH.out⟩, ⟨zB⟩⟩
   exact absurd H (by simp)
  exact absurd H (by simp)
 obtain rfl := Option.some.inj H
 have bW := Ku (P := Tryz.prog) Tryz.underlying22 Tryz.underlying5 Tryz.underlying9 (Kd.own_of_R aH.out)
 go_wp2
 go_ret
 exact ⟨zE, zB⟩
def Q7.l0 : Nat → Int → Bool → ByteArray → Option (ByteArray)
 | 0, _, _, _ => none
 | k + 1, x0, x3, x4 => if x0 = 0 then (if x3 = true then (if 1 + x4.size ≤ 9223372036854775807 then (some ((⟨#[45]⟩ : ByteArray) ++ x4)) else (none)) else (some x4)) else (if (Int.tmod x0 10) < 0 then ((some (([(wrap64 (48 + (wrap64 (-(Int.tmod x0 10))))) % 256] : List Int) : List Int)).bind fun aA => (if (strOfNums aA).size + x4.size ≤ 9223372036854775807 then (Q7.l0 k (wrap64 (Int.tdiv x0 10)) x3 ((strOfNums aA) ++ x4)) else (none))) else ((some (([(wrap64 (48 + (Int.tmod x0 10))) % 256] : List Int) : List Int)).bind fun aC => (if (strOfNums aC).size + x4.size ≤ 9223372036854775807 then (Q7.l0 k (wrap64 (Int.tdiv x0 10)) x3 ((strOfNums aC) ++ x4)) else (none))))
def Q7.f (k : Nat) (a0 : Int) : Option (ByteArray) := if a0 = 0 then (some (⟨#[48]⟩ : ByteArray)) else (Q7.l0 k a0 (decide (a0 < 0)) (⟨#[]⟩ : ByteArray))
set_option maxHeartbeats 8000000 in
set_option maxRecDepth 100000 in
theorem Q7.calls (k : Nat) (a0 : Int) (r : ByteArray) (w : World) (h : Q7.f k a0 = some r) :
  Calls Tryz.prog 80 #[.int .i64 a0] w fun e w' => e = .returned (.string r) ∧ Below w.heap.size w w' := by
 have HB := Qa.mk (Below.refl w.heap.size w)
 have H := h
 unfold Q7.f at H
 clear h
 replace H := Zb H
 rcases H with ⟨aJ, aK, H⟩ | ⟨c2, aJ, aK, H⟩
 ·obtain rfl := Option.some.inj H
  go_enter Tryz.func80, Tryz.ntmps80
  go_wp2
  go_ret
  exact ⟨zE, zB⟩
 have H' := Qa.mk H; clear H
 go_enter Tryz.func80, Tryz.ntmps80
 go_wp2
 go_loopg [0, 4] k (fun kq v0 v4 w' => ∃ (aA : Int) (aC : ByteArray), v0 = .int .i64 aA ∧ v4 = .string aC ∧ Qa (Q7.l0 kq aA (decide (a0 < 0)) aC = some r) ∧ Qa (kq ≤ k) ∧ Qa (Below w.heap.size w w'))
 case atStart => exact ⟨(a0), ((⟨#[]⟩ : ByteArray)), zF, zF, H', ⟨Nat.le_refl _⟩, ⟨zB⟩⟩
 case round =>
 clear H'
 try clear c2
 try clear aJ
 try clear aK
 obtain ⟨aA, aC, rfl, rfl, HA, aV, HB⟩ := hrel
 cases gk with
 | zero => exact absurd HA.out (by simp [Q7.l0])
 | succ k1 =>
 have H := HA.out
 clear HA
 simp only [Q7.l0] at H
 replace H := Zb H
 rcases H with ⟨aW, aX, H⟩ | ⟨c3, aW, aX, H⟩
 ·replace H := Z8 H
  rcases H with ⟨c4, H⟩ | ⟨c4, H⟩
  ·have aI : (decide (a0 < 0)) = true := c4
   clear c4
   replace H := Vd H
   rcases H with ⟨c5, bE, bF, H⟩ | ⟨c5, H⟩
   ·try have bG : (9223372036854775807 < 1 + aC.size) = False := eq_false (Nat.not_lt.2 c5)
    obtain rfl := Option.some.inj H
    go_wp2
    all_goals first | (exfalso; have hdd := of_decide_eq_true aI; omega; done) | skip
    go_ret
    exact ⟨zE, zB⟩
   exact absurd H (by simp)
  have aI : (decide (a0 < 0)) = false := by simpa using c4
  clear c4
  obtain rfl := Option.some.inj H
  go_wp2
  all_goals first | (exfalso; have hdd := of_decide_eq_false aI; omega; done) | skip
  go_ret
  exact ⟨zE, zB⟩
 replace H := Xg H
 rcases H with ⟨aY, H⟩ | ⟨aY, H⟩
 ·obtain ⟨aM, aG, H⟩ := zs H
  replace H := Vd H
  rcases H with ⟨c7, bH, bI, H⟩ | ⟨c7, H⟩
  ·try have bJ : (9223372036854775807 < (strOfNums aM).size + aC.size) = False := eq_false (Nat.not_lt.2 c7)
   have H' := Qa.mk H; clear H
   go_wp2_with (first | ((with_reducible refine Qo (N := 21) rfl ?_); refine Kd.R_lit (Kd.int .u8) _ 5 ?hg (N := 21) ?hd (xs := ([(wrap64 (48 + (wrap64 (-(Int.tmod aA 10))))) % 256] : List Int)) (inner := [.int .u8 ((wrap64 (48 + (wrap64 (-(Int.tmod aA 10))))) % 256)]) (ok := fun _ => True) (okp := fun _ => True) ?hr ?hp (fun _ hk => hk) trivial (Below.refl _ _) (Nat.le_refl _) (by simp) ?_; (case hd => rfl); (case hg => rfl); (case hr => first | (go_simp; done) | (go_simp; rfl)); (case hp => exact (J6.one (show Kd.M (Kd.int .u8) _ _ _ ((wrap64 (48 + (wrap64 (-(Int.tmod aA 10))))) % 256) [.int .u8 ((wrap64 (48 + (wrap64 (-(Int.tmod aA 10))))) % 256)] from rfl) (J6.none _ _))); intro bK w8 aN hb hg_ hnew_; clear hg_ hnew_; (first | rw [← aG.out] at aN | (simp only [Int.reduceToNat] at aN; rw [← aG.out] at aN)); have aQ := Qa.mk (Kd.R_lower aN (Ql zB)); replace HB := zX hb; clear hb aN; have aZ := Ku (P := Tryz.prog) Tryz.underlying22 Tryz.underlying5 Tryz.underlying9 (Kd.own_of_R aQ.out)))
   go_roundg k1
   case measure => have := aV.out; omega
   case rel => exact ⟨(wrap64 (Int.tdiv aA 10)), ((strOfNums aM) ++ aC), zF, zF, H', ⟨by have := aV.out; omega⟩, ⟨zB⟩⟩
  exact absurd H (by simp)
 obtain ⟨aT, aH, H⟩ := zs H
 replace H := Vd H
 rcases H with ⟨c11, bA, bB, H⟩ | ⟨c11, H⟩
 ·try have bC : (9223372036854775807 < (strOfNums aT).size + aC.size) = False := eq_false (Nat.not_lt.2 c11)
  have H' := Qa.mk H; clear H
  go_wp2_with (first | ((with_reducible refine Qo (N := 21) rfl ?_); refine Kd.R_lit (Kd.int .u8) _ 5 ?hg (N := 21) ?hd (xs := ([(wrap64 (48 + (Int.tmod aA 10))) % 256] : List Int)) (inner := [.int .u8 ((wrap64 (48 + (Int.tmod aA 10))) % 256)]) (ok := fun _ => True) (okp := fun _ => True) ?hr ?hp (fun _ hk => hk) trivial (Below.refl _ _) (Nat.le_refl _) (by simp) ?_; (case hd => rfl); (case hg => rfl); (case hr => first | (go_simp; done) | (go_simp; rfl)); (case hp => exact (J6.one (show Kd.M (Kd.int .u8) _ _ _ ((wrap64 (48 + (Int.tmod aA 10))) % 256) [.int .u8 ((wrap64 (48 + (Int.tmod aA 10))) % 256)] from rfl) (J6.none _ _))); intro bL bM aD hb hg_ hnew_; clear hg_ hnew_; (first | rw [← aH.out] at aD | (simp only [Int.reduceToNat] at aD; rw [← aH.out] at aD)); have aU := Qa.mk (Kd.R_lower aD (Ql zB)); replace HB := zX hb; clear hb aD; have bD := Ku (P := Tryz.prog) Tryz.underlying22 Tryz.underlying5 Tryz.underlying9 (Kd.own_of_R aU.out)))
  go_roundg k1
  case measure => have := aV.out; omega
  case rel => exact ⟨(wrap64 (Int.tdiv aA 10)), ((strOfNums aT) ++ aC), zF, zF, H', ⟨by have := aV.out; omega⟩, ⟨zB⟩⟩
 exact absurd H (by simp)
def Qx.l0 : Nat → List (S48) → List ByteArray → Int → Option (ByteArray)
 | 0, _, _, _ => none
 | k + 1, x0, x3, x4 => if x4 < (x0.length : Int) then (if 0 ≤ x4 then ((Q7.f k ((Qb x0 x4).f0)).bind fun aA => (if aA.size + 1 ≤ 9223372036854775807 then ((Q7.f k ((Qb x0 x4).f1)).bind fun aC => (if aA.size + 1 + aC.size ≤ 9223372036854775807 then (if x3.length < 8796093022208 then (Qx.l0 k x0 (x3 ++ [(aA ++ (⟨#[44]⟩ : ByteArray)) ++ aC]) (wrap64 (x4 + 1))) else (none)) else (none))) else (none))) else (none)) else ((Za.f k x3 (⟨#[32]⟩ : ByteArray)).bind fun aD => (some aD))
def Qx.f (k : Nat) (l0 : List (S48)) : Option (ByteArray) := (Qh.f k l0).bind fun aA => (if aA = true then (Qx.l0 k l0 (([] : List ByteArray)) 0) else (some (⟨#[]⟩ : ByteArray)))
def Qx.T7 : Bool × List (List Nat × List Nat) := (true, [([], []), ([], []), ([], []), ([1, 2], [1, 2]), ([3], [3]), ([4], [4]), ([5], [5]), ([6], [6]), ([], []), ([], []), ([8, 9], [8, 9]), ([10], [10]), ([11], [11]), ([12, 6], [12]), ([7, 13], [7, 13]), ([14], [14]), ([0, 15, 13], [0, 15]), ([16, 16, 0, 1, 2, 3, 4, 5, 6, 7, 8, 9, 10, 11, 12, 13, 14, 15, 16], [0, 16])])
def Qx.B7 : List Nat := [0, 0, 0, 6, 14, 30, 62, 126, 0, 0, 768, 1792, 3840, 8062, 16382, 32766, 65535, 131071]
theorem Qx.tab7 : Vj .any (opsOf Tryz.f48 7) = Qx.T7 := by kernel_rfl
theorem Qx.bits7 : Z5 Qx.T7.2 Qx.B7 = true := by kernel_rfl
set_option maxHeartbeats 8000000 in
set_option maxRecDepth 100000 in
theorem Qx.calls (k : Nat) (A0 : Option Addr) (c0 : Nat) (l0 : List (S48)) (r : ByteArray) (w : World) (hr0 : Kd.C k48 w A0 l0.length l0) (hc0 : l0.length ≤ c0) (h : Qx.f k l0 = some r) :
  Calls Tryz.prog 48 #[.slice A0 l0.length c0] w fun e w' => e = .returned (.string r) ∧ Below w.heap.size w w' := by
 have bL := Qa.mk hr0
 have bW := Qa.mk hc0
 clear hr0 hc0
 have HB := Qa.mk (Below.refl w.heap.size w)
 have H := h
 unfold Qx.f at H
 clear h
 obtain ⟨bM, A2, H⟩ := zO H
 by_cases c3 : bM = true
 ·subst c3
  replace H := (if_pos rfl).symm.trans H
  generalize aY : (([] : List ByteArray) : List ByteArray) = bN at H
  have aZ := Qa.mk aY.symm
  clear aY
  have H' := Qa.mk H; clear H
  go_enter Tryz.func48, Tryz.ntmps48
  go_wp2_with (first | ((with_reducible refine Qd (f := 46) rfl ?_); refine zD (some 6) Tryz.func46 #[.slice A0 l0.length c0] ((Qh.calls k _ _ l0 true _ ?aT ?aU A2.out).mono ?_); (case aT => exact zc bL.out); (case aU => exact bW.out); rintro e w4 ⟨rfl, hb⟩; refine ⟨_, rfl, ?_⟩; replace HB := zX hb; (try clear hb)) | ((with_reducible refine Qo (N := 8) rfl ?_); refine Kd.R_lit Kd.string _ 9 ?hg (N := 8) ?hd (xs := ([] : List ByteArray)) (inner := []) (ok := fun _ => True) (okp := fun _ => True) ?hr ?hp (fun _ hk => hk) trivial (Below.refl _ _) (Nat.le_refl _) (by simp) ?_; (case hd => rfl); (case hg => rfl); (case hr => first | (go_simp; done) | (go_simp; rfl)); (case hp => exact (J6.none _ _)); intro dC w5 bF hb hg_ hnew_; clear hg_ hnew_; (first | rw [← aZ.out] at bF | (simp only [Int.reduceToNat] at bF; rw [← aZ.out] at bF)); have bG := Qa.mk (Kd.R_lower bF (Ql zB)); replace HB := zX hb; clear hb bF))
  go_loopg [3, 4] k (fun kq v3 v4 w' => ∃ (aV : List ByteArray) (aH : Int), v4 = .int .i64 aH ∧ Qa (Qx.l0 kq l0 aV aH = some r) ∧ Qa (kq ≤ k) ∧ Qa (Kd.R Kd.string 9 w' w.heap.size (fun _ => True) v3 aV) ∧ Qa (Below w.heap.size w w'))
  case atStart => exact ⟨(bN), (0), zF, H', ⟨Nat.le_refl _⟩, ⟨zR bG.out⟩, ⟨zB⟩⟩
  case round =>
  clear H'
  try clear c3
  obtain ⟨aV, aH, rfl, HA, bX, aI, HB⟩ := hrel
  cases gk with
  | zero => exact absurd HA.out (by simp [Qx.l0])
  | succ k1 =>
  have H := HA.out
  clear HA
  simp only [Qx.l0] at H
  replace H := Xg H
  rcases H with ⟨bO, H⟩ | ⟨bO, H⟩
  ·replace H := J9 H
   rcases H with ⟨dD, H⟩ | ⟨c8, H⟩
   ·obtain ⟨aW, A9, H⟩ := zO H
    replace H := Vd H
    rcases H with ⟨c10, bY, bZ, H⟩ | ⟨c10, H⟩
    ·try have cB : (9223372036854775807 < aW.size + 1) = False := eq_false (Nat.not_lt.2 c10)
     obtain ⟨aX, dE, H⟩ := zO H
     replace H := Vd H
     rcases H with ⟨c12, cK, cO, H⟩ | ⟨c12, H⟩
     ·try have cZ : (9223372036854775807 < aW.size + 1 + aX.size) = False := eq_false (Nat.not_lt.2 c12)
      replace H := Z8 H
      rcases H with ⟨c13, H⟩ | ⟨c13, H⟩
      ·have bH := Qa.mk c13
       clear c13
       generalize bA : (aV ++ [(aW ++ (⟨#[44]⟩ : ByteArray)) ++ aX] : List ByteArray) = bP at H
       have bI := Qa.mk bA.symm
       clear bA
       have H' := Qa.mk H; clear H
       try go_wp2
       replace aI := Qa.mk (Kd.R_drew aI.out)
       replace HB := Qa.mk (Qp HB.out)
       have bB : 0 ≤ (aH : Int) := zA
       have bC : aH < (l0.length : Int) := zA
       obtain ⟨aQ, bQ, aJ, aK⟩ := Jj bL.out aH bB bC
       have aA := aK
       have aC := aJ
       cases bQ
       replace aJ := (HB.out.cell (World.block_lt_of_cell? w _ aJ)).trans aJ
       replace aK := (HB.out.cell (World.block_lt_of_cell? w _ aK)).trans aK
       replace bB := eq_true bB
       replace bC := eq_true bC
       have bD : 0 ≤ (aH : Int) := zA
       have bE : aH < (l0.length : Int) := zA
       obtain ⟨bJ, bR, aM, aN⟩ := Jj bL.out aH bD bE
       have aD := aN
       have aG := aM
       obtain rfl : aQ = bJ := (by injection bR)
       replace aM := (HB.out.cell (World.block_lt_of_cell? w _ aM)).trans aM
       replace aN := (HB.out.cell (World.block_lt_of_cell? w _ aN)).trans aN
       replace bD := eq_true bD
       replace bE := eq_true bE
       refine Zy (n := 18) (S := fun w' => w'.cell? (aQ.add ((aH).toNat * 2)) = some (.int .i64 ((Qb l0 aH).f0)) ∧ w'.cell? ⟨(aQ.add ((aH).toNat * 2)).block, (aQ.add ((aH).toNat * 2)).off + 1, none⟩ = some (.int .i64 ((Qb l0 aH).f1)) ∧ w'.cell? (aQ.add ((aH).toNat * 2)) = some (.int .i64 ((Qb l0 aH).f0)) ∧ w'.cell? ⟨(aQ.add ((aH).toNat * 2)).block, (aQ.add ((aH).toNat * 2)).off + 1, none⟩ = some (.int .i64 ((Qb l0 aH).f1))) (ds := []) #[false, false, false, false, false, false, false, false, false, false, false, false, false, false, false, false, false, false] (by kernel_rfl) rfl rfl ⟨((HB.out.cell (World.block_lt_of_cell? w _ aC)).trans aC), ((HB.out.cell (World.block_lt_of_cell? w _ aA)).trans aA), ((HB.out.cell (World.block_lt_of_cell? w _ aG)).trans aG), ((HB.out.cell (World.block_lt_of_cell? w _ aD)).trans aD)⟩ (fun hHeld => ?_); refine Jr Qx.tab7 Qx.bits7 (fun HT_ HW_ => ?_)
       generalize wr.drew = dH at aI HB aJ aK aM aN hHeld ⊢
       refine zP 0 (some 15) rfl rfl ?_
       refine zP 1 (some 16) rfl rfl ?_
       refine zP 2 (some 17) rfl rfl ?_
       refine zP 3 (some 18) rfl rfl ?_
       refine zP 4 (some 19) rfl rfl ?_
       refine zP 8 (some 23) rfl rfl ?_
       refine zP 9 (some 24) rfl rfl ?_
       refine zP 10 (some 25) rfl rfl ?_
       refine zP 11 (some 26) rfl rfl ?_
       refine zY4 5 (some 20) rfl rfl hHeld ?_
       refine zY4 12 (some 27) rfl rfl hHeld ?_
       refine zU 6 (some 21) rfl rfl (fun K hK => ?_)
       refine Xq Tryz.func80 (by kernel_rfl) rfl #[.int .i64 ((Qb l0 aH).f0)] (by rfl) rfl rfl zM ?_
       with_reducible refine (Q7.calls k1 ((Qb l0 aH).f0) aW _ A9.out).mono ?_
       rintro e dI ⟨rfl, hb⟩
       refine ⟨_, rfl, ?_⟩
       replace aI := zW aI.out hb
       replace HB := zX hb
       (try clear hb)
       refine hK.out _ _ ⟨((HB.out.cell (World.block_lt_of_cell? w _ aC)).trans aC), ((HB.out.cell (World.block_lt_of_cell? w _ aA)).trans aA), ((HB.out.cell (World.block_lt_of_cell? w _ aG)).trans aG), ((HB.out.cell (World.block_lt_of_cell? w _ aD)).trans aD)⟩ (fun hHeld => ?_)
       clear hK K
       refine zN ?_
       refine zP 7 (some 22) rfl rfl ?_
       refine zU 13 (some 28) rfl rfl (fun K hK => ?_)
       refine Xq Tryz.func80 (by kernel_rfl) rfl #[.int .i64 ((Qb l0 aH).f1)] (by rfl) rfl rfl zM ?_
       with_reducible refine (Q7.calls k1 ((Qb l0 aH).f1) aX _ dE.out).mono ?_
       rintro e w16 ⟨rfl, hb⟩
       refine ⟨_, rfl, ?_⟩
       replace aI := zW aI.out hb
       replace HB := zX hb
       (try clear hb)
       refine hK.out _ _ ⟨((HB.out.cell (World.block_lt_of_cell? w _ aC)).trans aC), ((HB.out.cell (World.block_lt_of_cell? w _ aA)).trans aA), ((HB.out.cell (World.block_lt_of_cell? w _ aG)).trans aG), ((HB.out.cell (World.block_lt_of_cell? w _ aD)).trans aD)⟩ (fun hHeld => ?_)
       clear hK K
       refine zN ?_
       refine zP 14 (some 29) rfl rfl ?_
       refine zU 15 (some 30) rfl rfl (fun K hK => ?_)
       refine jCr (w1 := ?_) (v := ?_) (by rfl) rfl ?_ ?_
       rotate_left 2
       ·go_simp
        constructor
        ·rfl
        rfl
       refine hK.out _ _ ⟨(World.cell?_alloc_lt _ _ _ (World.block_lt_of_cell? _ _ (((HB.out.cell (World.block_lt_of_cell? w _ aC)).trans aC)))).trans (((HB.out.cell (World.block_lt_of_cell? w _ aC)).trans aC)), (World.cell?_alloc_lt _ _ _ (World.block_lt_of_cell? _ _ (((HB.out.cell (World.block_lt_of_cell? w _ aA)).trans aA)))).trans (((HB.out.cell (World.block_lt_of_cell? w _ aA)).trans aA)), (World.cell?_alloc_lt _ _ _ (World.block_lt_of_cell? _ _ (((HB.out.cell (World.block_lt_of_cell? w _ aG)).trans aG)))).trans (((HB.out.cell (World.block_lt_of_cell? w _ aG)).trans aG)), (World.cell?_alloc_lt _ _ _ (World.block_lt_of_cell? _ _ (((HB.out.cell (World.block_lt_of_cell? w _ aD)).trans aD)))).trans (((HB.out.cell (World.block_lt_of_cell? w _ aD)).trans aD))⟩ (fun hHeld => ?_)
       clear hK K
       refine zN ?_
       refine zU 16 (some 31) rfl rfl (fun K hK => ?_)
       refine Kd.R_append_step Kd.string (w0 := w) w.heap.size (by rfl) (.tmp 15) (.tmp 30) 93 9 (.string ⟨#[]⟩) 16 rfl Tryz.underlying93 jDi rfl (by decide) (by omega) u3 aV ((aW ++ (⟨#[44]⟩ : ByteArray)) ++ aX) [.string ((aW ++ (⟨#[44]⟩ : ByteArray)) ++ aX)] (fun _ => True) (fun _ => False) rfl rfl ?aP (fun _ hk => hk.elim) ?aF ?aO ?aB ?aS ?aL ?_
       (case aP => exact rfl)
       (case aB => exact zB)
       (case aF => exact (fun _ _ => trivial))
       (case aO => exact (zR aI.out))
       (case aS => exact (Ql zB))
       (case aL => have := bH.out; omega)
       intro dF dJ ho hb hg hat
       rw [← bI.out] at ho
       have dA := Qa.mk (hb)
       have dB := Qa.mk (ho)
       clear HB
       clear aI
       have HB := dA
       have bK := dB
       clear dA dB
       clear ho hb hg hat
       refine hK.out _ _ ⟨((HB.out.cell (World.block_lt_of_cell? w _ aC)).trans aC), ((HB.out.cell (World.block_lt_of_cell? w _ aA)).trans aA), ((HB.out.cell (World.block_lt_of_cell? w _ aG)).trans aG), ((HB.out.cell (World.block_lt_of_cell? w _ aD)).trans aD)⟩ (fun hHeld => ?_)
       clear hK K
       refine zN ?_
       refine zP 17 (some 3) rfl rfl ?_
       refine Ya (Zj HT_.out (by kernel_rfl)) ?_
       try go_wp2
       go_roundg k1
       case measure => have := bX.out; omega
       case rel => exact ⟨(bP), (wrap64 (aH + 1)), zF, H', ⟨by have := bX.out; omega⟩, ⟨zR bK.out⟩, ⟨zB⟩⟩
      exact absurd H (by simp)
     exact absurd H (by simp)
    exact absurd H (by simp)
   exact absurd H (by simp)
  obtain ⟨bS, dG, H⟩ := zO H
  obtain rfl := Option.some.inj H
  obtain ⟨bT, bU, bV⟩ := Kd.R_slice aI.out
  subst bV
  go_wp2_with (first | ((with_reducible refine Qd (f := 100) rfl ?_); refine zD (some 33) Tryz.func100 #[.slice bT aV.length bU, .string (⟨#[32]⟩ : ByteArray)] ((Za.calls k1 _ _ aV (⟨#[32]⟩ : ByteArray) bS _ ?aT ?aU dG.out).mono ?_); (case aT => exact zc ((Kd.R_reads' aI.out).2.2)); (case aU => exact (Kd.R_reads' aI.out).2.1); rintro e dK ⟨rfl, hb⟩; refine ⟨_, rfl, ?_⟩; replace aI := zW aI.out hb; replace HB := zX hb; (try clear hb)))
  go_ret
  exact ⟨zE, zB⟩
 replace c3 := Bool.eq_false_iff.mpr c3
 subst c3
 replace H := (if_neg zFf).symm.trans H
 obtain rfl := Option.some.inj H
 go_enter Tryz.func48, Tryz.ntmps48
 go_wp2_with (first | ((with_reducible refine Qd (f := 46) rfl ?_); refine zD (some 6) Tryz.func46 #[.slice A0 l0.length c0] ((Qh.calls k _ _ l0 false _ ?aT ?aU A2.out).mono ?_); (case aT => exact zc bL.out); (case aU => exact bW.out); rintro e dL ⟨rfl, hb⟩; refine ⟨_, rfl, ?_⟩; replace HB := zX hb; (try clear hb)))
 go_ret
 exact ⟨zE, zB⟩
def Xz.f (aC : List Int) (aD : Int) (aG : Int) (l1 : List ByteArray) : Option (ByteArray × Int × Int) := (Q3.f aC aD aG (l1.length : Int)).bind fun aA => (if 0 ≤ aA.1 then (if aA.1 < (l1.length : Int) then (some (Yr ByteArray.empty l1 aA.1, aA.2.1, aA.2.2)) else (none)) else (none))
theorem jGg {p q : Prop} (g : p) (h : p → q := by intro zg_; repeat (first | (with_reducible first | exact zg_ | apply Qe.alloc | apply Qe.drewN | apply Qe.drew | apply Qe.set_1 | apply Qe.set_2) | exact zg_)) : q := h g
theorem jH8 {p q p0 : Prop} (g : p) (g0 : p0) (h : p → p0 → q := by intro zg_ aA; repeat (first | (with_reducible first | exact zg_ | apply Qw | apply Qs | apply Qp | refine Q5 ?_ aA) | exact zg_)) : q := h g g0
theorem jGr {p q : Prop} (g : p) (h : p → q := by intro zg_; repeat (first | (with_reducible first | exact zg_ | apply Qq.set_ | apply Xl | apply Xa | apply Xm) | exact zg_)) : q := h g
set_option maxHeartbeats 8000000 in
set_option maxRecDepth 100000 in
theorem Xz.calls (g : Nat) (aC : List Int) (aG : Int) (aH : Int) (A1 : Option Addr) (c1 : Nat) (l1 : List ByteArray) (r1 : ByteArray) (r2 : Int) (r3 : Int) (w0 w : World) (hI : Qe w0 w g aC aG aH) (hB : Below w0.heap.size w0 w) (hr1 : Kd.C Kd.string w A1 l1.length l1) (hc1 : l1.length ≤ c1) (hf1 : ∀ ad, A1 = some ad → 0 < l1.length → ad.block ≠ g) (h : Xz.f aC aG aH l1 = some (r1, r2, r3)) :
  Calls Tryz.prog 101 #[.pointer (some ⟨g, 0, none⟩), .slice A1 l1.length c1] w fun e w' => e = .returned (.string r1) ∧ Qe w0 w' g aC r2 r3 ∧ Below w0.heap.size w0 w' ∧ Qq w w' g none := by
 have HR1 := Qa.mk hr1
 have aW := Qa.mk hc1
 clear hr1 hc1
 have HI0 := Qa.mk hI
 have HK := Qa.mk (Qq.refl w g none)
 have HL := Qa.mk hB.size
 clear hI
 have HW0 := Qa.mk hB.size
 have HB := Qa.mk hB
 clear hB
 have H := h
 unfold Xz.f at H
 clear h
 obtain ⟨⟨aD, aQ, aT⟩, A3, H⟩ := zO H
 dsimp only at H
 replace H := J9 H
 rcases H with ⟨aU, H⟩ | ⟨c4, H⟩
 ·replace H := J9 H
  rcases H with ⟨aV, H⟩ | ⟨c5, H⟩
  ·simp only [Option.some.injEq, Prod.mk.injEq] at H
   obtain ⟨rfl, rfl, rfl⟩ := H
   go_enter Tryz.func101, Tryz.ntmps101
   go_wp2_with (first | ((with_reducible refine Qd (f := 51) rfl ?_); refine zD (some 9) Tryz.func51 _ ((Q3.calls g aC aG aH (l1.length : Int) aD aQ aT w0 _ ?aK ?aM A3.out).mono ?_); (case aK => exact (jGg HI0.out)); (case aM => exact (jH8 HB.out (Qe.ge HI0.out))); rintro e w6 ⟨rfl, hi, hb, hk⟩; refine ⟨_, rfl, ?_⟩; replace HK := Qa.mk (Qq.trans (jGr HK.out) hk (.inl rfl)); replace HI0 := Qa.mk (hi); replace HB := Qa.mk (hb); (try clear hb); (try clear hk); (try clear hi); have aI : 0 ≤ (aD : Int) := zA; have aJ : aD < (l1.length : Int) := zA; obtain ⟨aN, e170, aA⟩ := Kd.at_string HR1.out aD aI aJ; cases e170; replace aA := U5 HK.out aA (by first | (rw [add_block]; exact hf1 _ rfl (by omega)) | exact hf1 _ rfl (by omega) | exact hf1 aN rfl (by omega)); replace aI := eq_true aI; replace aJ := eq_true aJ))
   go_ret
   exact ⟨zE, (jGg HI0.out), zG (Qe.ge HI0.out), (jGr HK.out)⟩
  exact absurd H (by simp)
 exact absurd H (by simp)
def Jq.f (aG : List Int) (aH : Int) (aI : Int) (a1 : ByteArray) (l2 : List ByteArray) : Option (ByteArray × Int × Int) := (Q3.f aG aH aI (wrap64 ((a1.size : Int) + 1))).bind fun aA => ((Q3.f aG aA.2.1 aA.2.2 6).bind fun aC => (if aC.1 = 0 then (if 0 ≤ aA.1 then (if aA.1 ≤ (a1.size : Int) then ((Xz.f aG aC.2.1 aC.2.2 l2).bind fun aD => (if (a1.extract 0 (aA.1 : Int).toNat).size + aD.1.size ≤ 9223372036854775807 then (if (a1.extract 0 (aA.1 : Int).toNat).size + aD.1.size + (a1.extract (aA.1 : Int).toNat a1.size).size ≤ 9223372036854775807 then (some (((a1.extract 0 (aA.1 : Int).toNat) ++ aD.1) ++ (a1.extract (aA.1 : Int).toNat a1.size), aD.2.1, aD.2.2)) else (none)) else (none))) else (none)) else (none)) else (if aC.1 = 1 then (if 0 ≤ aA.1 then (if aA.1 ≤ (a1.size : Int) then (some (a1.extract 0 (aA.1 : Int).toNat, aC.2.1, aC.2.2)) else (none)) else (none)) else (some (a1, aC.2.1, aC.2.2)))))
def Jq.T4 : Bool × List (List Nat × List Nat) := (true, [([], []), ([], []), ([0, 1], [0, 1]), ([], []), ([], []), ([3, 4], [3, 4]), ([2, 5], [2, 5]), ([], []), ([], []), ([7, 8], [7, 8]), ([6, 9], [6, 9]), ([10, 5, 0, 1, 2, 3, 4, 5, 6, 7, 8, 9, 10], [10])])
def Jq.B4 : List Nat := [0, 0, 3, 0, 0, 24, 63, 0, 0, 384, 1023, 2047]
theorem Jq.tab4 : Vj .any (opsOf Tryz.f72 4) = Jq.T4 := by kernel_rfl
theorem Jq.bits4 : Z5 Jq.T4.2 Jq.B4 = true := by kernel_rfl
theorem V4 {p q : Prop} (g : p) (h : p → q := by intro zg_; repeat (first | (with_reducible first | exact zg_ | apply Qe.alloc | apply Qe.drewN | apply Qe.drew | apply Qe.set_1 | apply Qe.set_2) | exact zg_)) : q := h g
theorem U3 {p q p0 : Prop} (g : p) (g0 : p0) (h : p → p0 → q := by intro zg_ aA; repeat (first | (with_reducible first | exact zg_ | apply Qw | apply Qs | apply Qp | refine Q5 ?_ aA) | exact zg_)) : q := h g g0
theorem Vk {p q : Prop} (g : p) (h : p → q := by intro zg_; repeat (first | (with_reducible first | exact zg_ | apply Qq.set_ | apply Xl | apply Xa | apply Xm) | exact zg_)) : q := h g
set_option maxHeartbeats 8000000 in
set_option maxRecDepth 100000 in
theorem Jq.calls (g : Nat) (aG : List Int) (aJ : Int) (aK : Int) (a1 : ByteArray) (A2 : Option Addr) (c2 : Nat) (l2 : List ByteArray) (r1 : ByteArray) (r2 : Int) (r3 : Int) (w0 w : World) (hI : Qe w0 w g aG aJ aK) (hB : Below w0.heap.size w0 w) (hr2 : Kd.C Kd.string w A2 l2.length l2) (hc2 : l2.length ≤ c2) (hf2 : ∀ ad, A2 = some ad → 0 < l2.length → ad.block ≠ g) (h : Jq.f aG aJ aK a1 l2 = some (r1, r2, r3)) :
  Calls Tryz.prog 72 #[.pointer (some ⟨g, 0, none⟩), .string a1, .slice A2 l2.length c2] w fun e w' => e = .returned (.string r1) ∧ Qe w0 w' g aG r2 r3 ∧ Below w0.heap.size w0 w' ∧ Qq w w' g none := by
 have HR2 := Qa.mk hr2
 have bS := Qa.mk hc2
 clear hr2 hc2
 have HI0 := Qa.mk hI
 have HK := Qa.mk (Qq.refl w g none)
 have HL := Qa.mk hB.size
 clear hI
 have HW0 := Qa.mk hB.size
 have HB := Qa.mk hB
 clear hB
 have H := h
 unfold Jq.f at H
 clear h
 obtain ⟨⟨aD, aH, aI⟩, A4, H⟩ := zO H
 dsimp only at H
 obtain ⟨⟨aT, aN, aQ⟩, A5, H⟩ := zO H
 dsimp only at H
 replace H := Zb H
 rcases H with ⟨aZ, bA, H⟩ | ⟨c6, aZ, bA, H⟩
 ·replace H := Yk H
  rcases H with ⟨bT, bU, H⟩ | ⟨c7, H⟩
  ·replace H := Yk H
   rcases H with ⟨bV, bW, H⟩ | ⟨c8, H⟩
   ·obtain ⟨⟨aM, bB, bC⟩, A9, H⟩ := zO H
    dsimp only at H
    replace H := Vd H
    rcases H with ⟨c10, bE, bF, H⟩ | ⟨c10, H⟩
    ·try have bG : (9223372036854775807 < (a1.extract 0 (aD : Int).toNat).size + aM.size) = False := eq_false (Nat.not_lt.2 c10)
     have bH : (9223372036854775807 < aD.toNat + aM.size) = False := by
      have q_ : (aD ≤ (a1.size : Int)) = True := by assumption
      have bX := of_eq_true q_
      have bD := c10
      simp only [ByteArray.size_extract] at bD
      exact eq_false (by omega)
     have bI := eq_true (zA : 0 ≤ aD)
     have bJ := eq_true (zA : aD ≤ (a1.size : Int))
     replace H := Vd H
     rcases H with ⟨c13, bK, bL, H⟩ | ⟨c13, H⟩
     ·try have bM : (9223372036854775807 < (a1.extract 0 (aD : Int).toNat).size + aM.size + (a1.extract (aD : Int).toNat a1.size).size) = False := eq_false (Nat.not_lt.2 c13)
      have bN : (9223372036854775807 < aD.toNat + aM.size + (a1.size - aD.toNat)) = False := by
       have q_ : (aD ≤ (a1.size : Int)) = True := by assumption
       have bX := of_eq_true q_
       have bD := c13
       simp only [ByteArray.size_extract] at bD
       exact eq_false (by omega)
      simp only [Option.some.injEq, Prod.mk.injEq] at H
      obtain ⟨rfl, rfl, rfl⟩ := H
      go_enter Tryz.func72, Tryz.ntmps72
      try go_wp2_with (first | ((with_reducible refine Qd (f := 51) rfl ?_); refine zD (some 12) Tryz.func51 _ ((Q3.calls g aG aJ aK (wrap64 ((a1.size : Int) + 1)) aD aH aI w0 _ ?aA ?aC A4.out).mono ?_); (case aA => exact (V4 HI0.out)); (case aC => exact (U3 HB.out (Qe.ge HI0.out))); rintro e bZ ⟨rfl, hi, hb, hk⟩; refine ⟨_, rfl, ?_⟩; replace HK := Qa.mk (Qq.trans (Vk HK.out) hk (.inl rfl)); replace HI0 := Qa.mk (hi); replace HB := Qa.mk (hb); (try clear hb); (try clear hk); (try clear hi)) | ((with_reducible refine Qd (f := 51) rfl ?_); refine zD (some 14) Tryz.func51 _ ((Q3.calls g aG aH aI 6 aT aN aQ w0 _ ?aA ?aC A5.out).mono ?_); (case aA => exact (V4 HI0.out)); (case aC => exact (U3 HB.out (Qe.ge HI0.out))); rintro e bY ⟨rfl, hi, hb, hk⟩; refine ⟨_, rfl, ?_⟩; replace HK := Qa.mk (Qq.trans (Vk HK.out) hk (.inl rfl)); replace HI0 := Qa.mk (hi); replace HB := Qa.mk (hb); (try clear hb); (try clear hk); (try clear hi)))
      replace HI0 := Qa.mk (Qe.drew HI0.out)
      replace HK := Qa.mk (Xa HK.out)
      replace HB := Qa.mk (Qp HB.out)
      refine Zy (n := 12) (S := fun w' => True) (ds := []) #[false, false, false, false, false, false, false, false, false, false, false, false] (by kernel_rfl) rfl rfl trivial (fun hHeld => ?_); refine Jr Jq.tab4 Jq.bits4 (fun HT_ HW_ => ?_)
      generalize bY.drew = w16 at HI0 HK HB hHeld ⊢
      refine zP 0 (some 17) rfl rfl ?_
      refine zP 1 (some 18) rfl rfl ?_
      refine zP 2 (some 19) rfl rfl ?_
      refine zP 3 (some 20) rfl rfl ?_
      refine zP 4 (some 21) rfl rfl ?_
      refine zP 7 (some 24) rfl rfl ?_
      refine zP 8 (some 25) rfl rfl ?_
      refine zP 9 (some 26) rfl rfl ?_
      refine zU 5 (some 22) rfl rfl (fun K hK => ?_)
      refine Xq Tryz.func101 (by kernel_rfl) rfl #[.pointer (some ⟨g, 0, none⟩), .slice A2 l2.length c2] (by rfl) rfl rfl zM ?_
      with_reducible refine (Xz.calls g aG aN aQ _ _ l2 aM bB bC w0 _ ?aA ?aC ?aU ?aV ?aW A9.out).mono ?_
      (case aA => exact (V4 HI0.out))
      (case aC => exact (U3 HB.out (Qe.ge HI0.out)))
      (case aU => exact Kd.C_keep (⟨#[]⟩ : ByteArray) HR2.out (Vk HK.out) hf2)
      (case aV => exact bS.out)
      (case aW => exact hf2)
      rintro e cB ⟨rfl, hi, hb, hk⟩
      refine ⟨_, rfl, ?_⟩
      replace HK := Qa.mk (Qq.trans (Vk HK.out) hk (.inl rfl))
      replace HI0 := Qa.mk (hi)
      replace HB := Qa.mk (hb)
      (try clear hb)
      (try clear hk)
      (try clear hi)
      refine hK.out _ _ trivial (fun hHeld => ?_)
      clear hK K
      refine zN ?_
      refine zP 6 (some 23) rfl rfl ?_
      refine zP 10 (some 27) rfl rfl ?_
      refine zP 11 (some 6) rfl rfl ?_
      refine Ya (Zj HT_.out (by kernel_rfl)) ?_
      try go_wp2
      go_ret
      exact ⟨zE, (V4 HI0.out), zG (Qe.ge HI0.out), (Vk HK.out)⟩
     exact absurd H (by simp)
    exact absurd H (by simp)
   exact absurd H (by simp)
  exact absurd H (by simp)
 replace H := Zb H
 rcases H with ⟨aX, aY, H⟩ | ⟨c18, aX, aY, H⟩
 ·replace H := Yk H
  rcases H with ⟨bO, bP, H⟩ | ⟨c19, H⟩
  ·replace H := Yk H
   rcases H with ⟨bQ, bR, H⟩ | ⟨c20, H⟩
   ·simp only [Option.some.injEq, Prod.mk.injEq] at H
    obtain ⟨rfl, rfl, rfl⟩ := H
    go_enter Tryz.func72, Tryz.ntmps72
    go_wp2_with (first | ((with_reducible refine Qd (f := 51) rfl ?_); refine zD (some 12) Tryz.func51 _ ((Q3.calls g aG aJ aK (wrap64 ((a1.size : Int) + 1)) aD aH aI w0 _ ?aA ?aC A4.out).mono ?_); (case aA => exact (V4 HI0.out)); (case aC => exact (U3 HB.out (Qe.ge HI0.out))); rintro e cK ⟨rfl, hi, hb, hk⟩; refine ⟨_, rfl, ?_⟩; replace HK := Qa.mk (Qq.trans (Vk HK.out) hk (.inl rfl)); replace HI0 := Qa.mk (hi); replace HB := Qa.mk (hb); (try clear hb); (try clear hk); (try clear hi)) | ((with_reducible refine Qd (f := 51) rfl ?_); refine zD (some 14) Tryz.func51 _ ((Q3.calls g aG aH aI 6 aT aN aQ w0 _ ?aA ?aC A5.out).mono ?_); (case aA => exact (V4 HI0.out)); (case aC => exact (U3 HB.out (Qe.ge HI0.out))); rintro e cO ⟨rfl, hi, hb, hk⟩; refine ⟨_, rfl, ?_⟩; replace HK := Qa.mk (Qq.trans (Vk HK.out) hk (.inl rfl)); replace HI0 := Qa.mk (hi); replace HB := Qa.mk (hb); (try clear hb); (try clear hk); (try clear hi)))
    go_ret
    exact ⟨zE, (V4 HI0.out), zG (Qe.ge HI0.out), (Vk HK.out)⟩
   exact absurd H (by simp)
  exact absurd H (by simp)
 simp only [Option.some.injEq, Prod.mk.injEq] at H
 obtain ⟨rfl, rfl, rfl⟩ := H
 go_enter Tryz.func72, Tryz.ntmps72
 go_wp2_with (first | ((with_reducible refine Qd (f := 51) rfl ?_); refine zD (some 12) Tryz.func51 _ ((Q3.calls g aG aJ aK (wrap64 ((a1.size : Int) + 1)) aD aH aI w0 _ ?aA ?aC A4.out).mono ?_); (case aA => exact (V4 HI0.out)); (case aC => exact (U3 HB.out (Qe.ge HI0.out))); rintro e cZ ⟨rfl, hi, hb, hk⟩; refine ⟨_, rfl, ?_⟩; replace HK := Qa.mk (Qq.trans (Vk HK.out) hk (.inl rfl)); replace HI0 := Qa.mk (hi); replace HB := Qa.mk (hb); (try clear hb); (try clear hk); (try clear hi)) | ((with_reducible refine Qd (f := 51) rfl ?_); refine zD (some 14) Tryz.func51 _ ((Q3.calls g aG aH aI 6 aT aN aQ w0 _ ?aA ?aC A5.out).mono ?_); (case aA => exact (V4 HI0.out)); (case aC => exact (U3 HB.out (Qe.ge HI0.out))); rintro e dA ⟨rfl, hi, hb, hk⟩; refine ⟨_, rfl, ?_⟩; replace HK := Qa.mk (Qq.trans (Vk HK.out) hk (.inl rfl)); replace HI0 := Qa.mk (hi); replace HB := Qa.mk (hb); (try clear hb); (try clear hk); (try clear hi)))
 go_ret
 exact ⟨zE, (V4 HI0.out), zG (Qe.ge HI0.out), (Vk HK.out)⟩
def Jv.f (k : Nat) (l0 : List Int) : Option (ByteArray) := (Jm.f k l0).bind fun aA => ((Qj.f k aA.1 aA.2.1 aA.2.2).bind fun aC => ((Qx.f k aC.1).bind fun aG => ((Jq.f aA.1 aC.2.1 aC.2.2 aG (([(⟨#[32]⟩ : ByteArray), (⟨#[44]⟩ : ByteArray), (⟨#[49]⟩ : ByteArray), (⟨#[45]⟩ : ByteArray), (⟨#[57]⟩ : ByteArray), (⟨#[48, 44, 48]⟩ : ByteArray)] : List ByteArray))).bind fun aD => (some aD.1))))
theorem jG8 {p q : Prop} (g : p) (h : p → q := by intro zg_; repeat (first | (with_reducible first | exact zg_ | apply Qw | apply Qs | apply Qp) | exact zg_)) : q := h g
theorem K5 {p q : Prop} (g : p) (h : p → q := by intro zg_; repeat (first | (with_reducible first | exact zg_ | apply Qe.alloc | apply Qe.drewN | apply Qe.drew | apply Qe.set_1 | apply Qe.set_2) | exact zg_)) : q := h g
theorem jEw {p q p0 : Prop} (g : p) (g0 : p0) (h : p → p0 → q := by intro zg_ aA; repeat (first | (with_reducible first | exact zg_ | apply Qw | apply Qs | apply Qp | refine Q5 ?_ aA) | exact zg_)) : q := h g g0
set_option maxHeartbeats 8000000 in
set_option maxRecDepth 100000 in
theorem Jv.calls (k : Nat) (A0 : Option Addr) (c0 : Nat) (l0 : List Int) (r : ByteArray) (w : World) (hr0 : Kd.C (Kd.int .u8) w A0 l0.length l0) (hc0 : l0.length ≤ c0) (h : Jv.f k l0 = some r) :
  Calls Tryz.prog 31 #[.slice A0 l0.length c0] w fun e w' => e = .returned (.string r) ∧ Below w.heap.size w w' := by
 have bM := Qa.mk hr0
 have bN := Qa.mk hc0
 clear hr0 hc0
 have HB := Qa.mk (Below.refl w.heap.size w)
 have H := h
 unfold Jv.f at H
 clear h
 obtain ⟨⟨aI, aX, aY⟩, A2, H⟩ := zO H
 dsimp only at H
 obtain ⟨⟨aV, aN, aQ⟩, A3, H⟩ := zO H
 dsimp only at H
 obtain ⟨aW, A4, H⟩ := zO H
 generalize aT : (([(⟨#[32]⟩ : ByteArray), (⟨#[44]⟩ : ByteArray), (⟨#[49]⟩ : ByteArray), (⟨#[45]⟩ : ByteArray), (⟨#[57]⟩ : ByteArray), (⟨#[48, 44, 48]⟩ : ByteArray)] : List ByteArray) : List ByteArray) = aZ at H
 have aU := Qa.mk aT.symm
 clear aT
 obtain ⟨⟨bA, bG, bH⟩, A5, H⟩ := zO H
 replace H : (some bA) = some r := H
 obtain rfl := Option.some.inj H
 go_enter Tryz.func31, Tryz.ntmps31
 go_wp2_with (first | ((with_reducible refine Qd (f := 49) rfl ?_); refine zD (some 5) Tryz.func49 #[.slice A0 l0.length c0] ((Jm.calls k _ _ l0 aI aX aY w _ ?aD ?aG ?aJ A2.out).mono ?_); (case aD => exact (jG8 HB.out)); (case aG => exact bM.out); (case aJ => exact bN.out); rintro e w6 ⟨aK, rfl, hi, hb, hb2⟩; refine ⟨_, rfl, ?_⟩; have aA := Qa.mk (hi); replace HB := Qa.mk (hb); (try clear hb); (try clear hb2); (try clear hi)) | ((with_reducible refine Qd (f := 85) rfl ?_); refine zD (some 8) Tryz.func85 _ ((Qj.calls k aK aI aX aY aV aN aQ w _ ?aD ?aG A3.out).mono ?_); (case aD => exact (K5 aA.out)); (case aG => exact (jEw HB.out (Qe.ge aA.out))); rintro e w7 ⟨bO, rfl, ho0, hi, hb, hk⟩; refine ⟨_, rfl, ?_⟩; have aC := Qa.mk (Kd.R_lower ho0 (Ql (zG (Qe.ge aA.out)))); replace aA := Qa.mk (hi); replace HB := Qa.mk (hb); (try clear hb); (try clear hk); (try clear hi); (try clear ho0); obtain ⟨bP, bQ, bR⟩ := Kd.R_slice aC.out; subst bR) | ((with_reducible refine Qd (f := 48) rfl ?_); refine zD (some 9) Tryz.func48 #[.slice bP aV.length bQ] ((Qx.calls k _ _ aV aW _ ?aD ?aG A4.out).mono ?_); (case aD => exact zc ((Kd.R_reads' aC.out).2.2)); (case aG => exact (Kd.R_reads' aC.out).2.1); rintro e w9 ⟨rfl, hb⟩; refine ⟨_, rfl, ?_⟩; have bB := zW aC.out hb; have bC := Qa.mk (Qe.below (K5 aA.out) hb); have bD := Qa.mk (Qk (zG (Qe.ge aA.out)) hb); clear aC; clear aA; clear HB; have aC := bB; have aA := bC; have HB := bD; clear bB bC bD; (try clear hb)) | ((with_reducible refine Qo (N := 10) rfl ?_); refine Kd.R_lit Kd.string _ 9 ?hg (N := 10) ?hd (xs := ([(⟨#[32]⟩ : ByteArray), (⟨#[44]⟩ : ByteArray), (⟨#[49]⟩ : ByteArray), (⟨#[45]⟩ : ByteArray), (⟨#[57]⟩ : ByteArray), (⟨#[48, 44, 48]⟩ : ByteArray)] : List ByteArray)) (inner := [.string (⟨#[32]⟩ : ByteArray), .string (⟨#[44]⟩ : ByteArray), .string (⟨#[49]⟩ : ByteArray), .string (⟨#[45]⟩ : ByteArray), .string (⟨#[57]⟩ : ByteArray), .string (⟨#[48, 44, 48]⟩ : ByteArray)]) (ok := fun _ => True) (okp := fun _ => True) ?hr ?hp (fun _ hk => hk) trivial (Below.refl _ _) (Nat.le_refl _) (by simp) ?_; (case hd => rfl); (case hg => rfl); (case hr => first | (go_simp; done) | (go_simp; rfl)); (case hp => exact (J6.one (show Kd.M Kd.string _ _ _ (⟨#[32]⟩ : ByteArray) [.string (⟨#[32]⟩ : ByteArray)] from rfl) (J6.one (show Kd.M Kd.string _ _ _ (⟨#[44]⟩ : ByteArray) [.string (⟨#[44]⟩ : ByteArray)] from rfl) (J6.one (show Kd.M Kd.string _ _ _ (⟨#[49]⟩ : ByteArray) [.string (⟨#[49]⟩ : ByteArray)] from rfl) (J6.one (show Kd.M Kd.string _ _ _ (⟨#[45]⟩ : ByteArray) [.string (⟨#[45]⟩ : ByteArray)] from rfl) (J6.one (show Kd.M Kd.string _ _ _ (⟨#[57]⟩ : ByteArray) [.string (⟨#[57]⟩ : ByteArray)] from rfl) (J6.one (show Kd.M Kd.string _ _ _ (⟨#[48, 44, 48]⟩ : ByteArray) [.string (⟨#[48, 44, 48]⟩ : ByteArray)] from rfl) (J6.none _ _)))))))); intro bS bT aM hb hg_ hnew_; clear hg_ hnew_; (first | rw [← aU.out] at aM | (simp only [Int.reduceToNat] at aM; rw [← aU.out] at aM)); have bB := zW aC.out hb; have bC := Qa.mk (Kd.R_lower aM (Ql (zG (Qe.ge aA.out)))); have bD := Qa.mk (Qe.below (K5 aA.out) hb); have bL := Qa.mk (Qk (zG (Qe.ge aA.out)) hb); clear aC; clear aA; clear HB; have aC := bB; have aH := bC; have aA := bD; have HB := bL; clear bB bC bD bL; clear hb aM; obtain ⟨bI, bJ, bK⟩ := Kd.R_slice aH.out; subst bK) | ((with_reducible refine Qd (f := 72) rfl ?_); refine zD (some 11) Tryz.func72 #[.pointer (some ⟨aK, 0, none⟩), .string aW, .slice bI aZ.length bJ] ((Jq.calls aK aI aN aQ aW _ _ aZ bA bG bH w _ ?aD ?aG ?aJ ?bE ?bF A5.out).mono ?_); (case aD => exact (K5 aA.out)); (case aG => exact (jEw HB.out (Qe.ge aA.out))); (case aJ => exact zc ((Kd.R_reads' aH.out).2.2)); (case bE => exact (Kd.R_reads' aH.out).2.1); (case bF => exact Km (Qe.own_ne aA.out aH.out (by decide))); rintro e bU ⟨rfl, hi, hb, hk⟩; refine ⟨_, rfl, ?_⟩; replace aC := Qa.mk (Kd.R_mono (Kd.R_keep (Qe.apart (show Qe w _ aK aI aN aQ from (K5 aA.out)) (zR aC.out) (by decide)) hk (fun _ h => h.2)) (fun _ h => h.1)); replace aH := Qa.mk (Kd.R_mono (Kd.R_keep (Qe.apart (show Qe w _ aK aI aN aQ from (K5 aA.out)) (zR aH.out) (by decide)) hk (fun _ h => h.2)) (fun _ h => h.1)); replace aA := Qa.mk (hi); replace HB := Qa.mk (hb); (try clear hb); (try clear hk); (try clear hi)))
 go_ret
 exact ⟨zE, zG (Qe.ge aA.out)⟩
def Js.f (a0 : ByteArray) : Option (Int × Bool) := (Xo.f a0 (-999999999999) 999999999999).bind fun aA => (some (aA.1, aA.2))
theorem jGw {p q : Prop} (g : p) (h : p → q := by intro zg_; repeat (first | (with_reducible first | exact zg_ | apply Qw | apply Qs | apply Qp) | exact zg_)) : q := h g
set_option maxHeartbeats 8000000 in
set_option maxRecDepth 100000 in
theorem Js.calls (a0 : ByteArray) (r1 : Int) (r2 : Bool) (w : World) (h : Js.f a0 = some (r1, r2)) (hT : T2 w) :
  Calls Tryz.prog 87 #[.string a0] w fun e w' => e = .returned (.tuple #[.int .i64 r1, .bool r2]) ∧ Below w.heap.size w w' := by
 have HT := Qa.mk hT
 clear hT
 have HB := Qa.mk (Below.refl w.heap.size w)
 have H := h
 unfold Js.f at H
 clear h
 obtain ⟨⟨aA, aC⟩, A2, H⟩ := zO H
 replace H : (some (aA, aC)) = some (r1, r2) := H
 simp only [Option.some.injEq, Prod.mk.injEq] at H
 obtain ⟨rfl, rfl⟩ := H
 go_enter Tryz.func87, Tryz.ntmps87
 go_wp2_with (first | ((with_reducible refine Qd (f := 105) rfl ?_); refine zD (some 5) Tryz.func105 _ ((Xo.calls a0 (-999999999999) 999999999999 aA aC _ A2.out (HT.out.below ?sideT)).mono ?_); (case sideT => exact (jGw HB.out)); rintro e w3 ⟨rfl, hb⟩; refine ⟨_, rfl, ?_⟩; replace HB := zX hb; (try clear hb)))
 go_ret2
 exact ⟨zE, zB⟩
def Jf.l0 : Nat → ByteArray → Int → List ByteArray → Int → Int → Option (List ByteArray)
 | 0, _, _, _, _, _ => none
 | k + 1, x0, x1, x5, x6, x7 => if x7 ≤ (x0.size : Int) then (if x7 = (x0.size : Int) then (if 0 ≤ x6 then (if x6 ≤ x7 then (if x5.length < 8796093022208 then (Jf.l0 k x0 x1 (x5 ++ [x0.extract (x6 : Int).toNat (x7 : Int).toNat]) (wrap64 (x7 + 1)) (wrap64 (x7 + 1))) else (none)) else (none)) else (none)) else (if 0 ≤ x7 then (if x7 < (x0.size : Int) then (if (bt x0 x7) = x1 then (if 0 ≤ x6 then (if x6 ≤ x7 then (if x5.length < 8796093022208 then (Jf.l0 k x0 x1 (x5 ++ [x0.extract (x6 : Int).toNat (x7 : Int).toNat]) (wrap64 (x7 + 1)) (wrap64 (x7 + 1))) else (none)) else (none)) else (none)) else (Jf.l0 k x0 x1 x5 x6 (wrap64 (x7 + 1)))) else (none)) else (none))) else (some x5)
def Jf.f (k : Nat) (a0 : ByteArray) (a1 : Int) : Option (List ByteArray) := Jf.l0 k a0 a1 ([] : List ByteArray) 0 0
set_option maxHeartbeats 8000000 in
set_option maxRecDepth 100000 in
theorem Jf.calls (k : Nat) (a0 : ByteArray) (a1 : Int) (r : List ByteArray) (w : World) (h : Jf.f k a0 a1 = some r) :
  Calls Tryz.prog 74 #[.string a0, .int .u8 a1] w fun e w' => ∃ bE : Value, e = .returned (bE) ∧ Kd.R Kd.string 9 w' w.heap.size (fun _ => True) bE r ∧ Below w.heap.size w w' := by
 have HB := Qa.mk (Below.refl w.heap.size w)
 have H := h
 unfold Jf.f at H
 clear h
 have H' := Qa.mk H; clear H
 go_enter Tryz.func74, Tryz.ntmps74
 go_wp2
 go_loopg [5, 6, 7] k (fun kq v5 v6 v7 w' => ∃ (aD : List ByteArray) (aC : Int) (aA : Int), v6 = .int .i64 aC ∧ v7 = .int .i64 aA ∧ Qa (Jf.l0 kq a0 a1 aD aC aA = some r) ∧ Qa (kq ≤ k) ∧ Qa (Kd.R Kd.string 9 w' w.heap.size (fun _ => True) v5 aD) ∧ Qa (Below w.heap.size w w'))
 case atStart => exact ⟨(([] : List ByteArray)), (0), (0), zF, zF, H', ⟨Nat.le_refl _⟩, ⟨by first | exact Kd.R_nil _ _ _ _ _ | exact Kd.N_nil _ _ _ _ _ | exact Kd.V_nil _ _ _ _ _ | exact Kd.Q_nil _ _ _ _ _ | exact Kd.S_nil _ _ _ _ _⟩, ⟨zB⟩⟩
 case round =>
 clear H'
 obtain ⟨aD, aC, aA, rfl, rfl, HA, aJ, aG, HB⟩ := hrel
 cases gk with
 | zero => exact absurd HA.out (by simp [Jf.l0])
 | succ k1 =>
 have H := HA.out
 clear HA
 simp only [Jf.l0] at H
 replace H := Xg H
 rcases H with ⟨aX, H⟩ | ⟨aX, H⟩
 ·replace H := Zb H
  rcases H with ⟨aY, aZ, H⟩ | ⟨c4, aY, aZ, H⟩
  ·replace H := Yk H
   rcases H with ⟨bM, bN, H⟩ | ⟨c5, H⟩
   ·replace H := Yk H
    rcases H with ⟨bO, bP, H⟩ | ⟨c6, H⟩
    ·have bQ := eq_true (zA : aA ≤ (a0.size : Int))
     replace H := Z8 H
     rcases H with ⟨c8, H⟩ | ⟨c8, H⟩
     ·have bA := Qa.mk c8
      clear c8
      generalize aH : (aD ++ [a0.extract (aC : Int).toNat (aA : Int).toNat] : List ByteArray) = bB at H
      have aK := Qa.mk aH.symm
      clear aH
      have H' := Qa.mk H; clear H
      go_wp2_with (first | ((with_reducible refine J5 (b := .append) (xs := #[.tmp 25, .tmp 30]) rfl ?_); at_builtin; refine Kd.R_append Kd.string (w0 := w) w.heap.size rfl (.tmp 25) (.tmp 30) 93 9 (.string ⟨#[]⟩) 16 rfl Tryz.underlying93 jDi rfl (by decide) (by omega) u5 aD (a0.extract (aC : Int).toNat (aA : Int).toNat) [.string (a0.extract (aC : Int).toNat (aA : Int).toNat)] (fun _ => True) (fun _ => False) rfl rfl ?aP (fun _ hk => hk.elim) ?aF ?aO ?aB ?aS ?aL ?_; (case aP => exact rfl); (case aB => exact zB); (case aF => exact (fun _ _ => trivial)); (case aO => exact (zR aG.out)); (case aS => exact (Ql zB)); (case aL => have := bA.out; omega); intro bR w9 ho hb hg hat; rw [← aK.out] at ho; have aM := Qa.mk (ho); replace HB := Qa.mk (hb); clear aG; clear ho hb hg hat))
      go_roundg k1
      case measure => have := aJ.out; omega
      case rel => exact ⟨(bB), (wrap64 (aA + 1)), (wrap64 (aA + 1)), zF, zF, H', ⟨by have := aJ.out; omega⟩, ⟨zR aM.out⟩, ⟨zB⟩⟩
     exact absurd H (by simp)
    exact absurd H (by simp)
   exact absurd H (by simp)
  replace H := J9 H
  rcases H with ⟨bF, H⟩ | ⟨c10, H⟩
  ·replace H := J9 H
   rcases H with ⟨bG, H⟩ | ⟨c11, H⟩
   ·replace H := Zb H
    rcases H with ⟨aN, aQ, H⟩ | ⟨c13, aN, aQ, H⟩
    ·replace H := Yk H
     rcases H with ⟨bH, bI, H⟩ | ⟨c14, H⟩
     ·replace H := Yk H
      rcases H with ⟨bJ, bK, H⟩ | ⟨c15, H⟩
      ·have bL := eq_true (zA : aA ≤ (a0.size : Int))
       replace H := Z8 H
       rcases H with ⟨c17, H⟩ | ⟨c17, H⟩
       ·have aT := Qa.mk c17
        clear c17
        generalize aI : (aD ++ [a0.extract (aC : Int).toNat (aA : Int).toNat] : List ByteArray) = bC at H
        have aU := Qa.mk aI.symm
        clear aI
        have H' := Qa.mk H; clear H
        have p12 : 0 ≤ (aA : Int) := zA
        have aV : aA < (a0.size : Int) := zA
        have bD := Uq a0 aA
        replace p12 := eq_true p12
        replace aV := eq_true aV
        go_wp2_with (first | ((with_reducible refine J5 (b := .append) (xs := #[.tmp 25, .tmp 30]) rfl ?_); at_builtin; refine Kd.R_append Kd.string (w0 := w) w.heap.size rfl (.tmp 25) (.tmp 30) 93 9 (.string ⟨#[]⟩) 16 rfl Tryz.underlying93 jDi rfl (by decide) (by omega) u5 aD (a0.extract (aC : Int).toNat (aA : Int).toNat) [.string (a0.extract (aC : Int).toNat (aA : Int).toNat)] (fun _ => True) (fun _ => False) rfl rfl ?aP (fun _ hk => hk.elim) ?aF ?aO ?aB ?aS ?aL ?_; (case aP => exact rfl); (case aB => exact zB); (case aF => exact (fun _ _ => trivial)); (case aO => exact (zR aG.out)); (case aS => exact (Ql zB)); (case aL => have := aT.out; omega); intro bS bT ho hb hg hat; rw [← aU.out] at ho; have aW := Qa.mk (ho); replace HB := Qa.mk (hb); clear aG; clear ho hb hg hat))
        go_roundg k1
        case measure => have := aJ.out; omega
        case rel => exact ⟨(bC), (wrap64 (aA + 1)), (wrap64 (aA + 1)), zF, zF, H', ⟨by have := aJ.out; omega⟩, ⟨zR aW.out⟩, ⟨zB⟩⟩
       exact absurd H (by simp)
      exact absurd H (by simp)
     exact absurd H (by simp)
    have H' := Qa.mk H; clear H
    have p12 : 0 ≤ (aA : Int) := zA
    have aV : aA < (a0.size : Int) := zA
    have bD := Uq a0 aA
    replace p12 := eq_true p12
    replace aV := eq_true aV
    go_wp2
    go_roundg k1
    case measure => have := aJ.out; omega
    case rel => exact ⟨(aD), (aC), (wrap64 (aA + 1)), zF, zF, H', ⟨by have := aJ.out; omega⟩, ⟨zR aG.out⟩, ⟨zB⟩⟩
   exact absurd H (by simp)
  exact absurd H (by simp)
 obtain rfl := Option.some.inj H
 go_wp2
 go_ret
 exact ⟨_, zE, zR aG.out, zB⟩
def Jd.l0 : Nat → List (S48) → List ByteArray → Int → Int → Option ((List (S48)) × Bool)
 | 0, _, _, _, _ => none
 | k + 1, x4, aH, aJ, aG => if aG < aJ then (if 0 ≤ aG then (if aG < (aH.length : Int) then ((strings_Cut.f (Yr ByteArray.empty aH aG) (⟨#[44]⟩ : ByteArray)).bind fun aA => ((Js.f aA.1).bind fun aC => ((Js.f aA.2.1).bind fun aD => (if aC.2 = true then (if aD.2 = true then (if (x4.length : Int) = 7 then (some (([] : List (S48)), false)) else (if x4.length < 8796093022208 then (Jd.l0 k (x4 ++ [(⟨aC.1, aD.1⟩ : S48)]) aH aJ (wrap64 (aG + 1))) else (none))) else (some (([] : List (S48)), false))) else (some (([] : List (S48)), false)))))) else (none)) else (none)) else ((Qf.f k x4).bind fun aI => (if aI = true then (some (x4, true)) else (some (([] : List (S48)), false))))
def Jd.f (k : Nat) (a0 : ByteArray) : Option ((List (S48)) × Bool) := (Jf.f k a0 32).bind fun aA => (Jd.l0 k ([] : List (S48)) aA (aA.length : Int) 0)
theorem Yq {p q : Prop} (g : p) (h : p → q := by intro zg_; repeat (first | (with_reducible first | exact zg_ | apply Qw | apply Qs | apply Qp) | exact zg_)) : q := h g
set_option maxHeartbeats 8000000 in
set_option maxRecDepth 100000 in
theorem Jd.calls (k : Nat) (a0 : ByteArray) (r1 : List (S48)) (r2 : Bool) (w : World) (h : Jd.f k a0 = some (r1, r2)) (hT : T3 w) :
  Calls Tryz.prog 32 #[.string a0] w fun e w' => ∃ bW : Value, e = .returned (.tuple #[bW, .bool r2]) ∧ Kd.R k48 48 w' w.heap.size (fun _ => True) bW r1 ∧ Below w.heap.size w w' := by
 have HT := Qa.mk hT
 clear hT
 have bZ := Tryz.underlying48
 have HB := Qa.mk (Below.refl w.heap.size w)
 have H := h
 unfold Jd.f at H
 clear h
 obtain ⟨aI, A2, H⟩ := zO H
 have H' := Qa.mk H; clear H
 go_enter Tryz.func32, Tryz.ntmps32
 go_wp2_with (first | ((with_reducible refine Qd (f := 74) rfl ?_); refine zD (some 15) Tryz.func74 _ ((Jf.calls k a0 32 aI _ A2.out).mono ?_); rintro e w3 ⟨cB, rfl, ho0, hb⟩; refine ⟨_, rfl, ?_⟩; have aZ := Qa.mk (Kd.R_lower ho0 (Ql zB)); replace HB := zX hb; (try clear hb); (try clear ho0); obtain ⟨cK, cO, cZ⟩ := Kd.R_slice aZ.out; subst cZ))
 go_loopg [4, 17] k (fun kq v4 v17 w' => ∃ (aJ : List (S48)) (aD : Int), v17 = .int .i64 aD ∧ Qa (Jd.l0 kq aJ aI (aI.length : Int) aD = some (r1, r2)) ∧ Qa (kq ≤ k) ∧ Qa (Kd.R k48 48 w' w.heap.size (fun _ => True) v4 aJ) ∧ Qa (Kd.R Kd.string 9 w' w.heap.size (fun _ => True) (.slice cK aI.length cO) aI) ∧ Qa (Below w.heap.size w w'))
 case atStart => exact ⟨(([] : List (S48))), (0), zF, H', ⟨Nat.le_refl _⟩, ⟨by first | exact Kd.R_nil _ _ _ _ _ | exact Kd.N_nil _ _ _ _ _ | exact Kd.V_nil _ _ _ _ _ | exact Kd.Q_nil _ _ _ _ _ | exact Kd.S_nil _ _ _ _ _⟩, ⟨zR aZ.out⟩, ⟨zB⟩⟩
 case round =>
 clear H'
 obtain ⟨aJ, aD, rfl, HA, bX, aC, aA, HB⟩ := hrel
 cases gk with
 | zero => exact absurd HA.out (by simp [Jd.l0])
 | succ k1 =>
 have H := HA.out
 clear HA
 simp only [Jd.l0] at H
 replace H := Xg H
 rcases H with ⟨bI, H⟩ | ⟨bI, H⟩
 ·replace H := J9 H
  rcases H with ⟨dA, H⟩ | ⟨c6, H⟩
  ·replace H := J9 H
   rcases H with ⟨dB, H⟩ | ⟨c7, H⟩
   ·obtain ⟨⟨aM, aN, aY⟩, A8, H⟩ := zO H
    dsimp only at H
    obtain ⟨⟨aQ, bJ⟩, A9, H⟩ := zO H
    dsimp only at H
    obtain ⟨⟨aT, bB⟩, bH, H⟩ := zO H
    dsimp only at H
    by_cases c11 : bJ = true
    ·subst c11
     replace H := (if_pos rfl).symm.trans H
     by_cases c12 : bB = true
     ·subst c12
      replace H := (if_pos rfl).symm.trans H
      replace H := Zb H
      rcases H with ⟨bC, bD, H⟩ | ⟨c13, bC, bD, H⟩
      ·simp only [Option.some.injEq, Prod.mk.injEq] at H
       obtain ⟨rfl, rfl⟩ := H
       have aG : 0 ≤ (aD : Int) := zA
       have aH : aD < (aI.length : Int) := zA
       obtain ⟨aV, aU, aK⟩ := Kd.at_string (Kd.R_reads' aA.out).2.2 aD aG aH
       cases aU
       replace aG := eq_true aG
       replace aH := eq_true aH
       go_wp2_with (first | ((with_reducible refine Qd (f := 86) rfl ?_); refine zD (some 23) Tryz.func86 _ ((strings_Cut.calls (Yr ByteArray.empty aI aD) (⟨#[44]⟩ : ByteArray) aM aN aY _ A8.out (HT.out.below ?sideT)).mono ?_); (case sideT => exact (Yq HB.out)); rintro e dF ⟨rfl, hb⟩; refine ⟨_, rfl, ?_⟩; replace aC := zW aC.out hb; replace aA := zW aA.out hb; replace HB := zX hb; (try clear hb)) | ((with_reducible refine Qd (f := 87) rfl ?_); refine zD (some 29) Tryz.func87 _ ((Js.calls aM aQ true _ A9.out (HT.out.to2.below ?sideT)).mono ?_); (case sideT => exact (Yq HB.out)); rintro e dG ⟨rfl, hb⟩; refine ⟨_, rfl, ?_⟩; replace aC := zW aC.out hb; replace aA := zW aA.out hb; replace HB := zX hb; (try clear hb)) | ((with_reducible refine Qd (f := 87) rfl ?_); refine zD (some 34) Tryz.func87 _ ((Js.calls aN aT true _ bH.out (HT.out.to2.below ?sideT)).mono ?_); (case sideT => exact (Yq HB.out)); rintro e w16 ⟨rfl, hb⟩; refine ⟨_, rfl, ?_⟩; replace aC := zW aC.out hb; replace aA := zW aA.out hb; replace HB := zX hb; (try clear hb); obtain ⟨dC, dD, bK⟩ := Kd.R_slice aC.out; subst bK))
       go_ret2
       exact ⟨_, zE, by first | exact Kd.R_nil _ _ _ _ _ | exact Kd.N_nil _ _ _ _ _ | exact Kd.V_nil _ _ _ _ _ | exact Kd.Q_nil _ _ _ _ _ | exact Kd.S_nil _ _ _ _ _, zB⟩
      replace H := Z8 H
      rcases H with ⟨c18, H⟩ | ⟨c18, H⟩
      ·have bE := Qa.mk c18
       clear c18
       generalize bA : (aJ ++ [(⟨aQ, aT⟩ : S48)] : List (S48)) = bL at H
       have bF := Qa.mk bA.symm
       clear bA
       have H' := Qa.mk H; clear H
       have aG : 0 ≤ (aD : Int) := zA
       have aH : aD < (aI.length : Int) := zA
       obtain ⟨aV, aU, aK⟩ := Kd.at_string (Kd.R_reads' aA.out).2.2 aD aG aH
       cases aU
       replace aG := eq_true aG
       replace aH := eq_true aH
       go_wp2_with (first | ((with_reducible refine Qd (f := 86) rfl ?_); refine zD (some 23) Tryz.func86 _ ((strings_Cut.calls (Yr ByteArray.empty aI aD) (⟨#[44]⟩ : ByteArray) aM aN aY _ A8.out (HT.out.below ?sideT)).mono ?_); (case sideT => exact (Yq HB.out)); rintro e dH ⟨rfl, hb⟩; refine ⟨_, rfl, ?_⟩; replace aC := zW aC.out hb; replace aA := zW aA.out hb; replace HB := zX hb; (try clear hb)) | ((with_reducible refine Qd (f := 87) rfl ?_); refine zD (some 29) Tryz.func87 _ ((Js.calls aM aQ true _ A9.out (HT.out.to2.below ?sideT)).mono ?_); (case sideT => exact (Yq HB.out)); rintro e dI ⟨rfl, hb⟩; refine ⟨_, rfl, ?_⟩; replace aC := zW aC.out hb; replace aA := zW aA.out hb; replace HB := zX hb; (try clear hb)) | ((with_reducible refine Qd (f := 87) rfl ?_); refine zD (some 34) Tryz.func87 _ ((Js.calls aN aT true _ bH.out (HT.out.to2.below ?sideT)).mono ?_); (case sideT => exact (Yq HB.out)); rintro e dJ ⟨rfl, hb⟩; refine ⟨_, rfl, ?_⟩; replace aC := zW aC.out hb; replace aA := zW aA.out hb; replace HB := zX hb; (try clear hb); obtain ⟨bM, bN, bO⟩ := Kd.R_slice aC.out; subst bO) | ((with_reducible refine J5 (b := .append) (xs := #[.tmp 48, .tmp 52]) rfl ?_); (try (refine Xc (by rfl) ?_; dsimp only)); at_builtin; refine Kd.R_append k48 (w0 := w) w.heap.size rfl (.tmp 48) (.tmp 52) 28 48 (.agg #[(.int .i64 0), (.int .i64 0)]) 16 rfl Tryz.underlying28 Yf rfl (by decide) (by omega) (.slice bM aJ.length bN) aJ (⟨aQ, aT⟩ : S48) [.int .i64 aQ, .int .i64 aT] (fun _ => True) (fun _ => False) rfl rfl ?aP (fun _ hk => hk.elim) ?aF ?aO ?aB ?aS ?aL ?_; (case aP => exact Z0 _ _ _ (⟨aQ, aT⟩ : S48)); (case aB => exact zB); (case aF => exact (fun _ _ => trivial)); (case aO => exact (zR aC.out)); (case aS => exact (Ql zB)); (case aL => have := bE.out; omega); intro dE dK ho hb hg hat; rw [← bF.out] at ho; replace aA := Qa.mk (Kd.R_over' (zR aA.out) (Kd.R_typed (zR aC.out)) (by decide) hg); have bG := Qa.mk (ho); replace HB := Qa.mk (hb); clear aC; clear ho hb hg hat))
       go_roundg k1
       case measure => have := bX.out; omega
       case rel => exact ⟨(bL), (wrap64 (aD + 1)), zF, H', ⟨by have := bX.out; omega⟩, ⟨zR bG.out⟩, ⟨zR aA.out⟩, ⟨zB⟩⟩
      exact absurd H (by simp)
     replace c12 := Bool.eq_false_iff.mpr c12
     subst c12
     replace H := (if_neg zFf).symm.trans H
     simp only [Option.some.injEq, Prod.mk.injEq] at H
     obtain ⟨rfl, rfl⟩ := H
     have aG : 0 ≤ (aD : Int) := zA
     have aH : aD < (aI.length : Int) := zA
     obtain ⟨aV, aU, aK⟩ := Kd.at_string (Kd.R_reads' aA.out).2.2 aD aG aH
     cases aU
     replace aG := eq_true aG
     replace aH := eq_true aH
     go_wp2_with (first | ((with_reducible refine Qd (f := 86) rfl ?_); refine zD (some 23) Tryz.func86 _ ((strings_Cut.calls (Yr ByteArray.empty aI aD) (⟨#[44]⟩ : ByteArray) aM aN aY _ A8.out (HT.out.below ?sideT)).mono ?_); (case sideT => exact (Yq HB.out)); rintro e dL ⟨rfl, hb⟩; refine ⟨_, rfl, ?_⟩; replace aC := zW aC.out hb; replace aA := zW aA.out hb; replace HB := zX hb; (try clear hb)) | ((with_reducible refine Qd (f := 87) rfl ?_); refine zD (some 29) Tryz.func87 _ ((Js.calls aM aQ true _ A9.out (HT.out.to2.below ?sideT)).mono ?_); (case sideT => exact (Yq HB.out)); rintro e dM ⟨rfl, hb⟩; refine ⟨_, rfl, ?_⟩; replace aC := zW aC.out hb; replace aA := zW aA.out hb; replace HB := zX hb; (try clear hb)) | ((with_reducible refine Qd (f := 87) rfl ?_); refine zD (some 34) Tryz.func87 _ ((Js.calls aN aT false _ bH.out (HT.out.to2.below ?sideT)).mono ?_); (case sideT => exact (Yq HB.out)); rintro e dN ⟨rfl, hb⟩; refine ⟨_, rfl, ?_⟩; replace aC := zW aC.out hb; replace aA := zW aA.out hb; replace HB := zX hb; (try clear hb)))
     go_ret2
     exact ⟨_, zE, by first | exact Kd.R_nil _ _ _ _ _ | exact Kd.N_nil _ _ _ _ _ | exact Kd.V_nil _ _ _ _ _ | exact Kd.Q_nil _ _ _ _ _ | exact Kd.S_nil _ _ _ _ _, zB⟩
    replace c11 := Bool.eq_false_iff.mpr c11
    subst c11
    replace H := (if_neg zFf).symm.trans H
    simp only [Option.some.injEq, Prod.mk.injEq] at H
    obtain ⟨rfl, rfl⟩ := H
    have aG : 0 ≤ (aD : Int) := zA
    have aH : aD < (aI.length : Int) := zA
    obtain ⟨aV, aU, aK⟩ := Kd.at_string (Kd.R_reads' aA.out).2.2 aD aG aH
    cases aU
    replace aG := eq_true aG
    replace aH := eq_true aH
    go_wp2_with (first | ((with_reducible refine Qd (f := 86) rfl ?_); refine zD (some 23) Tryz.func86 _ ((strings_Cut.calls (Yr ByteArray.empty aI aD) (⟨#[44]⟩ : ByteArray) aM aN aY _ A8.out (HT.out.below ?sideT)).mono ?_); (case sideT => exact (Yq HB.out)); rintro e dO ⟨rfl, hb⟩; refine ⟨_, rfl, ?_⟩; replace aC := zW aC.out hb; replace aA := zW aA.out hb; replace HB := zX hb; (try clear hb)) | ((with_reducible refine Qd (f := 87) rfl ?_); refine zD (some 29) Tryz.func87 _ ((Js.calls aM aQ false _ A9.out (HT.out.to2.below ?sideT)).mono ?_); (case sideT => exact (Yq HB.out)); rintro e dP ⟨rfl, hb⟩; refine ⟨_, rfl, ?_⟩; replace aC := zW aC.out hb; replace aA := zW aA.out hb; replace HB := zX hb; (try clear hb)) | ((with_reducible refine Qd (f := 87) rfl ?_); refine zD (some 34) Tryz.func87 _ ((Js.calls aN aT bB _ bH.out (HT.out.to2.below ?sideT)).mono ?_); (case sideT => exact (Yq HB.out)); rintro e dQ ⟨rfl, hb⟩; refine ⟨_, rfl, ?_⟩; replace aC := zW aC.out hb; replace aA := zW aA.out hb; replace HB := zX hb; (try clear hb)))
    go_ret2
    exact ⟨_, zE, by first | exact Kd.R_nil _ _ _ _ _ | exact Kd.N_nil _ _ _ _ _ | exact Kd.V_nil _ _ _ _ _ | exact Kd.Q_nil _ _ _ _ _ | exact Kd.S_nil _ _ _ _ _, zB⟩
   exact absurd H (by simp)
  exact absurd H (by simp)
 obtain ⟨bP, bY, H⟩ := zO H
 by_cases c31 : bP = true
 ·subst c31
  replace H := (if_pos rfl).symm.trans H
  simp only [Option.some.injEq, Prod.mk.injEq] at H
  obtain ⟨rfl, rfl⟩ := H
  obtain ⟨bQ, bR, bS⟩ := Kd.R_slice aC.out
  subst bS
  go_wp2_with (first | ((with_reducible refine Qd (f := 45) rfl ?_); refine zD (some 56) Tryz.func45 #[.slice bQ aJ.length bR] ((Qf.calls k1 _ _ aJ true _ ?aW ?aX bY.out).mono ?_); (case aW => exact zc ((Kd.R_reads' aC.out).2.2)); (case aX => exact (Kd.R_reads' aC.out).2.1); rintro e dR ⟨rfl, hb⟩; refine ⟨_, rfl, ?_⟩; replace aC := zW aC.out hb; replace aA := zW aA.out hb; replace HB := zX hb; (try clear hb)))
  go_ret2
  exact ⟨_, zE, zR aC.out, zB⟩
 replace c31 := Bool.eq_false_iff.mpr c31
 subst c31
 replace H := (if_neg zFf).symm.trans H
 simp only [Option.some.injEq, Prod.mk.injEq] at H
 obtain ⟨rfl, rfl⟩ := H
 obtain ⟨bT, bU, bV⟩ := Kd.R_slice aC.out
 subst bV
 go_wp2_with (first | ((with_reducible refine Qd (f := 45) rfl ?_); refine zD (some 56) Tryz.func45 #[.slice bT aJ.length bU] ((Qf.calls k1 _ _ aJ false _ ?aW ?aX bY.out).mono ?_); (case aW => exact zc ((Kd.R_reads' aC.out).2.2)); (case aX => exact (Kd.R_reads' aC.out).2.1); rintro e dS ⟨rfl, hb⟩; refine ⟨_, rfl, ?_⟩; replace aC := zW aC.out hb; replace aA := zW aA.out hb; replace HB := zX hb; (try clear hb)))
 go_ret2
 exact ⟨_, zE, by first | exact Kd.R_nil _ _ _ _ _ | exact Kd.N_nil _ _ _ _ _ | exact Kd.V_nil _ _ _ _ _ | exact Kd.Q_nil _ _ _ _ _ | exact Kd.S_nil _ _ _ _ _, zB⟩
def Q6.l0 : Nat → ByteArray → Int → List ByteArray → Int → Int → Option (List ByteArray)
 | 0, _, _, _, _, _ => none
 | k + 1, x0, x1, x5, x6, x7 => if x7 ≤ (x0.size : Int) then (if x7 = (x0.size : Int) then (if 0 ≤ x6 then (if x6 ≤ x7 then (if x5.length < 8796093022208 then (Q6.l0 k x0 x1 (x5 ++ [x0.extract (x6 : Int).toNat (x7 : Int).toNat]) (wrap64 (x7 + 1)) (wrap64 (x7 + 1))) else (none)) else (none)) else (none)) else (if 0 ≤ x7 then (if x7 < (x0.size : Int) then (if (bt x0 x7) = x1 then (if 0 ≤ x6 then (if x6 ≤ x7 then (if x5.length < 8796093022208 then (Q6.l0 k x0 x1 (x5 ++ [x0.extract (x6 : Int).toNat (x7 : Int).toNat]) (wrap64 (x7 + 1)) (wrap64 (x7 + 1))) else (none)) else (none)) else (none)) else (Q6.l0 k x0 x1 x5 x6 (wrap64 (x7 + 1)))) else (none)) else (none))) else (some x5)
def Q6.f (k : Nat) (a0 : ByteArray) (a1 : Int) : Option (List ByteArray) := Q6.l0 k a0 a1 (([] : List ByteArray)) 0 0
set_option maxHeartbeats 8000000 in
set_option maxRecDepth 100000 in
theorem Q6.calls (k : Nat) (a0 : ByteArray) (a1 : Int) (r : List ByteArray) (w : World) (h : Q6.f k a0 a1 = some r) :
  Calls Tryz.prog 76 #[.string a0, .int .u8 a1] w fun e w' => ∃ bK : Value, e = .returned (bK) ∧ Kd.R Kd.string 9 w' w.heap.size (fun _ => True) bK r ∧ Below w.heap.size w w' := by
 have HB := Qa.mk (Below.refl w.heap.size w)
 have H := h
 unfold Q6.f at H
 clear h
 generalize aH : (([] : List ByteArray) : List ByteArray) = bD at H
 have aI := Qa.mk aH.symm
 clear aH
 have H' := Qa.mk H; clear H
 go_enter Tryz.func76, Tryz.ntmps76
 go_wp2_with (first | ((with_reducible refine Qo (N := 8) rfl ?_); refine Kd.R_lit Kd.string _ 9 ?hg (N := 8) ?hd (xs := ([] : List ByteArray)) (inner := []) (ok := fun _ => True) (okp := fun _ => True) ?hr ?hp (fun _ hk => hk) trivial (Below.refl _ _) (Nat.le_refl _) (by simp) ?_; (case hd => rfl); (case hg => rfl); (case hr => first | (go_simp; done) | (go_simp; rfl)); (case hp => exact (J6.none _ _)); intro bS w3 aN hb hg_ hnew_; clear hg_ hnew_; (first | rw [← aI.out] at aN | (simp only [Int.reduceToNat] at aN; rw [← aI.out] at aN)); have aQ := Qa.mk (Kd.R_lower aN (Ql zB)); replace HB := zX hb; clear hb aN))
 go_loopg [5, 6, 7] k (fun kq v5 v6 v7 w' => ∃ (aD : List ByteArray) (aC : Int) (aA : Int), v6 = .int .i64 aC ∧ v7 = .int .i64 aA ∧ Qa (Q6.l0 kq a0 a1 aD aC aA = some r) ∧ Qa (kq ≤ k) ∧ Qa (Kd.R Kd.string 9 w' w.heap.size (fun _ => True) v5 aD) ∧ Qa (Below w.heap.size w w'))
 case atStart => exact ⟨(bD), (0), (0), zF, zF, H', ⟨Nat.le_refl _⟩, ⟨zR aQ.out⟩, ⟨zB⟩⟩
 case round =>
 clear H'
 obtain ⟨aD, aC, aA, rfl, rfl, HA, aM, aG, HB⟩ := hrel
 cases gk with
 | zero => exact absurd HA.out (by simp [Q6.l0])
 | succ k1 =>
 have H := HA.out
 clear HA
 simp only [Q6.l0] at H
 replace H := Xg H
 rcases H with ⟨bE, H⟩ | ⟨bE, H⟩
 ·replace H := Zb H
  rcases H with ⟨bF, bG, H⟩ | ⟨c6, bF, bG, H⟩
  ·replace H := Yk H
   rcases H with ⟨bT, bU, H⟩ | ⟨c7, H⟩
   ·replace H := Yk H
    rcases H with ⟨bV, bW, H⟩ | ⟨c8, H⟩
    ·have bX := eq_true (zA : aA ≤ (a0.size : Int))
     replace H := Z8 H
     rcases H with ⟨c10, H⟩ | ⟨c10, H⟩
     ·have aT := Qa.mk c10
      clear c10
      generalize aJ : (aD ++ [a0.extract (aC : Int).toNat (aA : Int).toNat] : List ByteArray) = bH at H
      have aU := Qa.mk aJ.symm
      clear aJ
      have H' := Qa.mk H; clear H
      go_wp2_with (first | ((with_reducible refine J5 (b := .append) (xs := #[.tmp 26, .tmp 31]) rfl ?_); at_builtin; refine Kd.R_append Kd.string (w0 := w) w.heap.size rfl (.tmp 26) (.tmp 31) 93 9 (.string ⟨#[]⟩) 16 rfl Tryz.underlying93 jDi rfl (by decide) (by omega) u5 aD (a0.extract (aC : Int).toNat (aA : Int).toNat) [.string (a0.extract (aC : Int).toNat (aA : Int).toNat)] (fun _ => True) (fun _ => False) rfl rfl ?aP (fun _ hk => hk.elim) ?aF ?aO ?aB ?aS ?aL ?_; (case aP => exact rfl); (case aB => exact zB); (case aF => exact (fun _ _ => trivial)); (case aO => exact (zR aG.out)); (case aS => exact (Ql zB)); (case aL => have := aT.out; omega); intro bY cB ho hb hg hat; rw [← aU.out] at ho; have aV := Qa.mk (ho); replace HB := Qa.mk (hb); clear aG; clear ho hb hg hat))
      go_roundg k1
      case measure => have := aM.out; omega
      case rel => exact ⟨(bH), (wrap64 (aA + 1)), (wrap64 (aA + 1)), zF, zF, H', ⟨by have := aM.out; omega⟩, ⟨zR aV.out⟩, ⟨zB⟩⟩
     exact absurd H (by simp)
    exact absurd H (by simp)
   exact absurd H (by simp)
  replace H := J9 H
  rcases H with ⟨bL, H⟩ | ⟨c12, H⟩
  ·replace H := J9 H
   rcases H with ⟨bM, H⟩ | ⟨c13, H⟩
   ·replace H := Zb H
    rcases H with ⟨aW, aX, H⟩ | ⟨c15, aW, aX, H⟩
    ·replace H := Yk H
     rcases H with ⟨bN, bO, H⟩ | ⟨c16, H⟩
     ·replace H := Yk H
      rcases H with ⟨bP, bQ, H⟩ | ⟨c17, H⟩
      ·have bR := eq_true (zA : aA ≤ (a0.size : Int))
       replace H := Z8 H
       rcases H with ⟨c19, H⟩ | ⟨c19, H⟩
       ·have aY := Qa.mk c19
        clear c19
        generalize aK : (aD ++ [a0.extract (aC : Int).toNat (aA : Int).toNat] : List ByteArray) = bI at H
        have aZ := Qa.mk aK.symm
        clear aK
        have H' := Qa.mk H; clear H
        have bA : 0 ≤ (aA : Int) := zA
        have bB : aA < (a0.size : Int) := zA
        have bJ := Uq a0 aA
        replace bA := eq_true bA
        replace bB := eq_true bB
        go_wp2_with (first | ((with_reducible refine J5 (b := .append) (xs := #[.tmp 26, .tmp 31]) rfl ?_); at_builtin; refine Kd.R_append Kd.string (w0 := w) w.heap.size rfl (.tmp 26) (.tmp 31) 93 9 (.string ⟨#[]⟩) 16 rfl Tryz.underlying93 jDi rfl (by decide) (by omega) u5 aD (a0.extract (aC : Int).toNat (aA : Int).toNat) [.string (a0.extract (aC : Int).toNat (aA : Int).toNat)] (fun _ => True) (fun _ => False) rfl rfl ?aP (fun _ hk => hk.elim) ?aF ?aO ?aB ?aS ?aL ?_; (case aP => exact rfl); (case aB => exact zB); (case aF => exact (fun _ _ => trivial)); (case aO => exact (zR aG.out)); (case aS => exact (Ql zB)); (case aL => have := aY.out; omega); intro bZ cK ho hb hg hat; rw [← aZ.out] at ho; have bC := Qa.mk (ho); replace HB := Qa.mk (hb); clear aG; clear ho hb hg hat))
        go_roundg k1
        case measure => have := aM.out; omega
        case rel => exact ⟨(bI), (wrap64 (aA + 1)), (wrap64 (aA + 1)), zF, zF, H', ⟨by have := aM.out; omega⟩, ⟨zR bC.out⟩, ⟨zB⟩⟩
       exact absurd H (by simp)
      exact absurd H (by simp)
     exact absurd H (by simp)
    have H' := Qa.mk H; clear H
    have bA : 0 ≤ (aA : Int) := zA
    have bB : aA < (a0.size : Int) := zA
    have bJ := Uq a0 aA
    replace bA := eq_true bA
    replace bB := eq_true bB
    go_wp2
    go_roundg k1
    case measure => have := aM.out; omega
    case rel => exact ⟨(aD), (aC), (wrap64 (aA + 1)), zF, zF, H', ⟨by have := aM.out; omega⟩, ⟨zR aG.out⟩, ⟨zB⟩⟩
   exact absurd H (by simp)
  exact absurd H (by simp)
 obtain rfl := Option.some.inj H
 go_wp2
 go_ret
 exact ⟨_, zE, zR aG.out, zB⟩
mutual
def Qz.j0 : Nat → ByteArray → Int → Bool → Option (Int × Bool)
 | 0, _, _, _ => none
 | k + 1, x0, x1, x6 => if x6 = true then (if 1 ≤ (x0.size : Int) then (Qz.j1 k x0 x1 x6 (x0.extract 1 x0.size)) else (none)) else (Qz.j1 k x0 x1 x6 x0)
def Qz.j1 : Nat → ByteArray → Int → Bool → ByteArray → Option (Int × Bool)
 | 0, _, _, _, _ => none
 | k + 1, x0, x1, x6, x7 => if (x7.size : Int) < 1 then (Qz.j2 k x0 x6 x7 true) else (Qz.j2 k x0 x6 x7 (decide ((x7.size : Int) > x1)))
def Qz.j2 : Nat → ByteArray → Bool → ByteArray → Bool → Option (Int × Bool)
 | 0, _, _, _, _ => none
 | k + 1, x0, x6, x7, x30 => if x30 = true then (some (0, false)) else (Qz.l0 k x0 x6 x7 0 0)
def Qz.l0 : Nat → ByteArray → Bool → ByteArray → Int → Int → Option (Int × Bool)
 | 0, _, _, _, _, _ => none
 | k + 1, x0, x6, x7, x8, x9 => if x9 < (x7.size : Int) then (if 0 ≤ x9 then (if (bt x7 x9) < 48 then (some (0, false)) else (if (bt x7 x9) > 57 then (some (0, false)) else (Qz.l0 k x0 x6 x7 (wrap64 ((wrap64 (10 * x8)) + (((bt x7 x9) - 48) % 256))) (wrap64 (x9 + 1))))) else (none)) else (if x6 = true then ((Q7.f k (wrap64 (-x8))).bind fun aA => (if aA.toList = x0.toList then (some (wrap64 (-x8), true)) else (some (0, false)))) else ((Q7.f k x8).bind fun aC => (if aC.toList = x0.toList then (some (x8, true)) else (some (0, false)))))
end
def Qz.f (k : Nat) (a0 : ByteArray) (a1 : Int) : Option (Int × Bool) := if (a0.size : Int) > 0 then (if 0 < (a0.size : Int) then (Qz.j0 k a0 a1 ((bt a0 0) == 45)) else (none)) else (Qz.j0 k a0 a1 false)
set_option maxHeartbeats 8000000 in
set_option maxRecDepth 100000 in
theorem Qz.calls (k : Nat) (a0 : ByteArray) (a1 : Int) (r1 : Int) (r2 : Bool) (w : World) (h : Qz.f k a0 a1 = some (r1, r2)) :
  Calls Tryz.prog 106 #[.string a0, .int .i64 a1] w fun e w' => e = .returned (.tuple #[.int .i64 r1, .bool r2]) ∧ Below w.heap.size w w' := by
 have HB := Qa.mk (Below.refl w.heap.size w)
 have H := h
 unfold Qz.f at H
 clear h
 have bG := Qa.mk H
 clear H
 go_enter Tryz.func106, Tryz.ntmps106
 go_upto_region 1 with (fail)
 go_cut [6] (fun v6 wc => ∃ (kq : Nat) (aD : Bool), v6 = .bool aD ∧ Qa (Qz.j0 kq a0 a1 aD = some (r1, r2)) ∧ Qa (kq ≤ k) ∧ Qa (Below w.heap.size w wc))
 case first =>
  have H := bG.out
  clear bG
  replace H := Z8 H
  rcases H with ⟨c4, H⟩ | ⟨c4, H⟩
  ·have aJ : decide (0 < (a0.size : Int)) = true := decide_eq_true c4
   have bH : decide (0 < a0.size) = true := decide_eq_true (by omega)
   clear c4
   (first | rw [aJ] | (simp only [Zd, Zf]; rw [aJ]) | skip)
   replace H := Yc H
   rcases H with ⟨c5, bS, H⟩ | ⟨c5, H⟩
   ·have bT : decide (0 < a0.size) = true := decide_eq_true (by omega)
    clear c5
    have H' := Qa.mk H; clear H
    have p6 : 0 ≤ (0 : Int) := (by omega)
    have q6 : 0 < a0.size := (by have : (0 : Int) < (a0.size : Int) := zA; omega)
    have hx6 : ∀ h : 0 < a0.size, ((a0[0]'h).toNat : Int) = bt a0 0 := Uq a0 0
    clear p6
    have bZ : (0 < (a0.size : Int)) = True := eq_true (zA)
    replace q6 := eq_true q6
    go_wp2
    go_meet
    case rel => exact ⟨_, (((bt a0 0) == 45)), zF, H', ⟨by first | omega | exact Nat.le_refl _⟩, ⟨zB⟩⟩
   exact absurd H (by simp)
  have aJ : decide (0 < (a0.size : Int)) = false := decide_eq_false c4
  have bH : decide (0 < a0.size) = false := decide_eq_false (by omega)
  clear c4
  (first | rw [aJ] | (simp only [Zd, Zf]; rw [aJ]) | skip)
  have H' := Qa.mk H; clear H
  go_wp2
  go_meet
  case rel => exact ⟨_, (false), zF, H', ⟨by first | omega | exact Nat.le_refl _⟩, ⟨zB⟩⟩
 case rest =>
 clear bG
 obtain ⟨kq, aD, rfl, HA, HJ2, HB⟩ := hcut
 cases kq with
 | zero => exact absurd HA.out (by simp [Qz.j0])
 | succ bU =>
 have H := HA.out
 clear HA
 simp only [Qz.j0] at H
 have bI := Qa.mk H
 clear H
 go_upto_if 19 with (fail)
 go_cut [7] (fun v7 wc => ∃ (kq : Nat) (aC : ByteArray), v7 = .string aC ∧ Qa (Qz.j1 kq a0 a1 aD aC = some (r1, r2)) ∧ Qa (kq ≤ bU) ∧ Qa (Below w.heap.size w wc))
 case first =>
  have H := bI.out
  clear bI
  by_cases c8 : aD = true
  ·subst c8
   replace H := (if_pos rfl).symm.trans H
   replace H := Yk H
   rcases H with ⟨bV, bW, H⟩ | ⟨c9, H⟩
   ·have H' := Qa.mk H; clear H
    go_wp2
    go_meet
    case rel => exact ⟨_, (a0.extract 1 a0.size), zF, H', ⟨by have := HJ2.out; first | omega | exact Nat.le_refl _⟩, ⟨zB⟩⟩
   exact absurd H (by simp)
  replace c8 := Bool.eq_false_iff.mpr c8
  subst c8
  replace H := (if_neg zFf).symm.trans H
  have H' := Qa.mk H; clear H
  go_wp2
  go_meet
  case rel => exact ⟨_, (a0), zF, H', ⟨by have := HJ2.out; first | omega | exact Nat.le_refl _⟩, ⟨zB⟩⟩
 case rest =>
 clear bI
 obtain ⟨kq, aC, rfl, HA, bF, HB⟩ := hcut
 cases kq with
 | zero => exact absurd HA.out (by simp [Qz.j1])
 | succ bX =>
 have H := HA.out
 clear HA
 simp only [Qz.j1] at H
 have aN := Qa.mk H
 clear H
 go_upto_region 5 with (fail)
 go_cut [30] (fun v30 wc => ∃ (kq : Nat) (aI : Bool), v30 = .bool aI ∧ Qa (Qz.j2 kq a0 aD aC aI = some (r1, r2)) ∧ Qa (kq ≤ bX) ∧ Qa (Below w.heap.size w wc))
 case first =>
  have H := aN.out
  clear aN
  replace H := jCd H
  rcases H with ⟨c11, aG, H⟩ | ⟨c11, aG, H⟩
  ·have aQ : decide (aC.size < 1) = true := decide_eq_true (by omega)
   clear c11
   (first | rw [aG] | (simp only [Zd, Zf]; rw [aG]) | skip)
   have H' := Qa.mk H; clear H
   go_wp2
   go_meet
   case rel => exact ⟨_, (true), zF, H', ⟨by have := HJ2.out; have := bF.out; first | omega | exact Nat.le_refl _⟩, ⟨zB⟩⟩
  have aQ : decide (aC.size < 1) = false := decide_eq_false (by omega)
  clear c11
  (first | rw [aG] | (simp only [Zd, Zf]; rw [aG]) | skip)
  have H' := Qa.mk H; clear H
  go_wp2
  go_meet
  case rel => exact ⟨_, (decide ((aC.size : Int) > a1)), zF, H', ⟨by have := HJ2.out; have := bF.out; first | omega | exact Nat.le_refl _⟩, ⟨zB⟩⟩
 case rest =>
 clear aN
 obtain ⟨kq, aI, rfl, HA, bK, HB⟩ := hcut
 cases kq with
 | zero => exact absurd HA.out (by simp [Qz.j2])
 | succ bL =>
 have H := HA.out
 clear HA
 simp only [Qz.j2] at H
 by_cases c12 : aI = true
 ·subst c12
  replace H := (if_pos rfl).symm.trans H
  simp only [Option.some.injEq, Prod.mk.injEq] at H
  obtain ⟨rfl, rfl⟩ := H
  go_wp2
  go_ret2
  exact ⟨zE, zB⟩
 replace c12 := Bool.eq_false_iff.mpr c12
 subst c12
 replace H := (if_neg zFf).symm.trans H
 have H' := Qa.mk H; clear H
 go_wp2
 go_loopg [8, 9] bL (fun kq v8 v9 w' => ∃ (aH : Int) (aA : Int), v8 = .int .i64 aH ∧ v9 = .int .i64 aA ∧ Qa (Qz.l0 kq a0 aD aC aH aA = some (r1, r2)) ∧ Qa (kq ≤ bL) ∧ Qa (Below w.heap.size w w'))
 case atStart => exact ⟨(0), (0), zF, zF, H', ⟨Nat.le_refl _⟩, ⟨zB⟩⟩
 case round =>
 clear H'
 try clear c12
 obtain ⟨aH, aA, rfl, rfl, HA, bM, HB⟩ := hrel
 cases gk with
 | zero => exact absurd HA.out (by simp [Qz.l0])
 | succ k4 =>
 have H := HA.out
 clear HA
 simp only [Qz.l0] at H
 replace H := Xg H
 rcases H with ⟨aT, H⟩ | ⟨aT, H⟩
 ·replace H := J9 H
  rcases H with ⟨bN, H⟩ | ⟨c14, H⟩
  ·replace H := Xg H
   rcases H with ⟨aU, H⟩ | ⟨aU, H⟩
   ·simp only [Option.some.injEq, Prod.mk.injEq] at H
    obtain ⟨rfl, rfl⟩ := H
    have aK : 0 ≤ (aA : Int) := zA
    have aM : aA < (aC.size : Int) := zA
    have aV := Uq aC aA
    replace aK := eq_true aK
    replace aM := eq_true aM
    go_wp2
    go_ret2
    exact ⟨zE, zB⟩
   replace H := Z8 H
   rcases H with ⟨c18, H⟩ | ⟨c18, H⟩
   ·have aW : decide (57 < (bt aC aA)) = true := decide_eq_true c18
    clear c18
    simp only [Option.some.injEq, Prod.mk.injEq] at H
    obtain ⟨rfl, rfl⟩ := H
    have aK : 0 ≤ (aA : Int) := zA
    have aM : aA < (aC.size : Int) := zA
    have aV := Uq aC aA
    replace aK := eq_true aK
    replace aM := eq_true aM
    have aX : 0 ≤ (aA : Int) := zA
    have aY : aA < (aC.size : Int) := zA
    have bJ := Uq aC aA
    replace aX := eq_true aX
    replace aY := eq_true aY
    go_wp2
    go_ret2
    exact ⟨zE, zB⟩
   have aW : decide (57 < (bt aC aA)) = false := decide_eq_false c18
   clear c18
   have H' := Qa.mk H; clear H
   have aK : 0 ≤ (aA : Int) := zA
   have aM : aA < (aC.size : Int) := zA
   have aV := Uq aC aA
   replace aK := eq_true aK
   replace aM := eq_true aM
   have aX : 0 ≤ (aA : Int) := zA
   have aY : aA < (aC.size : Int) := zA
   have bJ := Uq aC aA
   replace aX := eq_true aX
   replace aY := eq_true aY
   have bO : 0 ≤ (aA : Int) := zA
   have bP : aA < (aC.size : Int) := zA
   have bY := Uq aC aA
   replace bO := eq_true bO
   replace bP := eq_true bP
   go_wp2
   go_roundg k4
   case measure => have := HJ2.out; have := bF.out; have := bK.out; have := bM.out; omega
   case rel => exact ⟨(wrap64 ((wrap64 (10 * aH)) + (((bt aC aA) - 48) % 256))), (wrap64 (aA + 1)), zF, zF, H', ⟨by have := HJ2.out; have := bF.out; have := bK.out; have := bM.out; omega⟩, ⟨zB⟩⟩
  exact absurd H (by simp)
 by_cases c20 : aD = true
 ·subst c20
  replace H := (if_pos rfl).symm.trans H
  obtain ⟨aZ, bQ, H⟩ := zO H
  replace H := Zb H
  rcases H with ⟨bA, bB, H⟩ | ⟨cB, bA, bB, H⟩
  ·simp only [Option.some.injEq, Prod.mk.injEq] at H
   obtain ⟨rfl, rfl⟩ := H
   go_wp2_with (first | ((with_reducible refine Qd (f := 80) rfl ?_); refine zD (some 59) Tryz.func80 _ ((Q7.calls k4 (wrap64 (-aH)) aZ _ bQ.out).mono ?_); rintro e cK ⟨rfl, hb⟩; refine ⟨_, rfl, ?_⟩; replace HB := zX hb; (try clear hb)))
   go_ret2
   exact ⟨zE, zB⟩
  simp only [Option.some.injEq, Prod.mk.injEq] at H
  obtain ⟨rfl, rfl⟩ := H
  go_wp2_with (first | ((with_reducible refine Qd (f := 80) rfl ?_); refine zD (some 59) Tryz.func80 _ ((Q7.calls k4 (wrap64 (-aH)) aZ _ bQ.out).mono ?_); rintro e cO ⟨rfl, hb⟩; refine ⟨_, rfl, ?_⟩; replace HB := zX hb; (try clear hb)))
  go_ret2
  exact ⟨zE, zB⟩
 replace c20 := Bool.eq_false_iff.mpr c20
 subst c20
 replace H := (if_neg zFf).symm.trans H
 obtain ⟨bC, bR, H⟩ := zO H
 replace H := Zb H
 rcases H with ⟨bD, bE, H⟩ | ⟨cZ, bD, bE, H⟩
 ·simp only [Option.some.injEq, Prod.mk.injEq] at H
  obtain ⟨rfl, rfl⟩ := H
  go_wp2_with (first | ((with_reducible refine Qd (f := 80) rfl ?_); refine zD (some 59) Tryz.func80 _ ((Q7.calls k4 aH bC _ bR.out).mono ?_); rintro e dA ⟨rfl, hb⟩; refine ⟨_, rfl, ?_⟩; replace HB := zX hb; (try clear hb)))
  go_ret2
  exact ⟨zE, zB⟩
 simp only [Option.some.injEq, Prod.mk.injEq] at H
 obtain ⟨rfl, rfl⟩ := H
 go_wp2_with (first | ((with_reducible refine Qd (f := 80) rfl ?_); refine zD (some 59) Tryz.func80 _ ((Q7.calls k4 aH bC _ bR.out).mono ?_); rintro e dB ⟨rfl, hb⟩; refine ⟨_, rfl, ?_⟩; replace HB := zX hb; (try clear hb)))
 go_ret2
 exact ⟨zE, zB⟩
def J3.f (k : Nat) (a0 : ByteArray) : Option (Int × Bool) := (Qz.f k a0 12).bind fun aA => (some (aA.1, aA.2))
set_option maxHeartbeats 8000000 in
set_option maxRecDepth 100000 in
theorem J3.calls (k : Nat) (a0 : ByteArray) (r1 : Int) (r2 : Bool) (w : World) (h : J3.f k a0 = some (r1, r2)) :
  Calls Tryz.prog 77 #[.string a0] w fun e w' => e = .returned (.tuple #[.int .i64 r1, .bool r2]) ∧ Below w.heap.size w w' := by
 have HB := Qa.mk (Below.refl w.heap.size w)
 have H := h
 unfold J3.f at H
 clear h
 obtain ⟨⟨aA, aC⟩, A2, H⟩ := zO H
 replace H : (some (aA, aC)) = some (r1, r2) := H
 simp only [Option.some.injEq, Prod.mk.injEq] at H
 obtain ⟨rfl, rfl⟩ := H
 go_enter Tryz.func77, Tryz.ntmps77
 go_wp2_with (first | ((with_reducible refine Qd (f := 106) rfl ?_); refine zD (some 5) Tryz.func106 _ ((Qz.calls k a0 12 aA aC _ A2.out).mono ?_); rintro e w3 ⟨rfl, hb⟩; refine ⟨_, rfl, ?_⟩; replace HB := zX hb; (try clear hb)))
 go_ret2
 exact ⟨zE, zB⟩
def Ji.l0 : Nat → List (S48) → List ByteArray → Int → Option ((List (S48)) × Bool)
 | 0, _, _, _ => none
 | k + 1, x4, x5, x6 => if x6 < (x5.length : Int) then (if 0 ≤ x6 then ((Q6.f k (Yr ByteArray.empty x5 x6) 44).bind fun aA => (if (aA.length : Int) = 2 then (if 0 < (aA.length : Int) then ((J3.f k (Yr ByteArray.empty aA 0)).bind fun aC => (if 1 < (aA.length : Int) then ((J3.f k (Yr ByteArray.empty aA 1)).bind fun aD => (if aC.2 = true then (if aD.2 = true then (if x4.length < 8796093022208 then (Ji.l0 k (x4 ++ [(⟨aC.1, aD.1⟩ : S48)]) x5 (wrap64 (x6 + 1))) else (none)) else (some ((([] : List (S48))), false))) else (some ((([] : List (S48))), false)))) else (none))) else (none)) else (some ((([] : List (S48))), false)))) else (none)) else ((Qh.f k x4).bind fun aG => (if aG = true then (some (x4, true)) else (some ((([] : List (S48))), false))))
def Ji.f (k : Nat) (a0 : ByteArray) : Option ((List (S48)) × Bool) := (Q6.f k a0 32).bind fun aA => (Ji.l0 k (([] : List (S48))) aA 0)
set_option maxHeartbeats 8000000 in
set_option maxRecDepth 100000 in
theorem Ji.calls (k : Nat) (a0 : ByteArray) (r1 : List (S48)) (r2 : Bool) (w : World) (h : Ji.f k a0 = some (r1, r2)) :
  Calls Tryz.prog 33 #[.string a0] w fun e w' => ∃ eX : Value, e = .returned (.tuple #[eX, .bool r2]) ∧ Kd.R k48 48 w' w.heap.size (fun _ => True) eX r1 ∧ Below w.heap.size w w' := by
 have fE := Tryz.underlying48
 have HB := Qa.mk (Below.refl w.heap.size w)
 have H := h
 unfold Ji.f at H
 clear h
 generalize bN : (([] : List (S48)) : List (S48)) = dI at H
 have bO := Qa.mk bN.symm
 clear bN
 obtain ⟨aN, A2, H⟩ := zO H
 have H' := Qa.mk H; clear H
 go_enter Tryz.func33, Tryz.ntmps33
 go_wp2_with (first | ((with_reducible refine Qo (N := 12) rfl ?_); refine Kd.R_lit k48 _ 48 ?hg (N := 12) ?hd (xs := ([] : List (S48))) (inner := []) (ok := fun _ => True) (okp := fun _ => True) ?hr ?hp (fun _ hk => hk) trivial (Below.refl _ _) (Nat.le_refl _) (by simp) ?_; (case hd => rfl); (case hg => rfl); (case hr => first | (go_simp; done) | (go_simp; rfl)); (case hp => exact (J6.none _ _)); intro fF w3 cK hb hg_ hnew_; clear hg_ hnew_; (first | rw [← bO.out] at cK | (simp only [Int.reduceToNat] at cK; rw [← bO.out] at cK)); have bH := Qa.mk (Kd.R_lower cK (Ql zB)); replace HB := zX hb; clear hb cK) | ((with_reducible refine Qd (f := 76) rfl ?_); refine zD (some 14) Tryz.func76 _ ((Q6.calls k a0 32 aN _ A2.out).mono ?_); rintro e w5 ⟨dJ, rfl, ho0, hb⟩; refine ⟨_, rfl, ?_⟩; replace bH := zW bH.out hb; have cO := Qa.mk (Kd.R_lower ho0 (Ql zB)); replace HB := zX hb; (try clear hb); (try clear ho0)))
 go_loopg [4, 6] k (fun kq v4 v6 w' => ∃ (aW : List (S48)) (aJ : Int), v6 = .int .i64 aJ ∧ Qa (Ji.l0 kq aW aN aJ = some (r1, r2)) ∧ Qa (kq ≤ k) ∧ Qa (Kd.R k48 48 w' w.heap.size (fun _ => True) v4 aW) ∧ Qa (Kd.R Kd.string 9 w' w.heap.size (fun _ => True) dJ aN) ∧ Qa (Below w.heap.size w w'))
 case atStart => exact ⟨(dI), (0), zF, H', ⟨Nat.le_refl _⟩, ⟨zR bH.out⟩, ⟨zR cO.out⟩, ⟨zB⟩⟩
 case round =>
 clear H'
 obtain ⟨aW, aJ, rfl, HA, eY, aD, aC, HB⟩ := hrel
 cases gk with
 | zero => exact absurd HA.out (by simp [Ji.l0])
 | succ k1 =>
 have H := HA.out
 clear HA
 simp only [Ji.l0] at H
 replace H := Xg H
 rcases H with ⟨dK, H⟩ | ⟨dK, H⟩
 ·replace H := J9 H
  rcases H with ⟨fG, H⟩ | ⟨c7, H⟩
  ·obtain ⟨aG, A8, H⟩ := zO H
   replace H := Zb H
   rcases H with ⟨dL, dM, H⟩ | ⟨c9, dL, dM, H⟩
   ·replace H := Yc H
    rcases H with ⟨c10, eZ, H⟩ | ⟨c10, H⟩
    ·have fA : decide (0 < aG.length) = true := decide_eq_true (by omega)
     clear c10
     obtain ⟨⟨bA, dN⟩, dO, H⟩ := zO H
     dsimp only at H
     replace H := Yc H
     rcases H with ⟨c12, fB, H⟩ | ⟨c12, H⟩
     ·have fC : decide (1 < aG.length) = true := decide_eq_true (by omega)
      clear c12
      obtain ⟨⟨bB, cZ⟩, dP, H⟩ := zO H
      dsimp only at H
      by_cases c14 : dN = true
      ·subst c14
       replace H := (if_pos rfl).symm.trans H
       by_cases c15 : cZ = true
       ·subst c15
        replace H := (if_pos rfl).symm.trans H
        replace H := Z8 H
        rcases H with ⟨c16, H⟩ | ⟨c16, H⟩
        ·have dA := Qa.mk c16
         clear c16
         generalize bP : (aW ++ [(⟨bA, bB⟩ : S48)] : List (S48)) = dQ at H
         have dB := Qa.mk bP.symm
         clear bP
         have H' := Qa.mk H; clear H
         obtain ⟨fH, fI, dR⟩ := Kd.R_slice aC.out
         subst dR
         have aK : 0 ≤ (aJ : Int) := zA
         have aM : aJ < (aN.length : Int) := zA
         obtain ⟨bI, bC, aX⟩ := Kd.at_string (Kd.R_reads' aC.out).2.2 aJ aK aM
         cases bC
         replace aK := eq_true aK
         replace aM := eq_true aM
         go_wp2_with (first | ((with_reducible refine Qd (f := 76) rfl ?_); refine zD (some 25) Tryz.func76 _ ((Q6.calls k1 (Yr ByteArray.empty aN aJ) 44 aG _ A8.out).mono ?_); rintro e gX ⟨cB, rfl, ho0, hb⟩; refine ⟨_, rfl, ?_⟩; replace aD := zW aD.out hb; have aA := Qa.mk (Kd.R_lower (Kd.R_new' ho0 (Kd.R_lt (zR aC.out))) (Ql zB)); replace aC := Qa.mk (Kd.R_elder' (zR aC.out) (Kd.R_base ho0) hb); replace HB := zX hb; (try clear hb); (try clear ho0); obtain ⟨fJ, fK, dS⟩ := Kd.R_slice aA.out; subst dS; have aQ : 0 ≤ (0 : Int) := (by omega); have aT : 0 < (aG.length : Int) := zA; obtain ⟨aY, bJ, aH⟩ := Kd.at_string (Kd.R_reads' aA.out).2.2 0 aQ aT; cases bJ; have bQ : (0 < aG.length) = True := eq_true (by omega); (try rw [show ((0 : Int)).toNat = 0 from rfl] at aH); (try rw [Addr.add_zero'] at aH); replace aQ := eq_true aQ; replace aT := eq_true aT) | ((with_reducible refine Qd (f := 77) rfl ?_); refine zD (some 34) Tryz.func77 _ ((J3.calls k1 (Yr ByteArray.empty aG 0) bA true _ dO.out).mono ?_); rintro e gY ⟨rfl, hb⟩; refine ⟨_, rfl, ?_⟩; replace aD := zW aD.out hb; replace aC := zW aC.out hb; replace aA := zW aA.out hb; replace HB := zX hb; (try clear hb); have aU : 0 ≤ (1 : Int) := (by omega); have aV : 1 < (aG.length : Int) := zA; obtain ⟨aZ, bK, aI⟩ := Kd.at_string (Kd.R_reads' aA.out).2.2 1 aU aV; obtain rfl : aY = aZ := (by injection bK); (try simp only [show (1 : Int).toNat = 1 from rfl, Nat.reduceMul, Nat.reduceEqDiff, Go.Addr.add, ↓reduceIte] at aI); have bR : (1 < aG.length) = True := eq_true (by omega); (try rw [show ((1 : Int)).toNat = 1 from rfl] at aI); replace aU := eq_true aU; replace aV := eq_true aV) | ((with_reducible refine Qd (f := 77) rfl ?_); refine zD (some 41) Tryz.func77 _ ((J3.calls k1 (Yr ByteArray.empty aG 1) bB true _ dP.out).mono ?_); rintro e gZ ⟨rfl, hb⟩; refine ⟨_, rfl, ?_⟩; replace aD := zW aD.out hb; replace aC := zW aC.out hb; replace aA := zW aA.out hb; replace HB := zX hb; (try clear hb)) | ((with_reducible refine J5 (b := .append) (xs := #[.tmp 51, .tmp 55]) rfl ?_); at_builtin; refine Kd.R_append k48 (w0 := w) w.heap.size rfl (.tmp 51) (.tmp 55) 28 48 (.agg #[(.int .i64 0), (.int .i64 0)]) 16 rfl Tryz.underlying28 Yf rfl (by decide) (by omega) u4 aW (⟨bA, bB⟩ : S48) [.int .i64 bA, .int .i64 bB] (fun _ => True) (fun _ => False) rfl rfl ?aP (fun _ hk => hk.elim) ?aF ?aO ?aB ?aS ?aL ?_; (case aP => exact Z0 _ _ _ (⟨bA, bB⟩ : S48)); (case aB => exact zB); (case aF => exact (fun _ _ => trivial)); (case aO => exact (zR aD.out)); (case aS => exact (Ql zB)); (case aL => have := dA.out; omega); intro fM iA ho hb hg hat; rw [← dB.out] at ho; replace aC := Qa.mk (Kd.R_over' (zR aC.out) (Kd.R_typed (zR aD.out)) (by decide) hg); replace aA := Qa.mk (Kd.R_over' (zR aA.out) (Kd.R_typed (zR aD.out)) (by decide) hg); have dC := Qa.mk (ho); replace HB := Qa.mk (hb); clear aD; clear ho hb hg hat))
         go_roundg k1
         case measure => have := eY.out; omega
         case rel => exact ⟨(dQ), (wrap64 (aJ + 1)), zF, H', ⟨by have := eY.out; omega⟩, ⟨zR dC.out⟩, ⟨zR (Kd.R_mono aC.out (fun _ hk => trivial))⟩, ⟨zB⟩⟩
        exact absurd H (by simp)
       replace c15 := Bool.eq_false_iff.mpr c15
       subst c15
       replace H := (if_neg zFf).symm.trans H
       generalize bS : (([] : List (S48)) : List (S48)) = fO at H
       have bT := Qa.mk bS.symm
       clear bS
       simp only [Option.some.injEq, Prod.mk.injEq] at H
       obtain ⟨rfl, rfl⟩ := H
       obtain ⟨fP, fQ, dU⟩ := Kd.R_slice aC.out
       subst dU
       have aK : 0 ≤ (aJ : Int) := zA
       have aM : aJ < (aN.length : Int) := zA
       obtain ⟨bI, bC, aX⟩ := Kd.at_string (Kd.R_reads' aC.out).2.2 aJ aK aM
       cases bC
       replace aK := eq_true aK
       replace aM := eq_true aM
       go_wp2_with (first | ((with_reducible refine Qd (f := 76) rfl ?_); refine zD (some 25) Tryz.func76 _ ((Q6.calls k1 (Yr ByteArray.empty aN aJ) 44 aG _ A8.out).mono ?_); rintro e iB ⟨cB, rfl, ho0, hb⟩; refine ⟨_, rfl, ?_⟩; replace aD := zW aD.out hb; have aA := Qa.mk (Kd.R_lower (Kd.R_new' ho0 (Kd.R_lt (zR aC.out))) (Ql zB)); replace aC := Qa.mk (Kd.R_elder' (zR aC.out) (Kd.R_base ho0) hb); replace HB := zX hb; (try clear hb); (try clear ho0); obtain ⟨fT, fU, dV⟩ := Kd.R_slice aA.out; subst dV; have aQ : 0 ≤ (0 : Int) := (by omega); have aT : 0 < (aG.length : Int) := zA; obtain ⟨aY, bJ, aH⟩ := Kd.at_string (Kd.R_reads' aA.out).2.2 0 aQ aT; cases bJ; have bQ : (0 < aG.length) = True := eq_true (by omega); (try rw [show ((0 : Int)).toNat = 0 from rfl] at aH); (try rw [Addr.add_zero'] at aH); replace aQ := eq_true aQ; replace aT := eq_true aT) | ((with_reducible refine Qd (f := 77) rfl ?_); refine zD (some 34) Tryz.func77 _ ((J3.calls k1 (Yr ByteArray.empty aG 0) bA true _ dO.out).mono ?_); rintro e iC ⟨rfl, hb⟩; refine ⟨_, rfl, ?_⟩; replace aD := zW aD.out hb; replace aC := zW aC.out hb; replace aA := zW aA.out hb; replace HB := zX hb; (try clear hb); have aU : 0 ≤ (1 : Int) := (by omega); have aV : 1 < (aG.length : Int) := zA; obtain ⟨aZ, bK, aI⟩ := Kd.at_string (Kd.R_reads' aA.out).2.2 1 aU aV; obtain rfl : aY = aZ := (by injection bK); (try simp only [show (1 : Int).toNat = 1 from rfl, Nat.reduceMul, Nat.reduceEqDiff, Go.Addr.add, ↓reduceIte] at aI); have bR : (1 < aG.length) = True := eq_true (by omega); (try rw [show ((1 : Int)).toNat = 1 from rfl] at aI); replace aU := eq_true aU; replace aV := eq_true aV) | ((with_reducible refine Qd (f := 77) rfl ?_); refine zD (some 41) Tryz.func77 _ ((J3.calls k1 (Yr ByteArray.empty aG 1) bB false _ dP.out).mono ?_); rintro e iD ⟨rfl, hb⟩; refine ⟨_, rfl, ?_⟩; replace aD := zW aD.out hb; replace aC := zW aC.out hb; replace aA := zW aA.out hb; replace HB := zX hb; (try clear hb)) | ((with_reducible refine Qo (N := 50) rfl ?_); refine Kd.R_lit k48 _ 48 ?hg (N := 50) ?hd (xs := ([] : List (S48))) (inner := []) (ok := fun _ => True) (okp := fun _ => True) ?hr ?hp (fun _ hk => hk) trivial (Below.refl _ _) (Nat.le_refl _) (by simp) ?_; (case hd => rfl); (case hg => rfl); (case hr => first | (go_simp; done) | (go_simp; rfl)); (case hp => exact (J6.none _ _)); intro fV iE bD hb hg_ hnew_; clear hg_ hnew_; (first | rw [← bT.out] at bD | (simp only [Int.reduceToNat] at bD; rw [← bT.out] at bD)); replace aC := zW aC.out hb; replace aA := zW aA.out hb; have dD := Qa.mk (Kd.R_lower (Kd.R_new' bD (Kd.R_lt (zR aD.out))) (Ql zB)); replace aD := Qa.mk (Kd.R_elder' (zR aD.out) (Kd.R_base bD) hb); replace HB := zX hb; clear hb bD))
       go_ret2
       exact ⟨_, zE, zR (Kd.R_mono dD.out (fun _ hk => trivial)), zB⟩
      replace c14 := Bool.eq_false_iff.mpr c14
      subst c14
      replace H := (if_neg zFf).symm.trans H
      generalize bU : (([] : List (S48)) : List (S48)) = fZ at H
      have bV := Qa.mk bU.symm
      clear bU
      simp only [Option.some.injEq, Prod.mk.injEq] at H
      obtain ⟨rfl, rfl⟩ := H
      obtain ⟨gB, gD, dW⟩ := Kd.R_slice aC.out
      subst dW
      have aK : 0 ≤ (aJ : Int) := zA
      have aM : aJ < (aN.length : Int) := zA
      obtain ⟨bI, bC, aX⟩ := Kd.at_string (Kd.R_reads' aC.out).2.2 aJ aK aM
      cases bC
      replace aK := eq_true aK
      replace aM := eq_true aM
      go_wp2_with (first | ((with_reducible refine Qd (f := 76) rfl ?_); refine zD (some 25) Tryz.func76 _ ((Q6.calls k1 (Yr ByteArray.empty aN aJ) 44 aG _ A8.out).mono ?_); rintro e iF ⟨cB, rfl, ho0, hb⟩; refine ⟨_, rfl, ?_⟩; replace aD := zW aD.out hb; have aA := Qa.mk (Kd.R_lower (Kd.R_new' ho0 (Kd.R_lt (zR aC.out))) (Ql zB)); replace aC := Qa.mk (Kd.R_elder' (zR aC.out) (Kd.R_base ho0) hb); replace HB := zX hb; (try clear hb); (try clear ho0); obtain ⟨gF, gG, dX⟩ := Kd.R_slice aA.out; subst dX; have aQ : 0 ≤ (0 : Int) := (by omega); have aT : 0 < (aG.length : Int) := zA; obtain ⟨aY, bJ, aH⟩ := Kd.at_string (Kd.R_reads' aA.out).2.2 0 aQ aT; cases bJ; have bQ : (0 < aG.length) = True := eq_true (by omega); (try rw [show ((0 : Int)).toNat = 0 from rfl] at aH); (try rw [Addr.add_zero'] at aH); replace aQ := eq_true aQ; replace aT := eq_true aT) | ((with_reducible refine Qd (f := 77) rfl ?_); refine zD (some 34) Tryz.func77 _ ((J3.calls k1 (Yr ByteArray.empty aG 0) bA false _ dO.out).mono ?_); rintro e iG ⟨rfl, hb⟩; refine ⟨_, rfl, ?_⟩; replace aD := zW aD.out hb; replace aC := zW aC.out hb; replace aA := zW aA.out hb; replace HB := zX hb; (try clear hb); have aU : 0 ≤ (1 : Int) := (by omega); have aV : 1 < (aG.length : Int) := zA; obtain ⟨aZ, bK, aI⟩ := Kd.at_string (Kd.R_reads' aA.out).2.2 1 aU aV; obtain rfl : aY = aZ := (by injection bK); (try simp only [show (1 : Int).toNat = 1 from rfl, Nat.reduceMul, Nat.reduceEqDiff, Go.Addr.add, ↓reduceIte] at aI); have bR : (1 < aG.length) = True := eq_true (by omega); (try rw [show ((1 : Int)).toNat = 1 from rfl] at aI); replace aU := eq_true aU; replace aV := eq_true aV) | ((with_reducible refine Qd (f := 77) rfl ?_); refine zD (some 41) Tryz.func77 _ ((J3.calls k1 (Yr ByteArray.empty aG 1) bB cZ _ dP.out).mono ?_); rintro e iH ⟨rfl, hb⟩; refine ⟨_, rfl, ?_⟩; replace aD := zW aD.out hb; replace aC := zW aC.out hb; replace aA := zW aA.out hb; replace HB := zX hb; (try clear hb)) | ((with_reducible refine Qo (N := 50) rfl ?_); refine Kd.R_lit k48 _ 48 ?hg (N := 50) ?hd (xs := ([] : List (S48))) (inner := []) (ok := fun _ => True) (okp := fun _ => True) ?hr ?hp (fun _ hk => hk) trivial (Below.refl _ _) (Nat.le_refl _) (by simp) ?_; (case hd => rfl); (case hg => rfl); (case hr => first | (go_simp; done) | (go_simp; rfl)); (case hp => exact (J6.none _ _)); intro gH iI bE hb hg_ hnew_; clear hg_ hnew_; (first | rw [← bV.out] at bE | (simp only [Int.reduceToNat] at bE; rw [← bV.out] at bE)); replace aC := zW aC.out hb; replace aA := zW aA.out hb; have dE := Qa.mk (Kd.R_lower (Kd.R_new' bE (Kd.R_lt (zR aD.out))) (Ql zB)); replace aD := Qa.mk (Kd.R_elder' (zR aD.out) (Kd.R_base bE) hb); replace HB := zX hb; clear hb bE))
      go_ret2
      exact ⟨_, zE, zR (Kd.R_mono dE.out (fun _ hk => trivial)), zB⟩
     exact absurd H (by simp)
    exact absurd H (by simp)
   generalize bW : (([] : List (S48)) : List (S48)) = gI at H
   have bX := Qa.mk bW.symm
   clear bW
   simp only [Option.some.injEq, Prod.mk.injEq] at H
   obtain ⟨rfl, rfl⟩ := H
   obtain ⟨gJ, gK, dY⟩ := Kd.R_slice aC.out
   subst dY
   have aK : 0 ≤ (aJ : Int) := zA
   have aM : aJ < (aN.length : Int) := zA
   obtain ⟨bI, bC, aX⟩ := Kd.at_string (Kd.R_reads' aC.out).2.2 aJ aK aM
   cases bC
   replace aK := eq_true aK
   replace aM := eq_true aM
   go_wp2_with (first | ((with_reducible refine Qd (f := 76) rfl ?_); refine zD (some 25) Tryz.func76 _ ((Q6.calls k1 (Yr ByteArray.empty aN aJ) 44 aG _ A8.out).mono ?_); rintro e iJ ⟨cB, rfl, ho0, hb⟩; refine ⟨_, rfl, ?_⟩; replace aD := zW aD.out hb; have aA := Qa.mk (Kd.R_lower (Kd.R_new' ho0 (Kd.R_lt (zR aC.out))) (Ql zB)); replace aC := Qa.mk (Kd.R_elder' (zR aC.out) (Kd.R_base ho0) hb); replace HB := zX hb; (try clear hb); (try clear ho0); obtain ⟨gL, gM, dZ⟩ := Kd.R_slice aA.out; subst dZ) | ((with_reducible refine Qo (N := 29) rfl ?_); refine Kd.R_lit k48 _ 48 ?hg (N := 29) ?hd (xs := ([] : List (S48))) (inner := []) (ok := fun _ => True) (okp := fun _ => True) ?hr ?hp (fun _ hk => hk) trivial (Below.refl _ _) (Nat.le_refl _) (by simp) ?_; (case hd => rfl); (case hg => rfl); (case hr => first | (go_simp; done) | (go_simp; rfl)); (case hp => exact (J6.none _ _)); intro gN iK bF hb hg_ hnew_; clear hg_ hnew_; (first | rw [← bX.out] at bF | (simp only [Int.reduceToNat] at bF; rw [← bX.out] at bF)); replace aC := zW aC.out hb; replace aA := zW aA.out hb; have dF := Qa.mk (Kd.R_lower (Kd.R_new' bF (Kd.R_lt (zR aD.out))) (Ql zB)); replace aD := Qa.mk (Kd.R_elder' (zR aD.out) (Kd.R_base bF) hb); replace HB := zX hb; clear hb bF))
   go_ret2
   exact ⟨_, zE, zR (Kd.R_mono dF.out (fun _ hk => trivial)), zB⟩
  exact absurd H (by simp)
 obtain ⟨eB, fD, H⟩ := zO H
 by_cases dH : eB = true
 ·subst dH
  replace H := (if_pos rfl).symm.trans H
  simp only [Option.some.injEq, Prod.mk.injEq] at H
  obtain ⟨rfl, rfl⟩ := H
  obtain ⟨gP, gQ, eD⟩ := Kd.R_slice aC.out
  subst eD
  obtain ⟨eF, eG, eH⟩ := Kd.R_slice aD.out
  subst eH
  go_wp2_with (first | ((with_reducible refine Qd (f := 46) rfl ?_); refine zD (some 58) Tryz.func46 #[.slice eF aW.length eG] ((Qh.calls k1 _ _ aW true _ ?bL ?bM fD.out).mono ?_); (case bL => exact zc ((Kd.R_reads' aD.out).2.2)); (case bM => exact (Kd.R_reads' aD.out).2.1); rintro e iL ⟨rfl, hb⟩; refine ⟨_, rfl, ?_⟩; replace aD := zW aD.out hb; replace aC := zW aC.out hb; replace HB := zX hb; (try clear hb)))
  go_ret2
  exact ⟨_, zE, zR aD.out, zB⟩
 replace dH := Bool.eq_false_iff.mpr dH
 subst dH
 replace H := (if_neg zFf).symm.trans H
 generalize bY : (([] : List (S48)) : List (S48)) = gT at H
 have bZ := Qa.mk bY.symm
 clear bY
 simp only [Option.some.injEq, Prod.mk.injEq] at H
 obtain ⟨rfl, rfl⟩ := H
 obtain ⟨gU, gV, eO⟩ := Kd.R_slice aC.out
 subst eO
 obtain ⟨eP, eQ, eU⟩ := Kd.R_slice aD.out
 subst eU
 go_wp2_with (first | ((with_reducible refine Qd (f := 46) rfl ?_); refine zD (some 58) Tryz.func46 #[.slice eP aW.length eQ] ((Qh.calls k1 _ _ aW false _ ?bL ?bM fD.out).mono ?_); (case bL => exact zc ((Kd.R_reads' aD.out).2.2)); (case bM => exact (Kd.R_reads' aD.out).2.1); rintro e iM ⟨rfl, hb⟩; refine ⟨_, rfl, ?_⟩; replace aD := zW aD.out hb; replace aC := zW aC.out hb; replace HB := zX hb; (try clear hb)) | ((with_reducible refine Qo (N := 60) rfl ?_); refine Kd.R_lit k48 _ 48 ?hg (N := 60) ?hd (xs := ([] : List (S48))) (inner := []) (ok := fun _ => True) (okp := fun _ => True) ?hr ?hp (fun _ hk => hk) trivial (Below.refl _ _) (Nat.le_refl _) (by simp) ?_; (case hd => rfl); (case hg => rfl); (case hr => first | (go_simp; done) | (go_simp; rfl)); (case hp => exact (J6.none _ _)); intro gW iN bG hb hg_ hnew_; clear hg_ hnew_; (first | rw [← bZ.out] at bG | (simp only [Int.reduceToNat] at bG; rw [← bZ.out] at bG)); replace aC := zW aC.out hb; have dG := Qa.mk (Kd.R_lower (Kd.R_new' bG (Kd.R_lt (zR aD.out))) (Ql zB)); replace aD := Qa.mk (Kd.R_elder' (zR aD.out) (Kd.R_base bG) hb); replace HB := zX hb; clear hb bG))
 go_ret2
 exact ⟨_, zE, zR (Kd.R_mono dG.out (fun _ hk => trivial)), zB⟩
def Ju.f (k : Nat) (l0 : List Int) : Option ((List (S48)) × Int) := (Jm.f k l0).bind fun aA => ((J4.f k aA.1 aA.2.1 aA.2.2).bind fun aC => ((J7.f aA.1 aC.2.1 aC.2.2 (([0, 1, (-1), 2, 5, 100, 101] : List Int))).bind fun aD => (some (aC.1, aD.1))))
theorem jG7 {p q : Prop} (g : p) (h : p → q := by intro zg_; repeat (first | (with_reducible first | exact zg_ | apply Qw | apply Qs | apply Qp) | exact zg_)) : q := h g
theorem Ux {p q : Prop} (g : p) (h : p → q := by intro zg_; repeat (first | (with_reducible first | exact zg_ | apply Qe.alloc | apply Qe.drewN | apply Qe.drew | apply Qe.set_1 | apply Qe.set_2) | exact zg_)) : q := h g
theorem jEa {p q p0 : Prop} (g : p) (g0 : p0) (h : p → p0 → q := by intro zg_ aA; repeat (first | (with_reducible first | exact zg_ | apply Qw | apply Qs | apply Qp | refine Q5 ?_ aA) | exact zg_)) : q := h g g0
set_option maxHeartbeats 8000000 in
set_option maxRecDepth 100000 in
theorem Ju.calls (k : Nat) (A0 : Option Addr) (c0 : Nat) (l0 : List Int) (r1 : List (S48)) (r2 : Int) (w : World) (hr0 : Kd.C (Kd.int .u8) w A0 l0.length l0) (hc0 : l0.length ≤ c0) (h : Ju.f k l0 = some (r1, r2)) :
  Calls Tryz.prog 34 #[.slice A0 l0.length c0] w fun e w' => ∃ bE : Value, e = .returned (.tuple #[bE, .int .i64 r2]) ∧ Kd.R k48 48 w' w.heap.size (fun _ => True) bE r1 ∧ Below w.heap.size w w' := by
 have bJ := Qa.mk hr0
 have bK := Qa.mk hc0
 clear hr0 hc0
 have HB := Qa.mk (Below.refl w.heap.size w)
 have H := h
 unfold Ju.f at H
 clear h
 obtain ⟨⟨aI, aU, aV⟩, A2, H⟩ := zO H
 dsimp only at H
 obtain ⟨⟨aW, aM, aN⟩, A3, H⟩ := zO H
 dsimp only at H
 generalize aQ : (([0, 1, (-1), 2, 5, 100, 101] : List Int) : List Int) = aX at H
 have aT := Qa.mk aQ.symm
 clear aQ
 obtain ⟨⟨aY, bC, bD⟩, A4, H⟩ := zO H
 replace H : (some (aW, aY)) = some (r1, r2) := H
 simp only [Option.some.injEq, Prod.mk.injEq] at H
 obtain ⟨rfl, rfl⟩ := H
 go_enter Tryz.func34, Tryz.ntmps34
 go_wp2_with (first | ((with_reducible refine Qd (f := 49) rfl ?_); refine zD (some 6) Tryz.func49 #[.slice A0 l0.length c0] ((Jm.calls k _ _ l0 aI aU aV w _ ?aG ?aH ?aJ A2.out).mono ?_); (case aG => exact (jG7 HB.out)); (case aH => exact bJ.out); (case aJ => exact bK.out); rintro e w5 ⟨aK, rfl, hi, hb, hb2⟩; refine ⟨_, rfl, ?_⟩; have aA := Qa.mk (hi); replace HB := Qa.mk (hb); (try clear hb); (try clear hb2); (try clear hi)) | ((with_reducible refine Qd (f := 54) rfl ?_); refine zD (some 8) Tryz.func54 _ ((J4.calls k aK aI aU aV aW aM aN w _ ?aG ?aH A3.out).mono ?_); (case aG => exact (Ux aA.out)); (case aH => exact (jEa HB.out (Qe.ge aA.out))); rintro e w6 ⟨bL, rfl, ho0, hi, hb, hk⟩; refine ⟨_, rfl, ?_⟩; have aC := Qa.mk (Kd.R_lower ho0 (Ql (zG (Qe.ge aA.out)))); replace aA := Qa.mk (hi); replace HB := Qa.mk (hb); (try clear hb); (try clear hk); (try clear hi); (try clear ho0)) | ((with_reducible refine Qo (N := 10) rfl ?_); refine Kd.R_lit (Kd.int .i64) _ 3 ?hg (N := 10) ?hd (xs := ([0, 1, (-1), 2, 5, 100, 101] : List Int)) (inner := [.int .i64 0, .int .i64 1, .int .i64 (-1), .int .i64 2, .int .i64 5, .int .i64 100, .int .i64 101]) (ok := fun _ => True) (okp := fun _ => True) ?hr ?hp (fun _ hk => hk) trivial (Below.refl _ _) (Nat.le_refl _) (by simp) ?_; (case hd => rfl); (case hg => rfl); (case hr => first | (go_simp; done) | (go_simp; rfl)); (case hp => exact (J6.one (show Kd.M (Kd.int .i64) _ _ _ 0 [.int .i64 0] from rfl) (J6.one (show Kd.M (Kd.int .i64) _ _ _ 1 [.int .i64 1] from rfl) (J6.one (show Kd.M (Kd.int .i64) _ _ _ (-1) [.int .i64 (-1)] from rfl) (J6.one (show Kd.M (Kd.int .i64) _ _ _ 2 [.int .i64 2] from rfl) (J6.one (show Kd.M (Kd.int .i64) _ _ _ 5 [.int .i64 5] from rfl) (J6.one (show Kd.M (Kd.int .i64) _ _ _ 100 [.int .i64 100] from rfl) (J6.one (show Kd.M (Kd.int .i64) _ _ _ 101 [.int .i64 101] from rfl) (J6.none _ _))))))))); intro bM w7 aZ hb hg_ hnew_; clear hg_ hnew_; (first | rw [← aT.out] at aZ | (simp only [Int.reduceToNat] at aZ; rw [← aT.out] at aZ)); have bF := zW aC.out hb; have bG := Qa.mk (Kd.R_lower aZ (Ql (zG (Qe.ge aA.out)))); have bH := Qa.mk (Qe.below (Ux aA.out) hb); have bI := Qa.mk (Qk (zG (Qe.ge aA.out)) hb); clear aC; clear aA; clear HB; have aC := bF; have aD := bG; have aA := bH; have HB := bI; clear bF bG bH bI; clear hb aZ; obtain ⟨bN, bO, bP⟩ := Kd.R_slice aD.out; subst bP) | ((with_reducible refine Qd (f := 88) rfl ?_); refine zD (some 11) Tryz.func88 #[.pointer (some ⟨aK, 0, none⟩), .slice bN aX.length bO] ((J7.calls aK aI aM aN _ _ aX aY bC bD w _ ?aG ?aH ?aJ ?bA ?bB A4.out).mono ?_); (case aG => exact (Ux aA.out)); (case aH => exact (jEa HB.out (Qe.ge aA.out))); (case aJ => exact zc ((Kd.R_reads' aD.out).2.2)); (case bA => exact (Kd.R_reads' aD.out).2.1); (case bB => exact Km (Qe.own_ne aA.out aD.out (by decide))); rintro e bQ ⟨rfl, hi, hb, hk⟩; refine ⟨_, rfl, ?_⟩; replace aC := Qa.mk (Kd.R_mono (Kd.R_keep (Qe.apart (show Qe w _ aK aI aM aN from (Ux aA.out)) (zR aC.out) (by decide)) hk (fun _ h => h.2)) (fun _ h => h.1)); replace aD := Qa.mk (Kd.R_mono (Kd.R_keep (Qe.apart (show Qe w _ aK aI aM aN from (Ux aA.out)) (zR aD.out) (by decide)) hk (fun _ h => h.2)) (fun _ h => h.1)); replace aA := Qa.mk (hi); replace HB := Qa.mk (hb); (try clear hb); (try clear hk); (try clear hi)))
 go_ret2
 exact ⟨_, zE, zR aC.out, zG (Qe.ge aA.out)⟩
end Go.Proofs.YtckkfjdkaimmhaaGreatDoor.PX
