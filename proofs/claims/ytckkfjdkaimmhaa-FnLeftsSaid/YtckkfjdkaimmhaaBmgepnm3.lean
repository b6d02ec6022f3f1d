/- A part of proofs about signs and points: what some functions answer, and that their calls answer so. No condition. -/
import Derived.Test.YtckkfjdkaimmhaaProg
import Derived.Test.YtckkfjdkaimmhaaV1
import Derived.Test.YtckkfjdkaimmhaaBmgepnm1
import Derived.Test.YtckkfjdkaimmhaaBmgepnm2
set_option linter.unusedVariables false
set_option linter.unusedSimpArgs false
namespace Go.Proofs.Ytckkfjdkaimmhaa.PX
open Go.RowKit Go.Proofs.Ytckkfjdkaimmhaa.G Go.Proofs.YtckkfjdkaimmhaaW.PrintWords Go.Proofs.YtckkfjdkaimmhaaW.PrintLast Go.Proofs.YtckkfjdkaimmhaaW.PrintMore
attribute [local go_sem] max2_int min2_int Yd Yg Xh Xf Xq Xp   -- for this text's walks alone
set_option linter.unusedVariables false
set_option linter.unusedSimpArgs false
def Xl.f (k : Nat) (aH : List Int) (aI : Int) (aJ : Int) : Option (Int × ByteArray × Int × Int) := (Zl.f k aH aI aJ).bind fun aA => ((Jz.f aH aA.2.2.1 aA.2.2.2 18).bind fun aC => (if aC.1 = 0 then ((Y0.f aH aC.2.1 aC.2.2 (([2, 8, 4, 5] : List Int))).bind fun aG => (some (aG.1, aA.2.1, aG.2.1, aG.2.2))) else (if aC.1 = 1 then ((Y7.f aH aC.2.1 aC.2.2 (([(⟨#[43]⟩ : ByteArray), (⟨#[48]⟩ : ByteArray)] : List ByteArray))).bind fun aD => (if aA.2.1.size + aD.1.size ≤ 9223372036854775807 then (some (aA.1, aA.2.1 ++ aD.1, aD.2.1, aD.2.2)) else (none))) else (some (aA.1, aA.2.1, aC.2.1, aC.2.2)))))
def Xl.T6 : Bool × List (List Nat × List Nat) := (true, [([], []), ([0], [0]), ([], []), ([], []), ([2, 3], [2, 3]), ([1, 4], [1, 4]), ([0, 1, 2, 3, 4, 5], []), ([6, 5, 4, 0, 1, 2, 3, 4, 5], [5, 6])])
def Xl.B6 : List Nat := [0, 1, 0, 0, 12, 31, 63, 127]
theorem Xl.tab6 : Uc .any (opsOf Try.f141 6) = Xl.T6 := by kernel_rfl
theorem Xl.bits6 : X6 Xl.T6.2 Xl.B6 = true := by kernel_rfl
theorem jAy {p q : Prop} (g : p) (h : p → q := by intro zg_; repeat (first | (with_reducible first | exact zg_ | apply Qc.alloc | apply Qc.drewN | apply Qc.drew | apply Qc.set_1 | apply Qc.set_2) | exact zg_)) : q := h g
theorem jAz {p q : Prop} (g : p) (h : p → q := by intro zg_; repeat (first | (with_reducible first | exact zg_ | apply Qg.set_ | apply Xn | apply Xj | apply Xm) | exact zg_)) : q := h g
theorem Uw {p q p0 : Prop} (g : p) (g0 : p0) (h : p → p0 → q := by intro zg_ aA; repeat (first | (with_reducible first | exact zg_ | apply Qc.alloc | apply Qc.drewN | apply Qc.drew | apply Qc.set_1 | apply Qc.set_2 | refine Qc.far ?_ aA _) | exact zg_)) : q := h g g0
theorem jKm {p q p0 p1 : Prop} (g : p) (g0 : p0) (g1 : p1) (h : p → p0 → p1 → q := by intro zg_ aA aC; repeat (first | (with_reducible first | exact zg_ | apply Jq | apply Jh | apply Qt | refine Jt ?_ aA | refine Jt ?_ aC) | exact zg_)) : q := h g g0 g1
theorem Us {p q p0 : Prop} (g : p) (g0 : p0) (h : p → p0 → q := by intro zg_ aA; repeat (first | (with_reducible first | exact zg_ | apply Qg.set_ | apply Xn | apply Xj | apply Xm | refine Vp ?_ aA _) | exact zg_)) : q := h g g0
theorem Uu {p q p0 p1 : Prop} (g : p) (g0 : p0) (g1 : p1) (h : p → p0 → p1 → q := by intro zg_ aA aC; repeat (first | (with_reducible first | exact zg_ | apply Qc.alloc | apply Qc.drewN | apply Qc.drew | apply Qc.set_1 | apply Qc.set_2 | refine Qc.far ?_ aA _ | refine Qc.far ?_ aC _) | exact zg_)) : q := h g g0 g1
theorem jFy {p q p0 p1 p2 : Prop} (g : p) (g0 : p0) (g1 : p1) (g2 : p2) (h : p → p0 → p1 → p2 → q := by intro zg_ aA aC aD; repeat (first | (with_reducible first | exact zg_ | apply Jq | apply Jh | apply Qt | refine Jt ?_ aA | refine Jt ?_ aC | refine Jt ?_ aD) | exact zg_)) : q := h g g0 g1 g2
theorem Ut {p q p0 p1 : Prop} (g : p) (g0 : p0) (g1 : p1) (h : p → p0 → p1 → q := by intro zg_ aA aC; repeat (first | (with_reducible first | exact zg_ | apply Qg.set_ | apply Xn | apply Xj | apply Xm | refine Vp ?_ aA _ | refine Vp ?_ aC _) | exact zg_)) : q := h g g0 g1
set_option maxHeartbeats 8000000 in
set_option maxRecDepth 100000 in
theorem Xl.calls (k : Nat) (g : Nat) (aT : List Int) (bC : Int) (bD : Int) (r1 : Int) (r2 : ByteArray) (r3 : Int) (r4 : Int) (w0 w : World) (hI : Qc w0 w g aT bC bD) (hB : Below w0.heap.size w0 w) (h : Xl.f k aT bC bD = some (r1, r2, r3, r4)) :
  Calls Try.prog 141 #[.pointer (some ⟨g, 0, none⟩)] w fun e w' => e = .returned (.agg #[.int .i64 r1, .string r2]) ∧ Qc w0 w' g aT r3 r4 ∧ Below w0.heap.size w0 w' ∧ Qg w w' g none := by
 have iD := Try.underlying25
 have HI0 := Qa.mk hI
 have HK := Qa.mk (Qg.refl w g none)
 have HL := Qa.mk hB.size
 clear hI
 have HW0 := Qa.mk hB.size
 have HB := Qa.mk hB
 clear hB
 have H := h
 unfold Xl.f at H
 clear h
 obtain ⟨⟨bM, aZ, bA, bB⟩, A2, H⟩ := zO H
 dsimp only at H
 obtain ⟨⟨cZ, bQ, bR⟩, A3, H⟩ := zO H
 dsimp only at H
 replace H := Zi H
 rcases H with ⟨fJ, fK, H⟩ | ⟨c4, fJ, fK, H⟩
 ·generalize bX : (([2, 8, 4, 5] : List Int) : List Int) = dC at H
  have bY := Qa.mk bX.symm
  clear bX
  obtain ⟨⟨dA, dD, dE⟩, A5, H⟩ := zO H
  replace H : (some (dA, aZ, dD, dE)) = some (r1, r2, r3, r4) := H
  simp only [Option.some.injEq, Prod.mk.injEq] at H
  obtain ⟨rfl, rfl, rfl, rfl⟩ := H
  go_enter Try.func141, Try.ntmps141
  go_wp2_with (first | ((with_reducible refine Qf (N := 2) rfl ?_); refine zBx (N := 2) #[.int .i64 0, .string (⟨#[]⟩ : ByteArray)] 25 ?_; intro aJ hg w6 hbox hb; have bE := Qa.mk (Qc.below (jAy HI0.out) hb); have bF := Qa.mk (Qg.trans (jAz HK.out) (Qg.of_below hb g none) (.inl rfl)); have bG := Qa.mk (Qz (zG (Qc.ge HI0.out)) hb); have bH := Qa.mk (hbox); have bI := Qa.mk ((by rw [hg]; exact (J6 (w := w) (g := g) (row := none) (jAz HK.out)) : w.heap.size ≤ aJ)); have bJ := Qa.mk ((Nat.le_trans HW0.out (by rw [hg]; exact (J6 (w := w) (g := g) (row := none) (jAz HK.out)) : w.heap.size ≤ aJ) : w0.heap.size ≤ aJ)); have bN := Qa.mk ((by rw [hg]; exact Nat.ne_of_lt (Qc.lt (show Qc w0 _ g aT bC bD from (jAy HI0.out))) : g ≠ aJ)); have bO := Qa.mk ((by rw [hg]; exact Nat.ne_of_gt (Qc.lt (show Qc w0 _ g aT bC bD from (jAy HI0.out))) : aJ ≠ g)); clear HI0; clear HK; clear HB; have HI0 := bE; have HK := bF; have HB := bG; have aC := bH; have aI := bI; have aN := bJ; have aA := bN; have aM := bO; clear bE bF bG bH bI bJ bN bO; clear hb hbox hg) | ((with_reducible refine Qb (f := 154) rfl ?_); refine zD (some 5) Try.func154 _ ((Zl.calls k g aT bC bD bM aZ bA bB w0 _ ?aV ?aW A2.out).mono ?_); (case aV => exact (Uw HI0.out aA.out)); (case aW => exact (jKm HB.out (Qc.ge HI0.out) aN.out)); rintro e w7 ⟨rfl, hi, hb, hk⟩; refine ⟨_, rfl, ?_⟩; replace aC := zKB hk aC.out aM.out; replace HK := Qa.mk (Qg.trans (Us HK.out aI.out) hk (.inl rfl)); replace HI0 := Qa.mk (hi); replace HB := Qa.mk (hb); (try clear hb); (try clear hk); (try clear hi)) | ((with_reducible refine Qf (N := 3) rfl ?_); refine zBx (N := 3) #[.int .i64 0, .string (⟨#[]⟩ : ByteArray)] 25 ?_; intro aK hg w8 hbox hb; have bE := Qa.mk (Qc.below (Uw HI0.out aA.out) hb); have bF := zV aC.out hb; have bG := Qa.mk (Qg.trans (Us HK.out aI.out) (Qg.of_below hb g none) (.inl rfl)); have bH := Qa.mk (Qz (zG2 (Qc.ge HI0.out) aN.out) hb); have bI := Qa.mk (hbox); have bJ := Qa.mk ((by rw [hg]; exact (J6 (w := w) (g := g) (row := none) (Us HK.out aI.out)) : w.heap.size ≤ aK)); have bN := Qa.mk ((Nat.le_trans HW0.out (by rw [hg]; exact (J6 (w := w) (g := g) (row := none) (Us HK.out aI.out)) : w.heap.size ≤ aK) : w0.heap.size ≤ aK)); have bO := zL hg aC.out; have bZ := zLg hg aC.out; have cB := Qa.mk ((by rw [hg]; exact Nat.ne_of_lt (Qc.lt (show Qc w0 _ g aT bA bB from (Uw HI0.out aA.out))) : g ≠ aK)); have bP := Qa.mk ((by rw [hg]; exact Nat.ne_of_gt (Qc.lt (show Qc w0 _ g aT bA bB from (Uw HI0.out aA.out))) : aK ≠ g)); clear HI0; clear aC; clear HK; clear HB; have HI0 := bE; have aC := bF; have HK := bG; have HB := bH; have aG := bI; have aX := bJ; have aY := bN; have aD := bO; have aU := bZ; have aH := cB; have aQ := bP; clear bE bF bG bH bI bJ bN bO bZ cB bP; clear hb hbox hg; have iE := aU.out; have iF := aD.out; have fZ := aQ.out; have gB := aH.out; obtain ⟨dJ, dK, dL, dM⟩ := zq2 aG.out) | ((with_reducible refine Qb (f := 125) rfl ?_); refine zD (some 7) Try.func125 _ ((Jz.calls g aT bA bB 18 cZ bQ bR w0 _ ?aV ?aW A3.out).mono ?_); (case aV => exact (Uu HI0.out aA.out aH.out)); (case aW => exact (jFy HB.out (Qc.ge HI0.out) aN.out aY.out)); rintro e iO ⟨rfl, hi, hb, hk⟩; refine ⟨_, rfl, ?_⟩; replace aC := Qa.mk (Qg.blk hk (g' := aJ) (o := .cells #[.int .i64 0, .string (⟨#[]⟩ : ByteArray)] 25 (0, 0)) (zk2 aC.out aD.out aD.out) aM.out (by simp)); replace aG := Qa.mk (Qg.blk hk (g' := aK) (o := .cells #[.int .i64 bM, .string aZ] 25 (0, 0)) (zk0 aG.out) aQ.out (by simp)); replace HK := Qa.mk (Qg.trans (Ut HK.out aI.out aX.out) hk (.inl rfl)); replace HI0 := Qa.mk (hi); replace HB := Qa.mk (hb); (try clear hb); (try clear hk); (try clear hi)) | ((with_reducible refine Qf (N := 11) rfl ?_); refine Kd.R_lit (Kd.int .i64) _ 3 ?hg (N := 11) ?hd (xs := ([2, 8, 4, 5] : List Int)) (inner := [.int .i64 2, .int .i64 8, .int .i64 4, .int .i64 5]) (ok := fun _ => True) (okp := fun _ => True) ?hr ?hp (fun _ hk => hk) trivial (Below.refl _ _) (Nat.le_refl _) (by simp) ?_; (case hd => rfl); (case hg => rfl); (case hr => first | (go_simp; done) | (go_simp; rfl)); (case hp => exact (Xb.one (show Kd.M (Kd.int .i64) _ _ _ 2 [.int .i64 2] from rfl) (Xb.one (show Kd.M (Kd.int .i64) _ _ _ 8 [.int .i64 8] from rfl) (Xb.one (show Kd.M (Kd.int .i64) _ _ _ 4 [.int .i64 4] from rfl) (Xb.one (show Kd.M (Kd.int .i64) _ _ _ 5 [.int .i64 5] from rfl) (Xb.none _ _)))))); intro iG iP bS hb hg_ hnew_; clear hg_ hnew_; (first | rw [← bY.out] at bS | (simp only [Int.reduceToNat] at bS; rw [← bY.out] at bS)); have bE := Qa.mk (Kd.R_lower bS (J6 (w := w) (g := g) (row := none) (Ut HK.out aI.out aX.out))); have bF := Qa.mk (Qc.below (Uu HI0.out aA.out aH.out) hb); have bG := zV aC.out hb; have bH := zV aG.out hb; have bI := Qa.mk (Qg.trans (Ut HK.out aI.out aX.out) (Qg.of_below hb g none) (.inl rfl)); have bJ := Qa.mk (Qz (zG3 (Qc.ge HI0.out) aN.out aY.out) hb); clear HI0; clear aC; clear aG; clear HK; clear HB; have bK := bE; have HI0 := bF; have aC := bG; have aG := bH; have HK := bI; have HB := bJ; clear bE bF bG bH bI bJ; clear hb bS; obtain ⟨fM, fO, fP⟩ := Kd.R_slice bK.out; subst fP) | ((with_reducible refine Qb (f := 126) rfl ?_); refine zD (some 12) Try.func126 #[.pointer (some ⟨g, 0, none⟩), .slice fM dC.length fO] ((Y0.calls g aT bQ bR _ _ dC dA dD dE w0 _ ?aV ?aW ?bT ?bU ?bV A5.out).mono ?_); (case aV => exact (Uu HI0.out aA.out aH.out)); (case aW => exact (jFy HB.out (Qc.ge HI0.out) aN.out aY.out)); (case bT => exact zc ((Kd.R_reads' bK.out).2.2)); (case bU => exact (Kd.R_reads' bK.out).2.1); (case bV => exact jCv (Qc.own_ne HI0.out bK.out (by decide))); rintro e w16 ⟨rfl, hi, hb, hk⟩; refine ⟨_, rfl, ?_⟩; replace aC := zKB hk aC.out aM.out; replace aG := zKB hk aG.out aQ.out; replace bK := Qa.mk (Kd.R_mono (Kd.R_keep (Qc.apart (show Qc w0 _ g aT bQ bR from (Uu HI0.out aA.out aH.out)) (zR bK.out) (by decide)) hk (fun _ h => h.2)) (fun _ h => h.1)); replace HK := Qa.mk (Qg.trans (Ut HK.out aI.out aX.out) hk (.inl rfl)); replace HI0 := Qa.mk (hi); replace HB := Qa.mk (hb); (try clear hb); (try clear hk); (try clear hi); obtain ⟨dN, dO, dP, dQ⟩ := zq2 aG.out; have gD := aM.out; have gF := aA.out; obtain ⟨dR, dS, dU, dV⟩ := zq2 aC.out))
  refine bodyPost_ret (results_cell_row rfl _ _ aJ 25 #[.int .i64 dA, .string aZ] (0, 0) _ rfl (zk1 aC.out aD.out) Try.underlying25 rfl (by kernel_rfl)) rfl ?_
  exact ⟨zE, (Uu HI0.out aA.out aH.out), zG3 (Qc.ge HI0.out) aN.out aY.out, (Ut HK.out aI.out aX.out)⟩
 replace H := Zi H
 rcases H with ⟨dF, dG, H⟩ | ⟨c20, dF, dG, H⟩
 ·generalize cK : (([(⟨#[43]⟩ : ByteArray), (⟨#[48]⟩ : ByteArray)] : List ByteArray) : List ByteArray) = dH at H
  have cO := Qa.mk cK.symm
  clear cK
  obtain ⟨⟨dB, fQ, fT⟩, iH, H⟩ := zO H
  dsimp only at H
  replace H := U1 H
  rcases H with ⟨gG, gH, gJ, H⟩ | ⟨gG, H⟩
  ·try have gK : (9223372036854775807 < aZ.size + dB.size) = False := eq_false (Nat.not_lt.2 gG)
   simp only [Option.some.injEq, Prod.mk.injEq] at H
   obtain ⟨rfl, rfl, rfl, rfl⟩ := H
   go_enter Try.func141, Try.ntmps141
   try go_wp2_with (first | ((with_reducible refine Qf (N := 2) rfl ?_); refine zBx (N := 2) #[.int .i64 0, .string (⟨#[]⟩ : ByteArray)] 25 ?_; intro aJ hg iQ hbox hb; have bE := Qa.mk (Qc.below (jAy HI0.out) hb); have bF := Qa.mk (Qg.trans (jAz HK.out) (Qg.of_below hb g none) (.inl rfl)); have bG := Qa.mk (Qz (zG (Qc.ge HI0.out)) hb); have bH := Qa.mk (hbox); have bI := Qa.mk ((by rw [hg]; exact (J6 (w := w) (g := g) (row := none) (jAz HK.out)) : w.heap.size ≤ aJ)); have bJ := Qa.mk ((Nat.le_trans HW0.out (by rw [hg]; exact (J6 (w := w) (g := g) (row := none) (jAz HK.out)) : w.heap.size ≤ aJ) : w0.heap.size ≤ aJ)); have bN := Qa.mk ((by rw [hg]; exact Nat.ne_of_lt (Qc.lt (show Qc w0 _ g aT bC bD from (jAy HI0.out))) : g ≠ aJ)); have bO := Qa.mk ((by rw [hg]; exact Nat.ne_of_gt (Qc.lt (show Qc w0 _ g aT bC bD from (jAy HI0.out))) : aJ ≠ g)); clear HI0; clear HK; clear HB; have HI0 := bE; have HK := bF; have HB := bG; have aC := bH; have aI := bI; have aN := bJ; have aA := bN; have aM := bO; clear bE bF bG bH bI bJ bN bO; clear hb hbox hg) | ((with_reducible refine Qb (f := 154) rfl ?_); refine zD (some 5) Try.func154 _ ((Zl.calls k g aT bC bD bM aZ bA bB w0 _ ?aV ?aW A2.out).mono ?_); (case aV => exact (Uw HI0.out aA.out)); (case aW => exact (jKm HB.out (Qc.ge HI0.out) aN.out)); rintro e iR ⟨rfl, hi, hb, hk⟩; refine ⟨_, rfl, ?_⟩; replace aC := zKB hk aC.out aM.out; replace HK := Qa.mk (Qg.trans (Us HK.out aI.out) hk (.inl rfl)); replace HI0 := Qa.mk (hi); replace HB := Qa.mk (hb); (try clear hb); (try clear hk); (try clear hi)) | ((with_reducible refine Qf (N := 3) rfl ?_); refine zBx (N := 3) #[.int .i64 0, .string (⟨#[]⟩ : ByteArray)] 25 ?_; intro aK hg iT hbox hb; have bE := Qa.mk (Qc.below (Uw HI0.out aA.out) hb); have bF := zV aC.out hb; have bG := Qa.mk (Qg.trans (Us HK.out aI.out) (Qg.of_below hb g none) (.inl rfl)); have bH := Qa.mk (Qz (zG2 (Qc.ge HI0.out) aN.out) hb); have bI := Qa.mk (hbox); have bJ := Qa.mk ((by rw [hg]; exact (J6 (w := w) (g := g) (row := none) (Us HK.out aI.out)) : w.heap.size ≤ aK)); have bN := Qa.mk ((Nat.le_trans HW0.out (by rw [hg]; exact (J6 (w := w) (g := g) (row := none) (Us HK.out aI.out)) : w.heap.size ≤ aK) : w0.heap.size ≤ aK)); have bO := zL hg aC.out; have bZ := zLg hg aC.out; have cB := Qa.mk ((by rw [hg]; exact Nat.ne_of_lt (Qc.lt (show Qc w0 _ g aT bA bB from (Uw HI0.out aA.out))) : g ≠ aK)); have bP := Qa.mk ((by rw [hg]; exact Nat.ne_of_gt (Qc.lt (show Qc w0 _ g aT bA bB from (Uw HI0.out aA.out))) : aK ≠ g)); clear HI0; clear aC; clear HK; clear HB; have HI0 := bE; have aC := bF; have HK := bG; have HB := bH; have aG := bI; have aX := bJ; have aY := bN; have aD := bO; have aU := bZ; have aH := cB; have aQ := bP; clear bE bF bG bH bI bJ bN bO bZ cB bP; clear hb hbox hg; have gL := aU.out; have gM := aD.out; have gN := aQ.out; have gP := aH.out; obtain ⟨dW, dX, dY, dZ⟩ := zq2 aG.out) | ((with_reducible refine Qb (f := 125) rfl ?_); refine zD (some 7) Try.func125 _ ((Jz.calls g aT bA bB 18 cZ bQ bR w0 _ ?aV ?aW A3.out).mono ?_); (case aV => exact (Uu HI0.out aA.out aH.out)); (case aW => exact (jFy HB.out (Qc.ge HI0.out) aN.out aY.out)); rintro e iI ⟨rfl, hi, hb, hk⟩; refine ⟨_, rfl, ?_⟩; replace aC := Qa.mk (Qg.blk hk (g' := aJ) (o := .cells #[.int .i64 0, .string (⟨#[]⟩ : ByteArray)] 25 (0, 0)) (zk2 aC.out aD.out aD.out) aM.out (by simp)); replace aG := Qa.mk (Qg.blk hk (g' := aK) (o := .cells #[.int .i64 bM, .string aZ] 25 (0, 0)) (zk0 aG.out) aQ.out (by simp)); replace HK := Qa.mk (Qg.trans (Ut HK.out aI.out aX.out) hk (.inl rfl)); replace HI0 := Qa.mk (hi); replace HB := Qa.mk (hb); (try clear hb); (try clear hk); (try clear hi)))
   replace aC := Qa.mk (Jo aC.out)
   replace aG := Qa.mk (Jo aG.out)
   replace HI0 := Qa.mk (Qc.drew HI0.out)
   replace HK := Qa.mk (Xj HK.out)
   replace HB := Qa.mk (Qt HB.out)
   refine Ya (n := 8) (S := fun w' => w'.cell? ⟨aK, 0, none⟩ = some (.int .i64 bM) ∧ w'.cell? ⟨aK, 1, none⟩ = some (.string aZ)) (ds := [7]) #[false, false, false, false, false, false, false, false] (by kernel_rfl) rfl rfl ⟨(Qo aG.out 0).trans rfl, (Qo aG.out 1).trans rfl⟩ (fun hHeld => ?_); refine Z0 Xl.tab6 Xl.bits6 (fun HT_ HW_ => ?_)
   generalize iI.drew = iU at aC aG HI0 HK HB hHeld ⊢
   refine zP 0 (some 16) rfl rfl ?_
   refine zP 2 (some 18) rfl rfl ?_
   refine zY2 1 (some 17) rfl rfl hHeld ?_
   refine zU 3 (some 19) rfl rfl (fun K hK => ?_)
   refine Kd.R_lit_step Kd.string _ 9 ?hg (N := 19) ?hd (xs := ([(⟨#[43]⟩ : ByteArray), (⟨#[48]⟩ : ByteArray)] : List ByteArray)) (inner := [.string (⟨#[43]⟩ : ByteArray), .string (⟨#[48]⟩ : ByteArray)]) (ok := fun _ => True) (okp := fun _ => True) ?hr ?hp (fun _ hk => hk) trivial (Below.refl _ _) (Nat.le_refl _) (by simp) ?_; (case hd => rfl); (case hg => rfl); (case hr => first | (go_simp; done) | (go_simp; rfl)); (case hp => exact (Xb.one (show Kd.M Kd.string _ _ _ (⟨#[43]⟩ : ByteArray) [.string (⟨#[43]⟩ : ByteArray)] from rfl) (Xb.one (show Kd.M Kd.string _ _ _ (⟨#[48]⟩ : ByteArray) [.string (⟨#[48]⟩ : ByteArray)] from rfl) (Xb.none _ _))))
   intro v222 iV bW hb hg_ hnew_
   clear hg_ hnew_
   (first | rw [← cO.out] at bW | (simp only [Int.reduceToNat] at bW; rw [← cO.out] at bW))
   have bE := Qa.mk (Kd.R_lower bW (J6 (w := w) (g := g) (row := none) (Ut HK.out aI.out aX.out)))
   have bF := Qa.mk (Qc.below (Uu HI0.out aA.out aH.out) hb)
   have bG := zV aC.out hb
   have bH := zV aG.out hb
   have bI := Qa.mk (Qg.trans (Ut HK.out aI.out aX.out) (Qg.of_below hb g none) (.inl rfl))
   have bJ := Qa.mk (Qz (zG3 (Qc.ge HI0.out) aN.out aY.out) hb)
   clear HI0
   clear aC
   clear aG
   clear HK
   clear HB
   have bL := bE
   have HI0 := bF
   have aC := bG
   have aG := bH
   have HK := bI
   have HB := bJ
   clear bE bF bG bH bI bJ
   clear hb bW
   obtain ⟨fU, fV, dI⟩ := Kd.R_slice bL.out
   (first | subst dI | (injection dI with gQ iJ gT; have iK := gQ.symm; have iL := gT.symm; clear gQ iJ gT; subst iK; subst iL))
   refine hK.out _ _ (zh2 aG.out) (fun hHeld => ?_)
   clear hK K
   refine zN ?_
   refine zU 4 (some 20) rfl rfl (fun K hK => ?_)
   refine Xx Try.func155 (by kernel_rfl) rfl #[.pointer (some ⟨g, 0, none⟩), .slice fU dH.length fV] (by rfl) rfl rfl zM ?_
   with_reducible refine (Y7.calls g aT bQ bR _ _ dH dB fQ fT w0 _ ?aV ?aW ?bT ?bU ?bV iH.out).mono ?_
   (case aV => exact (Uu HI0.out aA.out aH.out))
   (case aW => exact (jFy HB.out (Qc.ge HI0.out) aN.out aY.out))
   (case bT => exact zc ((Kd.R_reads' bL.out).2.2))
   (case bU => exact (Kd.R_reads' bL.out).2.1)
   (case bV => exact jCv (Qc.own_ne HI0.out bL.out (by decide)))
   rintro e iM ⟨rfl, hi, hb, hk⟩
   refine ⟨_, rfl, ?_⟩
   replace aC := zKB hk aC.out aM.out
   replace aG := zKB hk aG.out aQ.out
   replace bL := Qa.mk (Kd.R_mono (Kd.R_keep (Qc.apart (show Qc w0 _ g aT bQ bR from (Uu HI0.out aA.out aH.out)) (zR bL.out) (by decide)) hk (fun _ h => h.2)) (fun _ h => h.1))
   replace HK := Qa.mk (Qg.trans (Ut HK.out aI.out aX.out) hk (.inl rfl))
   replace HI0 := Qa.mk (hi)
   replace HB := Qa.mk (hb)
   (try clear hb)
   (try clear hk)
   (try clear hi)
   refine hK.out _ _ (zh2 aG.out) (fun hHeld => ?_)
   clear hK K
   refine zN ?_
   refine zP 5 (some 21) rfl rfl ?_
   refine zP 6 (some 22) rfl rfl ?_
   refine jJs (i := 7) (N := none) #[true, true, true, true, true, true, true, true] rfl rfl (jHq HT_.out (by kernel_rfl)) (by decide) (fun K hK => ?_)
   have iN : iM.cell? ⟨aK, 1, none⟩ = some (.string aZ) := (Qo aG.out 1).trans rfl
   have gU := Zd aG.out 1
   have eB := aD.out
   have eD := aU.out
   refine jEr (w1 := ?_) (by rfl) rfl ?_ ?_
   rotate_left
   ·go_simp
    rfl
   refine hK.out _ _ ?_
   clear hK K
   refine Vh (Xu HT_.out (by kernel_rfl)) ?_
   obtain ⟨eF, eG, eH, eO⟩ := zq2 aG.out
   have gV := aM.out
   have gW := aA.out
   obtain ⟨eP, eQ, eT, eU⟩ := zq2 aC.out
   try go_wp2
   refine bodyPost_ret (results_cell_row rfl _ _ aJ 25 #[.int .i64 bM, .string (aZ ++ dB)] (0, 0) _ rfl (zk1 aC.out aD.out) Try.underlying25 rfl (by kernel_rfl)) rfl ?_
   exact ⟨zE, (Uu HI0.out aA.out aH.out), zG3 (Qc.ge HI0.out) aN.out aY.out, (Ut HK.out aI.out aX.out)⟩
  exact absurd H (by simp)
 simp only [Option.some.injEq, Prod.mk.injEq] at H
 obtain ⟨rfl, rfl, rfl, rfl⟩ := H
 go_enter Try.func141, Try.ntmps141
 go_wp2_with (first | ((with_reducible refine Qf (N := 2) rfl ?_); refine zBx (N := 2) #[.int .i64 0, .string (⟨#[]⟩ : ByteArray)] 25 ?_; intro aJ hg iW hbox hb; have bE := Qa.mk (Qc.below (jAy HI0.out) hb); have bF := Qa.mk (Qg.trans (jAz HK.out) (Qg.of_below hb g none) (.inl rfl)); have bG := Qa.mk (Qz (zG (Qc.ge HI0.out)) hb); have bH := Qa.mk (hbox); have bI := Qa.mk ((by rw [hg]; exact (J6 (w := w) (g := g) (row := none) (jAz HK.out)) : w.heap.size ≤ aJ)); have bJ := Qa.mk ((Nat.le_trans HW0.out (by rw [hg]; exact (J6 (w := w) (g := g) (row := none) (jAz HK.out)) : w.heap.size ≤ aJ) : w0.heap.size ≤ aJ)); have bN := Qa.mk ((by rw [hg]; exact Nat.ne_of_lt (Qc.lt (show Qc w0 _ g aT bC bD from (jAy HI0.out))) : g ≠ aJ)); have bO := Qa.mk ((by rw [hg]; exact Nat.ne_of_gt (Qc.lt (show Qc w0 _ g aT bC bD from (jAy HI0.out))) : aJ ≠ g)); clear HI0; clear HK; clear HB; have HI0 := bE; have HK := bF; have HB := bG; have aC := bH; have aI := bI; have aN := bJ; have aA := bN; have aM := bO; clear bE bF bG bH bI bJ bN bO; clear hb hbox hg) | ((with_reducible refine Qb (f := 154) rfl ?_); refine zD (some 5) Try.func154 _ ((Zl.calls k g aT bC bD bM aZ bA bB w0 _ ?aV ?aW A2.out).mono ?_); (case aV => exact (Uw HI0.out aA.out)); (case aW => exact (jKm HB.out (Qc.ge HI0.out) aN.out)); rintro e iX ⟨rfl, hi, hb, hk⟩; refine ⟨_, rfl, ?_⟩; replace aC := zKB hk aC.out aM.out; replace HK := Qa.mk (Qg.trans (Us HK.out aI.out) hk (.inl rfl)); replace HI0 := Qa.mk (hi); replace HB := Qa.mk (hb); (try clear hb); (try clear hk); (try clear hi)) | ((with_reducible refine Qf (N := 3) rfl ?_); refine zBx (N := 3) #[.int .i64 0, .string (⟨#[]⟩ : ByteArray)] 25 ?_; intro aK hg iY hbox hb; have bE := Qa.mk (Qc.below (Uw HI0.out aA.out) hb); have bF := zV aC.out hb; have bG := Qa.mk (Qg.trans (Us HK.out aI.out) (Qg.of_below hb g none) (.inl rfl)); have bH := Qa.mk (Qz (zG2 (Qc.ge HI0.out) aN.out) hb); have bI := Qa.mk (hbox); have bJ := Qa.mk ((by rw [hg]; exact (J6 (w := w) (g := g) (row := none) (Us HK.out aI.out)) : w.heap.size ≤ aK)); have bN := Qa.mk ((Nat.le_trans HW0.out (by rw [hg]; exact (J6 (w := w) (g := g) (row := none) (Us HK.out aI.out)) : w.heap.size ≤ aK) : w0.heap.size ≤ aK)); have bO := zL hg aC.out; have bZ := zLg hg aC.out; have cB := Qa.mk ((by rw [hg]; exact Nat.ne_of_lt (Qc.lt (show Qc w0 _ g aT bA bB from (Uw HI0.out aA.out))) : g ≠ aK)); have bP := Qa.mk ((by rw [hg]; exact Nat.ne_of_gt (Qc.lt (show Qc w0 _ g aT bA bB from (Uw HI0.out aA.out))) : aK ≠ g)); clear HI0; clear aC; clear HK; clear HB; have HI0 := bE; have aC := bF; have HK := bG; have HB := bH; have aG := bI; have aX := bJ; have aY := bN; have aD := bO; have aU := bZ; have aH := cB; have aQ := bP; clear bE bF bG bH bI bJ bN bO bZ cB bP; clear hb hbox hg; have gX := aU.out; have gY := aD.out; have gZ := aQ.out; have iA := aH.out; obtain ⟨eX, eY, eZ, fA⟩ := zq2 aG.out) | ((with_reducible refine Qb (f := 125) rfl ?_); refine zD (some 7) Try.func125 _ ((Jz.calls g aT bA bB 18 cZ bQ bR w0 _ ?aV ?aW A3.out).mono ?_); (case aV => exact (Uu HI0.out aA.out aH.out)); (case aW => exact (jFy HB.out (Qc.ge HI0.out) aN.out aY.out)); rintro e iZ ⟨rfl, hi, hb, hk⟩; refine ⟨_, rfl, ?_⟩; replace aC := Qa.mk (Qg.blk hk (g' := aJ) (o := .cells #[.int .i64 0, .string (⟨#[]⟩ : ByteArray)] 25 (0, 0)) (zk2 aC.out aD.out aD.out) aM.out (by simp)); replace aG := Qa.mk (Qg.blk hk (g' := aK) (o := .cells #[.int .i64 bM, .string aZ] 25 (0, 0)) (zk0 aG.out) aQ.out (by simp)); replace HK := Qa.mk (Qg.trans (Ut HK.out aI.out aX.out) hk (.inl rfl)); replace HI0 := Qa.mk (hi); replace HB := Qa.mk (hb); (try clear hb); (try clear hk); (try clear hi); obtain ⟨fB, fC, fD, fE⟩ := zq2 aG.out; have iB := aM.out; have iC := aA.out; obtain ⟨fF, fG, fH, fI⟩ := zq2 aC.out))
 refine bodyPost_ret (results_cell_row rfl _ _ aJ 25 #[.int .i64 bM, .string aZ] (0, 0) _ rfl (zk0 aC.out) Try.underlying25 rfl (by kernel_rfl)) rfl ?_
 exact ⟨zE, (Uu HI0.out aA.out aH.out), zG3 (Qc.ge HI0.out) aN.out aY.out, (Ut HK.out aI.out aX.out)⟩
mutual
def Q0.l0 : Nat → Int → Int → Int → ByteArray → Int → ByteArray → Option (Int × ByteArray)
 | 0, _, _, _, _, _, _ => none
 | k + 1, x1, x6, aA, aG, aC, aD => if x6 < aA then (Q0.l1 k x1 x6 (wrap64 (x6 + 1)) aA aG aC aD) else (some (aC, aD))
def Q0.l1 : Nat → Int → Int → Int → Int → ByteArray → Int → ByteArray → Option (Int × ByteArray)
 | 0, _, _, _, _, _, _, _ => none
 | k + 1, x1, x6, x7, aA, aC, aD, aG => if x7 < aA then (Q0.l2 k x1 x6 x7 (wrap64 (x7 + 1)) aA aC aD aG) else (Q0.l0 k x1 (wrap64 (x6 + 1)) aA aC aD aG)
def Q0.l2 : Nat → Int → Int → Int → Int → Int → ByteArray → Int → ByteArray → Option (Int × ByteArray)
 | 0, _, _, _, _, _, _, _, _ => none
 | k + 1, x1, x6, x7, x8, aA, aD, aG, aC => if x8 < aA then ((Jp.f k aA aD x6 x7 x8).bind fun aH => (if 0 ≤ (IntKind.u64.wrap (x6)) then (if 0 ≤ (IntKind.u64.wrap (x7)) then (if 0 ≤ (IntKind.u64.wrap (x8)) then (if (Go.bits .and .i64 (wrap64 ((wrap64 ((shr .i64 x1 (IntKind.u64.wrap (x6))) + (shr .i64 x1 (IntKind.u64.wrap (x7))))) + (shr .i64 x1 (IntKind.u64.wrap (x8))))) 1) = 1 then ((Xd.f (wrap64 (-aH))).bind fun aI => (if aC.size + aI.size ≤ 9223372036854775807 then (Q0.l2 k x1 x6 x7 (wrap64 (x8 + 1)) aA aD aG (aC ++ aI)) else (none))) else ((Xd.f aH).bind fun aJ => (if aC.size + aJ.size ≤ 9223372036854775807 then (Q0.l2 k x1 x6 x7 (wrap64 (x8 + 1)) aA aD aG (aC ++ aJ)) else (none)))) else (none)) else (none)) else (none))) else (Q0.l1 k x1 x6 (wrap64 (x7 + 1)) aA aD aG aC)
end
def Q0.f (k : Nat) (aA : Int) (aC : ByteArray) (a1 : Int) : Option (Int × ByteArray) := Q0.l0 k a1 0 aA aC aA (⟨#[]⟩ : ByteArray)
set_option maxHeartbeats 8000000 in
set_option maxRecDepth 100000 in
theorem Q0.calls (k : Nat) (aQ : Int) (aZ : ByteArray) (a1 : Int) (r1 : Int) (r2 : ByteArray) (w : World) (h : Q0.f k aQ aZ a1 = some (r1, r2)) :
  Calls Try.prog 90 #[.agg #[.int .i64 aQ, .string aZ], .int .i64 a1] w fun e w' => e = .returned (.agg #[.int .i64 r1, .string r2]) ∧ Below w.heap.size w w' := by
 have jD := Try.underlying25
 have HB := Qa.mk (Below.refl w.heap.size w)
 have H := h
 unfold Q0.f at H
 clear h
 have H' := Qa.mk H; clear H
 go_enter Try.func90, Try.ntmps90
 go_wp2_with (first | ((with_reducible refine Qf (N := 2) rfl ?_); refine zBx (N := 2) #[.int .i64 aQ, .string aZ] 25 ?_; intro bU hg w3 hbox hb; have aA := Qa.mk (hbox); have gB := zS hg; have aN := zS hg; replace HB := zX hb; clear hb hbox hg) | ((with_reducible refine Qf (N := 4) rfl ?_); refine zBx (N := 4) #[.int .i64 0, .string (⟨#[]⟩ : ByteArray)] 25 ?_; intro bO hg w4 hbox hb; have aH := Qa.mk (hbox); have gD := zSg hg (zG aN.out); have aT := zSg hg (zG aN.out); have aJ := zL hg aA.out; have aK := zLg hg aA.out; replace aA := zV aA.out hb; replace HB := zX1 aN.out hb; clear hb hbox hg; have jE := aJ.out; have jF := aK.out; obtain ⟨bK, bL, bM, bN⟩ := zq2 aA.out) | ((with_reducible refine Qf (N := 5) rfl ?_); refine zBx (N := 5) #[.int .i64 0, .string (⟨#[]⟩ : ByteArray)] 25 ?_; intro aY hg w7 hbox hb; have aD := Qa.mk (hbox); have gF := zSg hg (zG2 aN.out aT.out); have aX := zSg hg (zG2 aN.out aT.out); have aC := zL hg aA.out; have aI := zLg hg aA.out; replace aA := zV aA.out hb; have aM := zL hg aH.out; have aW := zLg hg aH.out; replace aH := zV aH.out hb; replace HB := Qa.mk (Qz (zG2 aN.out aT.out) hb); clear hb hbox hg; have jG := aI.out; have jH := aC.out; have jI := aW.out; have jJ := aM.out; obtain ⟨bB, bC, bD, bE⟩ := zq2 aD.out))
 go_loopg [6] k (fun kq v6 w' => ∃ (bA : Int) (aU : ByteArray), v6 = .int .i64 bA ∧ Qa (Q0.l0 kq a1 bA aQ aZ aQ aU = some (r1, r2)) ∧ Qa (kq ≤ k) ∧ Qa (w'.heap[bU]? = some (.cells #[.int .i64 aQ, .string aZ] 25 (0, 0))) ∧ Qa (w'.heap[bO]? = some (.cells #[.int .i64 0, .string (⟨#[]⟩ : ByteArray)] 25 (0, 0))) ∧ Qa (w'.heap[aY]? = some (.cells #[.int .i64 aQ, .string aU] 25 (0, 0))) ∧ Qa (Below w.heap.size w w'))
 case atStart => exact ⟨(0), ((⟨#[]⟩ : ByteArray)), zF, H', ⟨Nat.le_refl _⟩, ⟨zk2 aA.out aC.out aC.out⟩, ⟨zk2 aH.out aM.out aM.out⟩, ⟨zk0 aD.out⟩, ⟨zG3 aN.out aT.out aX.out⟩⟩
 case round =>
 clear H'
 try clear bB
 try clear bC
 try clear bK
 try clear bL
 try clear bD
 try clear bE
 try clear bM
 try clear bN
 obtain ⟨bA, aU, rfl, HA, cZ, aA, aH, aD, HB⟩ := hrel
 cases gk with
 | zero => exact absurd HA.out (by simp [Q0.l0])
 | succ k1 =>
 have H := HA.out
 clear HA
 simp only [Q0.l0] at H
 replace H := Z5 H
 rcases H with ⟨bV, H⟩ | ⟨bV, H⟩
 ·have H' := Qa.mk H; clear H
  have gG := aJ.out
  have gH := aK.out
  have gJ := aC.out
  have gK := aI.out
  obtain ⟨bP, bQ, bR, bS⟩ := zq2 aA.out
  go_wp2
  go_loopg [7] k1 (fun kq v7 w' => ∃ (bF : Int) (aV : ByteArray), v7 = .int .i64 bF ∧ Qa (Q0.l1 kq a1 bA bF aQ aZ aQ aV = some (r1, r2)) ∧ Qa (kq ≤ k1) ∧ Qa (w'.heap[bU]? = some (.cells #[.int .i64 aQ, .string aZ] 25 (0, 0))) ∧ Qa (w'.heap[bO]? = some (.cells #[.int .i64 0, .string (⟨#[]⟩ : ByteArray)] 25 (0, 0))) ∧ Qa (w'.heap[aY]? = some (.cells #[.int .i64 aQ, .string aV] 25 (0, 0))) ∧ Qa (Below w.heap.size w w'))
  case atStart => exact ⟨(wrap64 (bA + 1)), (aU), zF, H', ⟨Nat.le_refl _⟩, ⟨zK aA.out⟩, ⟨zK aH.out⟩, ⟨zK aD.out⟩, ⟨zG3 aN.out aT.out aX.out⟩⟩
  case round =>
  clear H'
  try clear c11
  try clear bV
  try clear bB
  try clear bC
  try clear bP
  try clear bQ
  try clear bK
  try clear bL
  try clear bD
  try clear bE
  try clear bR
  try clear bS
  try clear bM
  try clear bN
  obtain ⟨bF, aV, rfl, HA, dA, aA, aH, aD, HB⟩ := hrel
  cases gk with
  | zero => exact absurd HA.out (by simp [Q0.l1])
  | succ k2 =>
  have H := HA.out
  clear HA
  simp only [Q0.l1] at H
  replace H := Z5 H
  rcases H with ⟨dB, H⟩ | ⟨dB, H⟩
  ·have H' := Qa.mk H; clear H
   have gL := aJ.out
   have gM := aK.out
   have gN := aC.out
   have gP := aI.out
   obtain ⟨bZ, cB, cK, cO⟩ := zq2 aA.out
   go_wp2
   go_loopg [8] k2 (fun kq v8 w' => ∃ (bG : Int) (aG : ByteArray), v8 = .int .i64 bG ∧ Qa (Q0.l2 kq a1 bA bF bG aQ aZ aQ aG = some (r1, r2)) ∧ Qa (kq ≤ k2) ∧ Qa (w'.heap[bU]? = some (.cells #[.int .i64 aQ, .string aZ] 25 (0, 0))) ∧ Qa (w'.heap[bO]? = some (.cells #[.int .i64 0, .string (⟨#[]⟩ : ByteArray)] 25 (0, 0))) ∧ Qa (w'.heap[aY]? = some (.cells #[.int .i64 aQ, .string aG] 25 (0, 0))) ∧ Qa (Below w.heap.size w w'))
   case atStart => exact ⟨(wrap64 (bF + 1)), (aV), zF, H', ⟨Nat.le_refl _⟩, ⟨zK aA.out⟩, ⟨zK aH.out⟩, ⟨zK aD.out⟩, ⟨zG3 aN.out aT.out aX.out⟩⟩
   case round =>
   clear H'
   try clear c11
   try clear bV
   try clear c15
   try clear dB
   try clear bB
   try clear bC
   try clear bP
   try clear bQ
   try clear bZ
   try clear cB
   try clear bK
   try clear bL
   try clear bD
   try clear bE
   try clear bR
   try clear bS
   try clear cK
   try clear cO
   try clear bM
   try clear bN
   obtain ⟨bG, aG, rfl, HA, dF, aA, aH, aD, HB⟩ := hrel
   cases gk with
   | zero => exact absurd HA.out (by simp [Q0.l2])
   | succ k3 =>
   have H := HA.out
   clear HA
   simp only [Q0.l2] at H
   replace H := Z5 H
   rcases H with ⟨dG, H⟩ | ⟨dG, H⟩
   ·obtain ⟨bT, dC, H⟩ := zO H
    obtain ⟨dH, bW⟩ : ∃ j_ : Int, (IntKind.u64.wrap (bA)) = j_ := ⟨_, rfl⟩
    first | rw [bW] at H | simp only [bW] at H
    (try rw [bW] at dC)
    replace H := Xw H
    rcases H with ⟨gQ, gT, H⟩ | ⟨jS, H⟩
    ·obtain ⟨fK, bH⟩ : ∃ j_ : Int, (shr .i64 a1 (dH)) = j_ := ⟨_, rfl⟩
     first | rw [bH] at H | simp only [bH] at H
     (try rw [bH] at dC)
     have fM : (a1 / 2 ^ min (dH).toNat 64) = fK := bH
     have fO := U3 bH
     obtain ⟨dI, bX⟩ : ∃ j_ : Int, (IntKind.u64.wrap (bF)) = j_ := ⟨_, rfl⟩
     first | rw [bX] at H | simp only [bX] at H
     (try rw [bX] at dC)
     replace H := Xw H
     rcases H with ⟨gU, gV, H⟩ | ⟨jT, H⟩
     ·obtain ⟨fP, bI⟩ : ∃ j_ : Int, (shr .i64 a1 (dI)) = j_ := ⟨_, rfl⟩
      first | rw [bI] at H | simp only [bI] at H
      (try rw [bI] at dC)
      have fQ : (a1 / 2 ^ min (dI).toNat 64) = fP := bI
      have fT := U3 bI
      obtain ⟨dJ, bY⟩ : ∃ j_ : Int, (IntKind.u64.wrap (bG)) = j_ := ⟨_, rfl⟩
      first | rw [bY] at H | simp only [bY] at H
      (try rw [bY] at dC)
      replace H := Xw H
      rcases H with ⟨gW, gX, H⟩ | ⟨c28, H⟩
      ·obtain ⟨fU, bJ⟩ : ∃ j_ : Int, (shr .i64 a1 (dJ)) = j_ := ⟨_, rfl⟩
       first | rw [bJ] at H | simp only [bJ] at H
       (try rw [bJ] at dC)
       have fV : (a1 / 2 ^ min (dJ).toNat 64) = fU := bJ
       have fZ := U3 bJ
       replace H := Zi H
       rcases H with ⟨dK, dL, H⟩ | ⟨jU, dK, dL, H⟩
       ·obtain ⟨dD, jK, H⟩ := zO H
        replace H := U1 H
        rcases H with ⟨c32, gY, gZ, H⟩ | ⟨c32, H⟩
        ·try have iA : (9223372036854775807 < aG.size + dD.size) = False := eq_false (Nat.not_lt.2 c32)
         have H' := Qa.mk H; clear H
         have iB := aJ.out
         have iC := aK.out
         have iD := aC.out
         have iE := aI.out
         obtain ⟨dM, dN, dO, dP⟩ := zq2 aA.out
         try go_wp2_with (first | ((with_reducible refine Qb (f := 144) rfl ?_); refine zD (some 39) Try.func144 _ ((Jp.calls k3 aQ aZ bA bF bG bT _ dC.out).mono ?_); rintro e jL ⟨rfl, hb⟩; refine ⟨_, rfl, ?_⟩; replace aA := zV aA.out hb; replace aH := zV aH.out hb; replace aD := zV aD.out hb; replace HB := Qa.mk (Qz (zG3 aN.out aT.out aX.out) hb); (try clear hb)))
         replace aA := Qa.mk (Jo aA.out)
         replace aH := Qa.mk (Jo aH.out)
         replace aD := Qa.mk (Jo aD.out)
         replace HB := Qa.mk (Qt HB.out)
         refine Ya (n := 7) (S := fun w' => w'.cell? ⟨aY, 0, none⟩ = some (.int .i64 aQ) ∧ w'.cell? ⟨aY, 1, none⟩ = some (.string aG)) (ds := [6]) #[false, false, false, false, false, false, false] (by kernel_rfl) rfl rfl ⟨(Qo aD.out 0).trans rfl, (Qo aD.out 1).trans rfl⟩ (fun hHeld => ?_)
         generalize jL.drew = jM at aA aH aD HB hHeld ⊢
         refine Vr (i := 0) (N := some 58) (v := ?_) (a' := ?_) #[true, false, false, false, false, false, false] rfl rfl (by kernel_rfl) (fun _ _ _ h => h) (Or.inl ⟨by rfl, ?_⟩) ?_ ?_
         rotate_left
         ·intro w'
          go_simp
          with_reducible rfl
         rotate_left
         ·simp only [Act.put, List.setIfInBounds_toArray, List.set_cons_zero, List.set_cons_succ, Zu, Xo]
          rfl
         refine Vr (i := 2) (N := some 60) (v := ?_) (a' := ?_) #[true, false, true, false, false, false, false] rfl rfl (by kernel_rfl) (fun _ _ _ h => h) (Or.inl ⟨by rfl, ?_⟩) ?_ ?_
         rotate_left
         ·intro w'
          go_simp
          with_reducible rfl
         rotate_left
         ·simp only [Act.put, List.setIfInBounds_toArray, List.set_cons_zero, List.set_cons_succ, Zu, Xo]
          rfl
         refine take_ (i := 1) (N := some 59) (v := ?_) (a' := ?_) #[true, true, true, false, false, false, false] rfl rfl (by kernel_rfl) (fun _ _ _ h => h) (Or.inl ⟨by rfl, ?_⟩) hHeld ?_ ?_
         rotate_left
         ·rintro w' ⟨s0, s1⟩
          go_simp
          with_reducible rfl
         rotate_left
         ·simp only [Act.put, List.setIfInBounds_toArray, List.set_cons_zero, List.set_cons_succ, Zu, Xo]
          rfl
         refine jQp (i := 3) (N := some 61) #[true, true, true, true, false, false, false] rfl rfl (by kernel_rfl) (by decide) (fun K hK => ?_)
         refine Xx Try.func102 (by kernel_rfl) rfl #[.int .i64 (wrap64 (-bT))] (by rfl) rfl rfl zM ?_
         with_reducible refine (Xd.calls (wrap64 (-bT)) dD _ jK.out).mono ?_
         rintro e w' ⟨rfl, ⟨nd, rfl⟩⟩
         refine ⟨_, rfl, ?_⟩
         refine hK.out _ _ (zh2 aD.out) (fun hHeld => ?_)
         clear hK K
         refine zN ?_
         refine Vr (i := 4) (N := some 62) (v := ?_) (a' := ?_) #[true, true, true, true, true, false, false] rfl rfl (by kernel_rfl) (fun _ _ _ h => h) (Or.inl ⟨by rfl, ?_⟩) ?_ ?_
         rotate_left
         ·intro w'
          go_simp
          with_reducible rfl
         rotate_left
         ·simp only [Act.put, List.setIfInBounds_toArray, List.set_cons_zero, List.set_cons_succ, Zu, Xo]
          rfl
         refine Vr (i := 5) (N := some 63) (v := ?_) (a' := ?_) #[true, true, true, true, true, true, false] rfl rfl (by kernel_rfl) (fun _ _ _ h => h) (Or.inl ⟨by rfl, ?_⟩) ?_ ?_
         rotate_left
         ·intro w'
          go_simp
          with_reducible rfl
         rotate_left
         ·simp only [Act.put, List.setIfInBounds_toArray, List.set_cons_zero, List.set_cons_succ, Zu, Xo]
          rfl
         refine jJs (i := 6) (N := none) #[true, true, true, true, true, true, true] rfl rfl (by kernel_rfl) (by decide) (fun K hK => ?_)
         have jN : jM.cell? ⟨aY, 1, none⟩ = some (.string aG) := (Qo aD.out 1).trans rfl
         have iF := Zd aD.out 1
         have dQ := aC.out
         have dR := aM.out
         have dS := aI.out
         have dU := aW.out
         refine jEr (w1 := ?_) (by rfl) rfl ?_ ?_
         rotate_left
         ·go_simp
          rfl
         refine hK.out _ _ ?_
         clear hK K
         refine Vh (by kernel_rfl) ?_
         try go_wp2
         go_roundg k3
         case measure => have := cZ.out; have := dA.out; have := dF.out; omega
         case rel => exact ⟨(wrap64 (bG + 1)), (aG ++ dD), zF, H', ⟨by have := cZ.out; have := dA.out; have := dF.out; omega⟩, ⟨zk1 aA.out aC.out⟩, ⟨zk1 aH.out aM.out⟩, ⟨zk0 aD.out⟩, ⟨zG3 aN.out aT.out aX.out⟩⟩
        exact absurd H (by simp)
       obtain ⟨dE, jO, H⟩ := zO H
       replace H := U1 H
       rcases H with ⟨c40, iG, iH, H⟩ | ⟨c40, H⟩
       ·try have iI : (9223372036854775807 < aG.size + dE.size) = False := eq_false (Nat.not_lt.2 c40)
        have H' := Qa.mk H; clear H
        have iJ := aJ.out
        have iK := aK.out
        have iL := aC.out
        have iM := aI.out
        obtain ⟨dV, dW, dX, dY⟩ := zq2 aA.out
        try go_wp2_with (first | ((with_reducible refine Qb (f := 144) rfl ?_); refine zD (some 39) Try.func144 _ ((Jp.calls k3 aQ aZ bA bF bG bT _ dC.out).mono ?_); rintro e jP ⟨rfl, hb⟩; refine ⟨_, rfl, ?_⟩; replace aA := zV aA.out hb; replace aH := zV aH.out hb; replace aD := zV aD.out hb; replace HB := Qa.mk (Qz (zG3 aN.out aT.out aX.out) hb); (try clear hb)))
        replace aA := Qa.mk (Jo aA.out)
        replace aH := Qa.mk (Jo aH.out)
        replace aD := Qa.mk (Jo aD.out)
        replace HB := Qa.mk (Qt HB.out)
        refine Ya (n := 7) (S := fun w' => w'.cell? ⟨aY, 0, none⟩ = some (.int .i64 aQ) ∧ w'.cell? ⟨aY, 1, none⟩ = some (.string aG)) (ds := [6]) #[false, false, false, false, false, false, false] (by kernel_rfl) rfl rfl ⟨(Qo aD.out 0).trans rfl, (Qo aD.out 1).trans rfl⟩ (fun hHeld => ?_)
        generalize jP.drew = jQ at aA aH aD HB hHeld ⊢
        refine Vr (i := 0) (N := some 58) (v := ?_) (a' := ?_) #[true, false, false, false, false, false, false] rfl rfl (by kernel_rfl) (fun _ _ _ h => h) (Or.inl ⟨by rfl, ?_⟩) ?_ ?_
        rotate_left
        ·intro w'
         go_simp
         with_reducible rfl
        rotate_left
        ·simp only [Act.put, List.setIfInBounds_toArray, List.set_cons_zero, List.set_cons_succ, Zu, Xo]
         rfl
        refine Vr (i := 2) (N := some 60) (v := ?_) (a' := ?_) #[true, false, true, false, false, false, false] rfl rfl (by kernel_rfl) (fun _ _ _ h => h) (Or.inl ⟨by rfl, ?_⟩) ?_ ?_
        rotate_left
        ·intro w'
         go_simp
         with_reducible rfl
        rotate_left
        ·simp only [Act.put, List.setIfInBounds_toArray, List.set_cons_zero, List.set_cons_succ, Zu, Xo]
         rfl
        refine take_ (i := 1) (N := some 59) (v := ?_) (a' := ?_) #[true, true, true, false, false, false, false] rfl rfl (by kernel_rfl) (fun _ _ _ h => h) (Or.inl ⟨by rfl, ?_⟩) hHeld ?_ ?_
        rotate_left
        ·rintro w' ⟨s0, s1⟩
         go_simp
         with_reducible rfl
        rotate_left
        ·simp only [Act.put, List.setIfInBounds_toArray, List.set_cons_zero, List.set_cons_succ, Zu, Xo]
         rfl
        refine jQp (i := 3) (N := some 61) #[true, true, true, true, false, false, false] rfl rfl (by kernel_rfl) (by decide) (fun K hK => ?_)
        refine Xx Try.func102 (by kernel_rfl) rfl #[.int .i64 bT] (by rfl) rfl rfl zM ?_
        with_reducible refine (Xd.calls bT dE _ jO.out).mono ?_
        rintro e w' ⟨rfl, ⟨nd, rfl⟩⟩
        refine ⟨_, rfl, ?_⟩
        refine hK.out _ _ (zh2 aD.out) (fun hHeld => ?_)
        clear hK K
        refine zN ?_
        refine Vr (i := 4) (N := some 62) (v := ?_) (a' := ?_) #[true, true, true, true, true, false, false] rfl rfl (by kernel_rfl) (fun _ _ _ h => h) (Or.inl ⟨by rfl, ?_⟩) ?_ ?_
        rotate_left
        ·intro w'
         go_simp
         with_reducible rfl
        rotate_left
        ·simp only [Act.put, List.setIfInBounds_toArray, List.set_cons_zero, List.set_cons_succ, Zu, Xo]
         rfl
        refine Vr (i := 5) (N := some 63) (v := ?_) (a' := ?_) #[true, true, true, true, true, true, false] rfl rfl (by kernel_rfl) (fun _ _ _ h => h) (Or.inl ⟨by rfl, ?_⟩) ?_ ?_
        rotate_left
        ·intro w'
         go_simp
         with_reducible rfl
        rotate_left
        ·simp only [Act.put, List.setIfInBounds_toArray, List.set_cons_zero, List.set_cons_succ, Zu, Xo]
         rfl
        refine jJs (i := 6) (N := none) #[true, true, true, true, true, true, true] rfl rfl (by kernel_rfl) (by decide) (fun K hK => ?_)
        have jR : jQ.cell? ⟨aY, 1, none⟩ = some (.string aG) := (Qo aD.out 1).trans rfl
        have iN := Zd aD.out 1
        have dZ := aC.out
        have eB := aM.out
        have eD := aI.out
        have eF := aW.out
        refine jEr (w1 := ?_) (by rfl) rfl ?_ ?_
        rotate_left
        ·go_simp
         rfl
        refine hK.out _ _ ?_
        clear hK K
        refine Vh (by kernel_rfl) ?_
        try go_wp2
        go_roundg k3
        case measure => have := cZ.out; have := dA.out; have := dF.out; omega
        case rel => exact ⟨(wrap64 (bG + 1)), (aG ++ dE), zF, H', ⟨by have := cZ.out; have := dA.out; have := dF.out; omega⟩, ⟨zk1 aA.out aC.out⟩, ⟨zk1 aH.out aM.out⟩, ⟨zk0 aD.out⟩, ⟨zG3 aN.out aT.out aX.out⟩⟩
       exact absurd H (by simp)
      exact absurd H (by simp)
     exact absurd H (by simp)
    exact absurd H (by simp)
   have H' := Qa.mk H; clear H
   have iO := aJ.out
   have iP := aK.out
   have iQ := aC.out
   have iR := aI.out
   obtain ⟨eG, eH, eO, eP⟩ := zq2 aA.out
   go_wp2
   go_roundg k3
   case measure => have := cZ.out; have := dA.out; have := dF.out; omega
   case rel => exact ⟨(wrap64 (bF + 1)), (aG), zF, H', ⟨by have := cZ.out; have := dA.out; have := dF.out; omega⟩, ⟨zK aA.out⟩, ⟨zK aH.out⟩, ⟨zK aD.out⟩, ⟨zG3 aN.out aT.out aX.out⟩⟩
  have H' := Qa.mk H; clear H
  have iT := aJ.out
  have iU := aK.out
  have iV := aC.out
  have iW := aI.out
  obtain ⟨eQ, eT, eU, eX⟩ := zq2 aA.out
  go_wp2
  go_roundg k2
  case measure => have := cZ.out; have := dA.out; omega
  case rel => exact ⟨(wrap64 (bA + 1)), (aV), zF, H', ⟨by have := cZ.out; have := dA.out; omega⟩, ⟨zK aA.out⟩, ⟨zK aH.out⟩, ⟨zK aD.out⟩, ⟨zG3 aN.out aT.out aX.out⟩⟩
 simp only [Option.some.injEq, Prod.mk.injEq] at H
 obtain ⟨rfl, rfl⟩ := H
 have iX := aJ.out
 have iY := aK.out
 have iZ := aC.out
 have jA := aI.out
 obtain ⟨eY, eZ, fA, fB⟩ := zq2 aA.out
 have jB := aW.out
 have jC := aM.out
 obtain ⟨fC, fD, fE, fF⟩ := zq2 aD.out
 obtain ⟨fG, fH, fI, fJ⟩ := zq2 aH.out
 go_wp2
 refine bodyPost_ret (results_cell_row rfl _ _ bO 25 #[.int .i64 aQ, .string aU] (0, 0) _ rfl (zk0 aH.out) Try.underlying25 rfl (by kernel_rfl)) rfl ?_
 exact ⟨zE, zG3 aN.out aT.out aX.out⟩
def Zm.j0 : Nat → Bool → List Int → Int → Int → Int → ByteArray → Option (Int × ByteArray × Int × Int)
 | 0, _, _, _, _, _, _ => none
 | k + 1, aJ, x1000, aG, aH, aA, aC => if aJ = true then ((Jz.f x1000 aG aH aA).bind fun aD => (if 0 ≤ (IntKind.u64.wrap (aD.1)) then ((Q0.f k aA aC (shl .i64 1 (IntKind.u64.wrap (aD.1)))).bind fun aI => (some (aI.1, aI.2, aD.2.1, aD.2.2))) else (none))) else (some (aA, aC, aG, aH))
def Zm.f (k : Nat) (aD : List Int) (aG : Int) (aH : Int) : Option (Int × ByteArray × Int × Int) := (Xl.f k aD aG aH).bind fun aA => ((Jr.f k aA.1 aA.2.1).bind fun aI => (if aI = true then ((Xk.f aD aA.2.2.1 aA.2.2.2 4).bind fun aC => (Zm.j0 k aC.1 aD aC.2.1 aC.2.2 aA.1 aA.2.1)) else (Zm.j0 k false aD aA.2.2.1 aA.2.2.2 aA.1 aA.2.1)))
def Zm.T3 : Bool × List (List Nat × List Nat) := (true, [([], []), ([], []), ([], []), ([2], [2]), ([1, 3], [1, 3]), ([4], [4]), ([5], [5]), ([0, 6, 4], [0, 6]), ([7, 7, 0, 1, 2, 3, 4, 5, 6, 7], [7])])
def Zm.B3 : List Nat := [0, 0, 0, 4, 14, 30, 62, 127, 255]
theorem Zm.tab3 : Uc .any (opsOf Try.f80 3) = Zm.T3 := by kernel_rfl
theorem Zm.bits3 : X6 Zm.T3.2 Zm.B3 = true := by kernel_rfl
theorem jJi {p q : Prop} (g : p) (h : p → q := by intro zg_; repeat (first | (with_reducible first | exact zg_ | apply Qc.alloc | apply Qc.drewN | apply Qc.drew | apply Qc.set_1 | apply Qc.set_2) | exact zg_)) : q := h g
theorem jLe {p q : Prop} (g : p) (h : p → q := by intro zg_; repeat (first | (with_reducible first | exact zg_ | apply Qg.set_ | apply Xn | apply Xj | apply Xm) | exact zg_)) : q := h g
theorem jHu {p q p0 : Prop} (g : p) (g0 : p0) (h : p → p0 → q := by intro zg_ aA; repeat (first | (with_reducible first | exact zg_ | apply Qc.alloc | apply Qc.drewN | apply Qc.drew | apply Qc.set_1 | apply Qc.set_2 | refine Qc.far ?_ aA _) | exact zg_)) : q := h g g0
theorem jQc {p q p0 p1 : Prop} (g : p) (g0 : p0) (g1 : p1) (h : p → p0 → p1 → q := by intro zg_ aA aC; repeat (first | (with_reducible first | exact zg_ | apply Jq | apply Jh | apply Qt | refine Jt ?_ aA | refine Jt ?_ aC) | exact zg_)) : q := h g g0 g1
theorem jHg {p q p0 : Prop} (g : p) (g0 : p0) (h : p → p0 → q := by intro zg_ aA; repeat (first | (with_reducible first | exact zg_ | apply Qg.set_ | apply Xn | apply Xj | apply Xm | refine Vp ?_ aA _) | exact zg_)) : q := h g g0
theorem jAn {p q p0 p1 : Prop} (g : p) (g0 : p0) (g1 : p1) (h : p → p0 → p1 → q := by intro zg_ aA aC; repeat (first | (with_reducible first | exact zg_ | apply Qc.alloc | apply Qc.drewN | apply Qc.drew | apply Qc.set_1 | apply Qc.set_2 | refine Qc.far ?_ aA _ | refine Qc.far ?_ aC _) | exact zg_)) : q := h g g0 g1
theorem jAv {p q p0 p1 : Prop} (g : p) (g0 : p0) (g1 : p1) (h : p → p0 → p1 → q := by intro zg_ aA aC; repeat (first | (with_reducible first | exact zg_ | apply Qg.set_ | apply Xn | apply Xj | apply Xm | refine Vp ?_ aA _ | refine Vp ?_ aC _) | exact zg_)) : q := h g g0 g1
theorem jNo {p q p0 p1 p2 : Prop} (g : p) (g0 : p0) (g1 : p1) (g2 : p2) (h : p → p0 → p1 → p2 → q := by intro zg_ aA aC aD; repeat (first | (with_reducible first | exact zg_ | apply Jq | apply Jh | apply Qt | refine Jt ?_ aA | refine Jt ?_ aC | refine Jt ?_ aD) | exact zg_)) : q := h g g0 g1 g2
set_option maxHeartbeats 8000000 in
set_option maxRecDepth 100000 in
theorem Zm.calls (k : Nat) (g : Nat) (aU : List Int) (bP : Int) (bQ : Int) (r1 : Int) (r2 : ByteArray) (r3 : Int) (r4 : Int) (w0 w : World) (hI : Qc w0 w g aU bP bQ) (hB : Below w0.heap.size w0 w) (h : Zm.f k aU bP bQ = some (r1, r2, r3, r4)) :
  Calls Try.prog 80 #[.pointer (some ⟨g, 0, none⟩)] w fun e w' => e = .returned (.agg #[.int .i64 r1, .string r2]) ∧ Qc w0 w' g aU r3 r4 ∧ Below w0.heap.size w0 w' ∧ Qg w w' g none := by
 have fV := Try.underlying25
 have HI0 := Qa.mk hI
 have HK := Qa.mk (Qg.refl w g none)
 have HL := Qa.mk hB.size
 clear hI
 have HW0 := Qa.mk hB.size
 have HB := Qa.mk hB
 clear hB
 have H := h
 unfold Zm.f at H
 clear h
 obtain ⟨⟨aT, aV, bF, bG⟩, A2, H⟩ := zO H
 dsimp only at H
 have eD := Qa.mk H
 clear H
 go_enter Try.func80, Try.ntmps80
 go_upto_region 2 with (first | ((with_reducible refine Qf (N := 2) rfl ?_); refine zBx (N := 2) #[.int .i64 0, .string (⟨#[]⟩ : ByteArray)] 25 ?_; intro aJ hg w4 hbox hb; have bI := Qa.mk (Qc.below (jJi HI0.out) hb); have bJ := Qa.mk (Qg.trans (jLe HK.out) (Qg.of_below hb g none) (.inl rfl)); have bK := Qa.mk (Qz (zG (Qc.ge HI0.out)) hb); have bL := Qa.mk (hbox); have bM := Qa.mk ((by rw [hg]; exact (J6 (w := w) (g := g) (row := none) (jLe HK.out)) : w.heap.size ≤ aJ)); have cO := Qa.mk ((Nat.le_trans HW0.out (by rw [hg]; exact (J6 (w := w) (g := g) (row := none) (jLe HK.out)) : w.heap.size ≤ aJ) : w0.heap.size ≤ aJ)); have cZ := Qa.mk ((by rw [hg]; exact Nat.ne_of_lt (Qc.lt (show Qc w0 _ g aU bP bQ from (jJi HI0.out))) : g ≠ aJ)); have dA := Qa.mk ((by rw [hg]; exact Nat.ne_of_gt (Qc.lt (show Qc w0 _ g aU bP bQ from (jJi HI0.out))) : aJ ≠ g)); clear HI0; clear HK; clear HB; have HI0 := bI; have HK := bJ; have HB := bK; have aA := bL; have aM := bM; have aN := cO; have aH := cZ; have aY := dA; clear bI bJ bK bL bM cO cZ dA; clear hb hbox hg) | ((with_reducible refine Qb (f := 141) rfl ?_); refine zD (some 5) Try.func141 _ ((Xl.calls k g aU bP bQ aT aV bF bG w0 _ ?bC ?bD A2.out).mono ?_); (case bC => exact (jHu HI0.out aH.out)); (case bD => exact (jQc HB.out (Qc.ge HI0.out) aN.out)); rintro e w5 ⟨rfl, hi, hb, hk⟩; refine ⟨_, rfl, ?_⟩; replace aA := zKB hk aA.out aY.out; replace HK := Qa.mk (Qg.trans (jHg HK.out aM.out) hk (.inl rfl)); replace HI0 := Qa.mk (hi); replace HB := Qa.mk (hb); (try clear hb); (try clear hk); (try clear hi)) | ((with_reducible refine Qf (N := 3) rfl ?_); refine zBx (N := 3) #[.int .i64 0, .string (⟨#[]⟩ : ByteArray)] 25 ?_; intro aK hg w6 hbox hb; have bI := Qa.mk (Qc.below (jHu HI0.out aH.out) hb); have bJ := zV aA.out hb; have bK := Qa.mk (Qg.trans (jHg HK.out aM.out) (Qg.of_below hb g none) (.inl rfl)); have bL := Qa.mk (Qz (zG2 (Qc.ge HI0.out) aN.out) hb); have bM := Qa.mk (hbox); have cO := Qa.mk ((by rw [hg]; exact (J6 (w := w) (g := g) (row := none) (jHg HK.out aM.out)) : w.heap.size ≤ aK)); have cZ := Qa.mk ((Nat.le_trans HW0.out (by rw [hg]; exact (J6 (w := w) (g := g) (row := none) (jHg HK.out aM.out)) : w.heap.size ≤ aK) : w0.heap.size ≤ aK)); have dA := zL hg aA.out; have eT := zLg hg aA.out; have eU := Qa.mk ((by rw [hg]; exact Nat.ne_of_lt (Qc.lt (show Qc w0 _ g aU bF bG from (jHu HI0.out aH.out))) : g ≠ aK)); have dB := Qa.mk ((by rw [hg]; exact Nat.ne_of_gt (Qc.lt (show Qc w0 _ g aU bF bG from (jHu HI0.out aH.out))) : aK ≠ g)); clear HI0; clear aA; clear HK; clear HB; have HI0 := bI; have aA := bJ; have HK := bK; have HB := bL; have aC := bM; have aW := cO; have aX := cZ; have aD := dA; have aG := eT; have aI := eU; have aQ := dB; clear bI bJ bK bL bM cO cZ dA eT eU dB; clear hb hbox hg; have fZ := aG.out; have gB := aD.out; have gD := aQ.out; have gF := aI.out; obtain ⟨bT, bU, bV, bW⟩ := zq2 aC.out))
 (try simp only [Act.put, List.setIfInBounds_toArray, List.set_cons_zero, List.set_cons_succ])
 go_cut [11] (fun v11 wc => ∃ (kq : Nat) (bN : Bool) (aZ : Int) (bA : Int), v11 = .bool bN ∧ Qa (Zm.j0 kq bN aU aZ bA aT aV = some (r1, r2, r3, r4)) ∧ Qa (kq ≤ k) ∧ Qa (wc.heap[aJ]? = some (.cells #[.int .i64 0, .string (⟨#[]⟩ : ByteArray)] 25 (0, 0))) ∧ Qa (wc.heap[aK]? = some (.cells #[.int .i64 aT, .string aV] 25 (0, 0))) ∧ Qa (Qc w0 wc g aU aZ bA) ∧ Qa (Qg w wc g none) ∧ Qa (Below w0.heap.size w0 wc))
 case first =>
  have H := eD.out
  clear eD
  obtain ⟨eF, eX, H⟩ := zO H
  by_cases c11 : eF = true
  ·subst c11
   replace H := (if_pos rfl).symm.trans H
   obtain ⟨⟨bX, bY, bZ⟩, gG, H⟩ := zO H
   replace H : (Zm.j0 k bX aU bY bZ aT aV) = some (r1, r2, r3, r4) := H
   have H' := Qa.mk H; clear H
   have eY := aG.out
   have eZ := aD.out
   have fA := aQ.out
   have fB := aI.out
   obtain ⟨dF, dG, dH, dI⟩ := zq2 aC.out
   go_wp2_with (first | ((with_reducible refine Qb (f := 25) rfl ?_); refine zD (some 7) Try.func25 _ ((Jr.calls k aT aV true _ eX.out).mono ?_); rintro e w16 ⟨rfl, hb⟩; refine ⟨_, rfl, ?_⟩; have bI := Qa.mk (Qc.below (show Qc w0 ((w6.setCell ⟨aK, 0, none⟩ (.int .i64 aT)).setCell ⟨aK, 1, none⟩ (.string aV)) g aU bF bG from (jAn HI0.out aH.out aI.out)) hb); have bJ := Qa.mk (Zj (g := aJ) (o := .cells #[.int .i64 0, .string (⟨#[]⟩ : ByteArray)] 25 (0, 0)) (zk2 aA.out aD.out aD.out) hb); have bK := Qa.mk (Zj (g := aK) (o := .cells #[.int .i64 aT, .string aV] 25 (0, 0)) (zk0 aC.out) hb); have bL := Qa.mk (Qg.trans (jAv HK.out aM.out aW.out) (Qg.of_below hb g none) (.inl rfl)); have bM := Qa.mk (Qz (zG3 (Qc.ge HI0.out) aN.out aX.out) hb); clear HI0; clear aA; clear aC; clear HK; clear HB; have HI0 := bI; have aA := bJ; have aC := bK; have HK := bL; have HB := bM; clear bI bJ bK bL bM; (try clear hb)) | (go_at_call 127; (with_reducible refine (Xk.calls g aU bF bG 4 bX bY bZ w0 _ ?bC ?bD gG.out).mono ?_); (case bC => exact (jAn HI0.out aH.out aI.out)); (case bD => exact (jNo HB.out (Qc.ge HI0.out) aN.out aX.out)); rintro e gM ⟨rfl, hi, hb, hk⟩; replace aA := zKB hk aA.out aY.out; replace aC := zKB hk aC.out aQ.out; replace HK := Qa.mk (Qg.trans (jAv HK.out aM.out aW.out) hk (.inl rfl)); replace HI0 := Qa.mk (hi); replace HB := Qa.mk (hb); (try clear hb); (try clear hb2); (try clear hk); (try clear hi)))
   go_meet
   case rel => exact ⟨_, (bX), (bY), (bZ), zF, H', ⟨by first | omega | exact Nat.le_refl _⟩, ⟨zK aA.out⟩, ⟨zK aC.out⟩, ⟨(jAn HI0.out aH.out aI.out)⟩, ⟨(jAv HK.out aM.out aW.out)⟩, ⟨zG3 (Qc.ge HI0.out) aN.out aX.out⟩⟩
  replace c11 := Bool.eq_false_iff.mpr c11
  subst c11
  replace H := (if_neg zFf).symm.trans H
  have H' := Qa.mk H; clear H
  have fC := aG.out
  have fD := aD.out
  have fE := aQ.out
  have fF := aI.out
  obtain ⟨dJ, dK, dL, dM⟩ := zq2 aC.out
  go_wp2_with (first | ((with_reducible refine Qb (f := 25) rfl ?_); refine zD (some 7) Try.func25 _ ((Jr.calls k aT aV false _ eX.out).mono ?_); rintro e gN ⟨rfl, hb⟩; refine ⟨_, rfl, ?_⟩; have bI := Qa.mk (Qc.below (show Qc w0 ((w6.setCell ⟨aK, 0, none⟩ (.int .i64 aT)).setCell ⟨aK, 1, none⟩ (.string aV)) g aU bF bG from (jAn HI0.out aH.out aI.out)) hb); have bJ := Qa.mk (Zj (g := aJ) (o := .cells #[.int .i64 0, .string (⟨#[]⟩ : ByteArray)] 25 (0, 0)) (zk2 aA.out aD.out aD.out) hb); have bK := Qa.mk (Zj (g := aK) (o := .cells #[.int .i64 aT, .string aV] 25 (0, 0)) (zk0 aC.out) hb); have bL := Qa.mk (Qg.trans (jAv HK.out aM.out aW.out) (Qg.of_below hb g none) (.inl rfl)); have bM := Qa.mk (Qz (zG3 (Qc.ge HI0.out) aN.out aX.out) hb); clear HI0; clear aA; clear aC; clear HK; clear HB; have HI0 := bI; have aA := bJ; have aC := bK; have HK := bL; have HB := bM; clear bI bJ bK bL bM; (try clear hb)))
  go_meet
  case rel => exact ⟨_, (false), (bF), (bG), zF, H', ⟨by first | omega | exact Nat.le_refl _⟩, ⟨zK aA.out⟩, ⟨zK aC.out⟩, ⟨(jAn HI0.out aH.out aI.out)⟩, ⟨(jAv HK.out aM.out aW.out)⟩, ⟨zG3 (Qc.ge HI0.out) aN.out aX.out⟩⟩
 case rest =>
 clear eD
 try clear bT
 try clear bU
 try clear bV
 try clear bW
 obtain ⟨kq, bN, aZ, bA, rfl, HA, HJ2, aA, aC, HI0, HK, HB⟩ := hcut
 cases kq with
 | zero => exact absurd HA.out (by simp [Zm.j0])
 | succ gH =>
 have H := HA.out
 clear HA
 simp only [Zm.j0] at H
 by_cases dN : bN = true
 ·subst dN
  replace H := (if_pos rfl).symm.trans H
  obtain ⟨⟨dC, dD, dE⟩, eG, H⟩ := zO H
  dsimp only at H
  obtain ⟨bE, bO⟩ : ∃ j_ : Int, (IntKind.u64.wrap (dC)) = j_ := ⟨_, rfl⟩
  first | rw [bO] at H | simp only [bO] at H
  (try rw [bO] at eG)
  replace H := Xw H
  rcases H with ⟨fG, fH, H⟩ | ⟨gP, H⟩
  ·obtain ⟨bH, bB⟩ : ∃ j_ : Int, (shl .i64 1 (bE)) = j_ := ⟨_, rfl⟩
   first | rw [bB] at H | simp only [bB] at H
   (try rw [bB] at eG)
   have bR : (IntKind.i64.wrap (1 * 2 ^ min (bE).toNat 64)) = bH := bB
   have bS := Yc bB
   have eH : (IntKind.i64.wrap (2 ^ min (bE).toNat 64)) = bH := by have h_ := bR; rw [Int.one_mul] at h_; exact h_
   have eO : (bE) ≤ 64 → (IntKind.i64.wrap (2 ^ (bE).toNat)) = bH := fun hle_ => by have h_ := bS hle_; rw [Int.one_mul] at h_; exact h_
   have eP : (wrap64 (1 * 2 ^ min (bE).toNat 64)) = bH := (Zu _).symm.trans bR
   have eQ : (bE) ≤ 64 → (wrap64 (1 * 2 ^ (bE).toNat)) = bH := fun h_ => (Zu _).symm.trans (bS h_)
   obtain ⟨⟨cB, cK⟩, gJ, H⟩ := zO H
   replace H : (some (cB, cK, dD, dE)) = some (r1, r2, r3, r4) := H
   simp only [Option.some.injEq, Prod.mk.injEq] at H
   obtain ⟨rfl, rfl, rfl, rfl⟩ := H
   try go_wp2
   replace aA := Qa.mk (Jo aA.out)
   replace aC := Qa.mk (Jo aC.out)
   replace HI0 := Qa.mk (Qc.drew HI0.out)
   replace HK := Qa.mk (Xj HK.out)
   replace HB := Qa.mk (Qt HB.out)
   refine Ya (n := 9) (S := fun w' => w'.cell? ⟨aK, 0, none⟩ = some (.int .i64 aT) ∧ w'.cell? ⟨aK, 1, none⟩ = some (.string aV)) (ds := []) #[false, false, false, false, false, false, false, false, false] (by kernel_rfl) rfl rfl ⟨(Qo aC.out 0).trans rfl, (Qo aC.out 1).trans rfl⟩ (fun hHeld => ?_); refine Z0 Zm.tab3 Zm.bits3 (fun HT_ HW_ => ?_)
   generalize wc.drew = gQ at aA aC HI0 HK HB hHeld ⊢
   refine zP 1 (some 13) rfl rfl ?_
   refine zP 2 (some 14) rfl rfl ?_
   refine zY2 0 (some 12) rfl rfl hHeld ?_
   refine zY2 3 (some 15) rfl rfl hHeld ?_
   refine zU 4 (some 16) rfl rfl (fun K hK => ?_)
   refine Xx Try.func125 (by kernel_rfl) rfl #[.pointer (some ⟨g, 0, none⟩), .int .i64 aT] (by rfl) rfl rfl zM ?_
   with_reducible refine (Jz.calls g aU aZ bA aT dC dD dE w0 _ ?bC ?bD eG.out).mono ?_
   (case bC => exact (jAn HI0.out aH.out aI.out))
   (case bD => exact (jNo HB.out (Qc.ge HI0.out) aN.out aX.out))
   rintro e gT ⟨rfl, hi, hb, hk⟩
   refine ⟨_, rfl, ?_⟩
   replace aA := zKB hk aA.out aY.out
   replace aC := zKB hk aC.out aQ.out
   replace HK := Qa.mk (Qg.trans (jAv HK.out aM.out aW.out) hk (.inl rfl))
   replace HI0 := Qa.mk (hi)
   replace HB := Qa.mk (hb)
   (try clear hb)
   (try clear hk)
   (try clear hi)
   refine hK.out _ _ (zh2 aC.out) (fun hHeld => ?_)
   clear hK K
   refine zN ?_
   refine zP 5 (some 17) rfl rfl ?_
   refine zP 6 (some 18) rfl rfl ?_
   refine zU 7 (some 19) rfl rfl (fun K hK => ?_)
   refine Xx Try.func90 (by kernel_rfl) rfl #[.agg #[.int .i64 aT, .string aV], .int .i64 bH] (by rfl) rfl rfl (by (try simp only [List.map_toArray, List.map_cons, List.map_nil]); first | done | (simp only [bB]; rfl) | rfl | (simp only [List.length_drop, List.length_take]; rfl)) ?_
   with_reducible refine (Q0.calls gH aT aV bH cB cK _ gJ.out).mono ?_
   rintro e fI ⟨rfl, hb⟩
   refine ⟨_, rfl, ?_⟩
   have bI := zV aA.out hb
   have bJ := zV aC.out hb
   have bK := Qa.mk (Qc.below (jAn HI0.out aH.out aI.out) hb)
   have bL := Qa.mk (Qg.trans (jAv HK.out aM.out aW.out) (Qg.of_below hb g none) (.inl rfl))
   have bM := Qa.mk (Qz (zG3 (Qc.ge HI0.out) aN.out aX.out) hb)
   clear aA
   clear aC
   clear HI0
   clear HK
   clear HB
   have aA := bI
   have aC := bJ
   have HI0 := bK
   have HK := bL
   have HB := bM
   clear bI bJ bK bL bM
   (try clear hb)
   refine hK.out _ _ (zh2 aC.out) (fun hHeld => ?_)
   clear hK K
   refine zN ?_
   refine zU 8 none rfl rfl (fun K hK => ?_)
   have gK : fI.cell? ⟨aJ, 0, none⟩ = some (.int .i64 0) := (Qo aA.out 0).trans rfl
   have fJ := Zd aA.out 0
   have dO := aG.out
   have dP := aD.out
   have gL : fI.cell? ⟨aJ, 1, none⟩ = some (.string (⟨#[]⟩ : ByteArray)) := (Qo aA.out 1).trans rfl
   have fK := Zd aA.out 1
   have dQ := aG.out
   have dR := aD.out
   refine jEr (w1 := ?_) (by rfl) rfl ?_ ?_
   rotate_left
   ·go_simp
    rfl
   refine hK.out _ _ ⟨((cell_far (p := ⟨aJ, _, none⟩) aG.out _).trans (((cell_far (p := ⟨aJ, _, none⟩) aG.out _).trans (hHeld.1)))), ((cell_far (p := ⟨aJ, _, none⟩) aG.out _).trans (((cell_far (p := ⟨aJ, _, none⟩) aG.out _).trans (hHeld.2))))⟩ (fun hHeld => ?_)
   clear hK K
   refine Vh (Xu HT_.out (by kernel_rfl)) ?_
   try go_wp2
   refine bodyPost_ret (results_cell_row rfl _ _ aJ 25 #[.int .i64 cB, .string cK] (0, 0) _ rfl (zk0 aA.out) Try.underlying25 rfl (by kernel_rfl)) rfl ?_
   exact ⟨by first | rfl | (simp [Za, J7] <;> rfl) | (simp only [← bO, ← bB]; first | rfl | (simp [Za, J7] <;> rfl)) | (simp [*, Za, J7] <;> rfl), (jAn HI0.out aH.out aI.out), zG3 (Qc.ge HI0.out) aN.out aX.out, (jAv HK.out aM.out aW.out)⟩
  exact absurd H (by simp)
 replace dN := Bool.eq_false_iff.mpr dN
 subst dN
 replace H := (if_neg zFf).symm.trans H
 simp only [Option.some.injEq, Prod.mk.injEq] at H
 obtain ⟨rfl, rfl, rfl, rfl⟩ := H
 have fM := aG.out
 have fO := aD.out
 have fP := aQ.out
 have fQ := aI.out
 obtain ⟨dS, dU, dV, dW⟩ := zq2 aC.out
 have fT := aY.out
 have fU := aH.out
 obtain ⟨dX, dY, dZ, eB⟩ := zq2 aA.out
 go_wp2
 refine bodyPost_ret (results_cell_row rfl _ _ aJ 25 #[.int .i64 aT, .string aV] (0, 0) _ rfl (zk0 aA.out) Try.underlying25 rfl (by kernel_rfl)) rfl ?_
 exact ⟨zE, (jAn HI0.out aH.out aI.out), zG3 (Qc.ge HI0.out) aN.out aX.out, (jAv HK.out aM.out aW.out)⟩
def Xz.f (k : Nat) (aH : List Int) (aI : Int) (aJ : Int) : Option (Int × ByteArray × Int × Int) := (Xk.f aH aI aJ 8).bind fun aA => (if aA.1 = true then ((Zm.f k aH aA.2.1 aA.2.2).bind fun aC => (some (aC.1, aC.2.1, aC.2.2.1, aC.2.2.2))) else ((Qn.f k aH aA.2.1 aA.2.2).bind fun aD => ((Q8.f k aD.1).bind fun aG => (some (aG.1, aG.2.1, aD.2.1, aD.2.2)))))
theorem jDx {p q : Prop} (g : p) (h : p → q := by intro zg_; repeat (first | (with_reducible first | exact zg_ | apply Qc.alloc | apply Qc.drewN | apply Qc.drew | apply Qc.set_1 | apply Qc.set_2) | exact zg_)) : q := h g
theorem jD2 {p q : Prop} (g : p) (h : p → q := by intro zg_; repeat (first | (with_reducible first | exact zg_ | apply Qg.set_ | apply Xn | apply Xj | apply Xm) | exact zg_)) : q := h g
theorem jAx {p q p0 : Prop} (g : p) (g0 : p0) (h : p → p0 → q := by intro zg_ aA; repeat (first | (with_reducible first | exact zg_ | apply Qc.alloc | apply Qc.drewN | apply Qc.drew | apply Qc.set_1 | apply Qc.set_2 | refine Qc.far ?_ aA _) | exact zg_)) : q := h g g0
theorem jHn {p q p0 p1 : Prop} (g : p) (g0 : p0) (g1 : p1) (h : p → p0 → p1 → q := by intro zg_ aA aC; repeat (first | (with_reducible first | exact zg_ | apply Jq | apply Jh | apply Qt | refine Jt ?_ aA | refine Jt ?_ aC) | exact zg_)) : q := h g g0 g1
theorem Wx {p q p0 : Prop} (g : p) (g0 : p0) (h : p → p0 → q := by intro zg_ aA; repeat (first | (with_reducible first | exact zg_ | apply Qg.set_ | apply Xn | apply Xj | apply Xm | refine Vp ?_ aA _) | exact zg_)) : q := h g g0
theorem jQr {p q p0 p1 : Prop} (g : p) (g0 : p0) (g1 : p1) (h : p → p0 → p1 → q := by intro zg_ aA aC; repeat (first | (with_reducible first | exact zg_ | apply Qc.alloc | apply Qc.drewN | apply Qc.drew | apply Qc.set_1 | apply Qc.set_2 | refine Qc.far ?_ aA _ | refine Qc.far ?_ aC _) | exact zg_)) : q := h g g0 g1
theorem jQx {p q p0 p1 : Prop} (g : p) (g0 : p0) (g1 : p1) (h : p → p0 → p1 → q := by intro zg_ aA aC; repeat (first | (with_reducible first | exact zg_ | apply Qg.set_ | apply Xn | apply Xj | apply Xm | refine Vp ?_ aA _ | refine Vp ?_ aC _) | exact zg_)) : q := h g g0 g1
set_option maxHeartbeats 8000000 in
set_option maxRecDepth 100000 in
theorem Xz.calls (k : Nat) (g : Nat) (aN : List Int) (aT : Int) (aU : Int) (r1 : Int) (r2 : ByteArray) (r3 : Int) (r4 : Int) (w0 w : World) (hI : Qc w0 w g aN aT aU) (hB : Below w0.heap.size w0 w) (h : Xz.f k aN aT aU = some (r1, r2, r3, r4)) :
  Calls Try.prog 109 #[.pointer (some ⟨g, 0, none⟩)] w fun e w' => e = .returned (.agg #[.int .i64 r1, .string r2]) ∧ Qc w0 w' g aN r3 r4 ∧ Below w0.heap.size w0 w' ∧ Qg w w' g none := by
 have dS := Try.underlying25
 have HI0 := Qa.mk hI
 have HK := Qa.mk (Qg.refl w g none)
 have HL := Qa.mk hB.size
 clear hI
 have HW0 := Qa.mk hB.size
 have HB := Qa.mk hB
 clear hB
 have H := h
 unfold Xz.f at H
 clear h
 obtain ⟨⟨dB, bD, bE⟩, A2, H⟩ := zO H
 dsimp only at H
 by_cases c3 : dB = true
 ·subst c3
  replace H := (if_pos rfl).symm.trans H
  obtain ⟨⟨bL, bM, bQ, bR⟩, A4, H⟩ := zO H
  replace H : (some (bL, bM, bQ, bR)) = some (r1, r2, r3, r4) := H
  simp only [Option.some.injEq, Prod.mk.injEq] at H
  obtain ⟨rfl, rfl, rfl, rfl⟩ := H
  go_enter Try.func109, Try.ntmps109
  go_wp2_with (first | ((with_reducible refine Qf (N := 2) rfl ?_); refine zBx (N := 2) #[.int .i64 0, .string (⟨#[]⟩ : ByteArray)] 25 ?_; intro aD hg w5 hbox hb; have aY := Qa.mk (Qc.below (jDx HI0.out) hb); have aZ := Qa.mk (Qg.trans (jD2 HK.out) (Qg.of_below hb g none) (.inl rfl)); have bA := Qa.mk (Qz (zG (Qc.ge HI0.out)) hb); have bB := Qa.mk (hbox); have bC := Qa.mk ((by rw [hg]; exact (J6 (w := w) (g := g) (row := none) (jD2 HK.out)) : w.heap.size ≤ aD)); have bI := Qa.mk ((Nat.le_trans HW0.out (by rw [hg]; exact (J6 (w := w) (g := g) (row := none) (jD2 HK.out)) : w.heap.size ≤ aD) : w0.heap.size ≤ aD)); have bJ := Qa.mk ((by rw [hg]; exact Nat.ne_of_lt (Qc.lt (show Qc w0 _ g aN aT aU from (jDx HI0.out))) : g ≠ aD)); have bK := Qa.mk ((by rw [hg]; exact Nat.ne_of_gt (Qc.lt (show Qc w0 _ g aN aT aU from (jDx HI0.out))) : aD ≠ g)); clear HI0; clear HK; clear HB; have HI0 := aY; have HK := aZ; have HB := bA; have aC := bB; have aH := bC; have aI := bI; have aA := bJ; have aG := bK; clear aY aZ bA bB bC bI bJ bK; clear hb hbox hg) | ((with_reducible refine Qb (f := 127) rfl ?_); refine zD (some 6) Try.func127 _ ((Xk.calls g aN aT aU 8 true bD bE w0 _ ?aJ ?aK A2.out).mono ?_); (case aJ => exact (jAx HI0.out aA.out)); (case aK => exact (jHn HB.out (Qc.ge HI0.out) aI.out)); rintro e w6 ⟨rfl, hi, hb, hk⟩; refine ⟨_, rfl, ?_⟩; replace aC := zKB hk aC.out aG.out; replace HK := Qa.mk (Qg.trans (Wx HK.out aH.out) hk (.inl rfl)); replace HI0 := Qa.mk (hi); replace HB := Qa.mk (hb); (try clear hb); (try clear hk); (try clear hi)) | ((with_reducible refine Qb (f := 80) rfl ?_); refine zD (some 8) Try.func80 _ ((Zm.calls k g aN bD bE bL bM bQ bR w0 _ ?aJ ?aK A4.out).mono ?_); (case aJ => exact (jAx HI0.out aA.out)); (case aK => exact (jHn HB.out (Qc.ge HI0.out) aI.out)); rintro e w7 ⟨rfl, hi, hb, hk⟩; refine ⟨_, rfl, ?_⟩; replace aC := zKB hk aC.out aG.out; replace HK := Qa.mk (Qg.trans (Wx HK.out aH.out) hk (.inl rfl)); replace HI0 := Qa.mk (hi); replace HB := Qa.mk (hb); (try clear hb); (try clear hk); (try clear hi); have dU := aG.out; have dV := aA.out; obtain ⟨dC, dD, dE, dF⟩ := zq2 aC.out))
  refine bodyPost_ret (results_cell_row rfl _ _ aD 25 #[.int .i64 bL, .string bM] (0, 0) _ rfl (zk0 aC.out) Try.underlying25 rfl (by kernel_rfl)) rfl ?_
  exact ⟨zE, (jAx HI0.out aA.out), zG2 (Qc.ge HI0.out) aI.out, (Wx HK.out aH.out)⟩
 replace c3 := Bool.eq_false_iff.mpr c3
 subst c3
 replace H := (if_neg zFf).symm.trans H
 obtain ⟨⟨bN, bF, bG⟩, dW, H⟩ := zO H
 dsimp only at H
 obtain ⟨⟨bO, bP, dG⟩, dX, H⟩ := zO H
 replace H : (some (bO, bP, bF, bG)) = some (r1, r2, r3, r4) := H
 simp only [Option.some.injEq, Prod.mk.injEq] at H
 obtain ⟨rfl, rfl, rfl, rfl⟩ := H
 go_enter Try.func109, Try.ntmps109
 go_wp2_with (first | ((with_reducible refine Qf (N := 2) rfl ?_); refine zBx (N := 2) #[.int .i64 0, .string (⟨#[]⟩ : ByteArray)] 25 ?_; intro aD hg dZ hbox hb; have aY := Qa.mk (Qc.below (jDx HI0.out) hb); have aZ := Qa.mk (Qg.trans (jD2 HK.out) (Qg.of_below hb g none) (.inl rfl)); have bA := Qa.mk (Qz (zG (Qc.ge HI0.out)) hb); have bB := Qa.mk (hbox); have bC := Qa.mk ((by rw [hg]; exact (J6 (w := w) (g := g) (row := none) (jD2 HK.out)) : w.heap.size ≤ aD)); have bI := Qa.mk ((Nat.le_trans HW0.out (by rw [hg]; exact (J6 (w := w) (g := g) (row := none) (jD2 HK.out)) : w.heap.size ≤ aD) : w0.heap.size ≤ aD)); have bJ := Qa.mk ((by rw [hg]; exact Nat.ne_of_lt (Qc.lt (show Qc w0 _ g aN aT aU from (jDx HI0.out))) : g ≠ aD)); have bK := Qa.mk ((by rw [hg]; exact Nat.ne_of_gt (Qc.lt (show Qc w0 _ g aN aT aU from (jDx HI0.out))) : aD ≠ g)); clear HI0; clear HK; clear HB; have HI0 := aY; have HK := aZ; have HB := bA; have aC := bB; have aH := bC; have aI := bI; have aA := bJ; have aG := bK; clear aY aZ bA bB bC bI bJ bK; clear hb hbox hg) | ((with_reducible refine Qb (f := 127) rfl ?_); refine zD (some 6) Try.func127 _ ((Xk.calls g aN aT aU 8 false bD bE w0 _ ?aJ ?aK A2.out).mono ?_); (case aJ => exact (jAx HI0.out aA.out)); (case aK => exact (jHn HB.out (Qc.ge HI0.out) aI.out)); rintro e eB ⟨rfl, hi, hb, hk⟩; refine ⟨_, rfl, ?_⟩; replace aC := zKB hk aC.out aG.out; replace HK := Qa.mk (Qg.trans (Wx HK.out aH.out) hk (.inl rfl)); replace HI0 := Qa.mk (hi); replace HB := Qa.mk (hb); (try clear hb); (try clear hk); (try clear hi)) | ((with_reducible refine Qb (f := 148) rfl ?_); refine zD (some 11) Try.func148 _ ((Qn.calls k g aN bD bE bN bF bG w0 _ ?aJ ?aK dW.out).mono ?_); (case aJ => exact (jAx HI0.out aA.out)); (case aK => exact (jHn HB.out (Qc.ge HI0.out) aI.out)); rintro e eD ⟨dY, rfl, ho0, hi, hb, hk⟩; refine ⟨_, rfl, ?_⟩; replace aC := zKB hk aC.out aG.out; have aM := Qa.mk (Kd.R_lower ho0 (J6 (w := w) (g := g) (row := none) (Wx HK.out aH.out))); replace HK := Qa.mk (Qg.trans (Wx HK.out aH.out) hk (.inl rfl)); replace HI0 := Qa.mk (hi); replace HB := Qa.mk (hb); (try clear hb); (try clear hk); (try clear hi); (try clear ho0); obtain ⟨dH, dI, dJ⟩ := Kd.R_slice aM.out; subst dJ) | ((with_reducible refine Qb (f := 27) rfl ?_); refine zD (some 12) Try.func27 #[.slice dH bN.length dI] ((Q8.calls k _ _ bN bO bP dG _ ?aJ ?aK dX.out).mono ?_); (case aJ => exact zc ((Kd.R_reads' aM.out).2.2)); (case aK => exact (Kd.R_reads' aM.out).2.1); rintro e w16 ⟨rfl, hb⟩; refine ⟨_, rfl, ?_⟩; have aY := zW aM.out hb; have aZ := Qa.mk (Qc.below (jAx HI0.out aA.out) hb); have bA := zV aC.out hb; have bB := Qa.mk (Qg.trans (Wx HK.out aH.out) (Qg.of_below hb g none) (.inl rfl)); have bC := Qa.mk (Qz (zG2 (Qc.ge HI0.out) aI.out) hb); clear aM; clear HI0; clear aC; clear HK; clear HB; have aM := aY; have HI0 := aZ; have aC := bA; have HK := bB; have HB := bC; clear aY aZ bA bB bC; (try clear hb)) | ((with_reducible refine Qf (N := 3) rfl ?_); refine zBx (N := 3) #[.int .i64 0, .string (⟨#[]⟩ : ByteArray)] 25 ?_; intro aV hg eF hbox hb; have aY := zW aM.out hb; have aZ := Qa.mk (Qc.below (jAx HI0.out aA.out) hb); have bA := zV aC.out hb; have bB := Qa.mk (Qg.trans (Wx HK.out aH.out) (Qg.of_below hb g none) (.inl rfl)); have bC := Qa.mk (Qz (zG2 (Qc.ge HI0.out) aI.out) hb); have bI := Qa.mk (hbox); have bJ := Qa.mk ((by rw [hg]; exact (J6 (w := w) (g := g) (row := none) (Wx HK.out aH.out)) : w.heap.size ≤ aV)); have bK := Qa.mk ((Nat.le_trans HW0.out (by rw [hg]; exact (J6 (w := w) (g := g) (row := none) (Wx HK.out aH.out)) : w.heap.size ≤ aV) : w0.heap.size ≤ aV)); have dK := zL hg aC.out; have dL := zLg hg aC.out; have bS := Qa.mk ((by rw [hg]; exact Nat.ne_of_lt (Qc.lt (show Qc w0 _ g aN bF bG from (jAx HI0.out aA.out))) : g ≠ aV)); have bT := Qa.mk ((by rw [hg]; exact Nat.ne_of_gt (Qc.lt (show Qc w0 _ g aN bF bG from (jAx HI0.out aA.out))) : aV ≠ g)); clear aM; clear HI0; clear aC; clear HK; clear HB; have aM := aY; have HI0 := aZ; have aC := bA; have HK := bB; have HB := bC; have bU := bI; have bV := bJ; have bW := bK; have aQ := dK; have aX := dL; have aW := bS; have bH := bT; clear aY aZ bA bB bC bI bJ bK dK dL bS bT; clear hb hbox hg; have dM := aX.out; have dN := aQ.out; have dO := bH.out; have dP := aW.out; obtain ⟨bX, bY, bZ, cB⟩ := zq2 bU.out; have dQ := aG.out; have dR := aA.out; obtain ⟨cK, cO, cZ, dA⟩ := zq2 aC.out))
 refine bodyPost_ret (results_cell_row rfl _ _ aD 25 #[.int .i64 bO, .string bP] (0, 0) _ rfl (zk2 aC.out aQ.out aQ.out) Try.underlying25 rfl (by kernel_rfl)) rfl ?_
 exact ⟨zE, (jQr HI0.out aA.out aW.out), zG3 (Qc.ge HI0.out) aI.out bW.out, (jQx HK.out aH.out bV.out)⟩
def Yl.f (k : Nat) (l0 : List Int) : Option (Int × ByteArray) := (Xc.f k l0).bind fun aA => ((Xz.f k aA.1 aA.2.1 aA.2.2).bind fun aC => (some (aC.1, aC.2.1)))
theorem jO7 {p q p0 : Prop} (g : p) (g0 : p0) (h : p → p0 → q := by intro zg_ aA; repeat (first | (with_reducible first | exact zg_ | apply Jq | apply Jh | apply Qt | refine Jt ?_ aA) | exact zg_)) : q := h g g0
theorem jPo {p q p0 : Prop} (g : p) (g0 : p0) (h : p → p0 → q := by intro zg_ aA; repeat (first | (with_reducible first | exact zg_ | apply Qc.alloc | apply Qc.drewN | apply Qc.drew | apply Qc.set_1 | apply Qc.set_2 | refine Qc.far ?_ aA _) | exact zg_)) : q := h g g0
theorem jOh {p q p0 p1 : Prop} (g : p) (g0 : p0) (g1 : p1) (h : p → p0 → p1 → q := by intro zg_ aA aC; repeat (first | (with_reducible first | exact zg_ | apply Jq | apply Jh | apply Qt | refine Jt ?_ aA | refine Jt ?_ aC) | exact zg_)) : q := h g g0 g1
set_option maxHeartbeats 8000000 in
set_option maxRecDepth 100000 in
theorem Yl.calls (k : Nat) (A0 : Option Addr) (c0 : Nat) (l0 : List Int) (r1 : Int) (r2 : ByteArray) (w : World) (hr0 : Kd.C (Kd.int .u8) w A0 l0.length l0) (hc0 : l0.length ≤ c0) (h : Yl.f k l0 = some (r1, r2)) :
  Calls Try.prog 64 #[.slice A0 l0.length c0] w fun e w' => e = .returned (.agg #[.int .i64 r1, .string r2]) ∧ Below w.heap.size w w' := by
 have bE := Try.underlying25
 have bF := Qa.mk hr0
 have bG := Qa.mk hc0
 clear hr0 hc0
 have HB := Qa.mk (Below.refl w.heap.size w)
 have H := h
 unfold Yl.f at H
 clear h
 obtain ⟨⟨aQ, aT, aU⟩, A2, H⟩ := zO H
 dsimp only at H
 obtain ⟨⟨aJ, aK, aV, aW⟩, A3, H⟩ := zO H
 replace H : (some (aJ, aK)) = some (r1, r2) := H
 simp only [Option.some.injEq, Prod.mk.injEq] at H
 obtain ⟨rfl, rfl⟩ := H
 go_enter Try.func64, Try.ntmps64
 go_wp2_with (first | ((with_reducible refine Qf (N := 2) rfl ?_); refine zBx (N := 2) #[.int .i64 0, .string (⟨#[]⟩ : ByteArray)] 25 ?_; intro aG hg w4 hbox hb; have aA := Qa.mk (hbox); have aZ := zS hg; have aI := zS hg; replace HB := zX hb; clear hb hbox hg) | ((with_reducible refine Qb (f := 81) rfl ?_); refine zD (some 4) Try.func81 #[.slice A0 l0.length c0] ((Xc.calls k _ _ l0 aQ aT aU w _ ?aM ?aN ?aX A2.out).mono ?_); (case aM => exact (jO7 HB.out aI.out)); (case aN => exact bF.out); (case aX => exact bG.out); rintro e w5 ⟨aY, rfl, hi, hb, hb2⟩; refine ⟨_, rfl, ?_⟩; have aH := Qa.mk (hi); have aC := Qa.mk (Qc.ne_blk hi (Zj (g := aG) (o := .cells #[.int .i64 0, .string (⟨#[]⟩ : ByteArray)] 25 (0, 0)) (zK aA.out) hb2) (by decide)); have aD := Qa.mk (Ne.symm (Qc.ne_blk hi (Zj (g := aG) (o := .cells #[.int .i64 0, .string (⟨#[]⟩ : ByteArray)] 25 (0, 0)) (zK aA.out) hb2) (by decide))); replace aA := Qa.mk (Zj (g := aG) (o := .cells #[.int .i64 0, .string (⟨#[]⟩ : ByteArray)] 25 (0, 0)) (zK aA.out) hb2); replace HB := Qa.mk (hb); (try clear hb); (try clear hb2); (try clear hi)) | ((with_reducible refine Qb (f := 109) rfl ?_); refine zD (some 5) Try.func109 _ ((Xz.calls k aY aQ aT aU aJ aK aV aW w _ ?aM ?aN A3.out).mono ?_); (case aM => exact (jPo aH.out aC.out)); (case aN => exact (jOh HB.out (Qc.ge aH.out) aI.out)); rintro e w6 ⟨rfl, hi, hb, hk⟩; refine ⟨_, rfl, ?_⟩; replace aA := zKB hk aA.out aD.out; replace aH := Qa.mk (hi); replace HB := Qa.mk (hb); (try clear hb); (try clear hk); (try clear hi); have bH := aD.out; have bI := aC.out; obtain ⟨bA, bB, bC, bD⟩ := zq2 aA.out))
 refine bodyPost_ret (results_cell_row rfl _ _ aG 25 #[.int .i64 aJ, .string aK] (0, 0) _ rfl (zk0 aA.out) Try.underlying25 rfl (by kernel_rfl)) rfl ?_
 exact ⟨zE, zG2 (Qc.ge aH.out) aI.out⟩
def Jm.l0 : Nat → List Int → Int → Int → Int → Int → Option (Int)
 | 0, _, _, _, _, _ => none
 | k + 1, x0, x1, x2, x7, x8 => if x8 < (rd x0 0) then (if 0 ≤ x1 then (if x1 < 7 then (if 0 ≤ x2 then (if x2 < 7 then (if 0 ≤ x8 then (if x8 < 7 then (if (rd3 x0 x1 x2 x8) = 1 then (Jm.l0 k x0 x1 x2 (wrap64 (x7 + 1)) (wrap64 (x8 + 1))) else (Jm.l0 k x0 x1 x2 x7 (wrap64 (x8 + 1)))) else (none)) else (none)) else (none)) else (none)) else (none)) else (none)) else (some x7)
def Jm.f (k : Nat) (l0 : List Int) (a1 : Int) (a2 : Int) : Option (Int) := Jm.l0 k l0 a1 a2 0 0
set_option maxHeartbeats 8000000 in
set_option maxRecDepth 100000 in
theorem Jm.calls (k : Nat) (g0 : Nat) (l0 : List Int) (a1 : Int) (a2 : Int) (r : Int) (w : World) (hr0 : Kd.C (Kd.int .i64) w (some ⟨g0, 0, none⟩) l0.length l0) (hc0 : l0.length = 344) (h : Jm.f k l0 a1 a2 = some r) :
  Calls Try.prog 137 #[.pointer (some ⟨g0, 0, none⟩), .int .i64 a1, .int .i64 a2] w fun e w' => e = .returned (.int .i64 r) ∧ Qs w w' := by
 have bB := Try.underlying115
 have bC := Try.underlying113
 have bD := Try.underlying112
 have bE := Try.underlying111
 have aV := Qa.mk hr0
 have aW := Qa.mk hc0
 clear hr0 hc0
 have H := h
 unfold Jm.f at H
 clear h
 have H' := Qa.mk H; clear H
 go_enter Try.func137, Try.ntmps137
 go_wp2
 go_loopg [7, 8] k (fun kq v7 v8 w' => ∃ (aG : Int) (aC : Int), v7 = .int .i64 aG ∧ v8 = .int .i64 aC ∧ Qa (Jm.l0 kq l0 a1 a2 aG aC = some r) ∧ Qa (kq ≤ k) ∧ Qs w w')
 case atStart => exact ⟨(0), (0), zF, zF, H', ⟨Nat.le_refl _⟩, by repeat (first | exact Qs.refl _ | apply Qs.step)⟩
 case round =>
 clear H'
 obtain ⟨aG, aC, rfl, rfl, HA, aZ, ⟨m1, rfl⟩⟩ := hrel
 cases gk with
 | zero => exact absurd HA.out (by simp [Jm.l0])
 | succ k1 =>
 have H := HA.out
 clear HA
 simp only [Jm.l0] at H
 replace H := Z5 H
 rcases H with ⟨bA, H⟩ | ⟨bA, H⟩
 ·replace H := Zq H
  rcases H with ⟨bG, H⟩ | ⟨c5, H⟩
  ·replace H := Zq H
   rcases H with ⟨bH, H⟩ | ⟨c6, H⟩
   ·replace H := Zq H
    rcases H with ⟨bI, H⟩ | ⟨c7, H⟩
    ·replace H := Zq H
     rcases H with ⟨bJ, H⟩ | ⟨c8, H⟩
     ·replace H := Zq H
      rcases H with ⟨bK, H⟩ | ⟨c9, H⟩
      ·replace H := Zq H
       rcases H with ⟨bF, H⟩ | ⟨c10, H⟩
       ·replace H := Zi H
        rcases H with ⟨aX, aY, H⟩ | ⟨c11, aX, aY, H⟩
        ·have H' := Qa.mk H; clear H
         obtain ⟨aT, aU, aH, aD⟩ := zC0 aV.out aW.out
         obtain ⟨aI, aJ, aK, aM, aN, aQ, aA⟩ := zC3 a1 a2 aC aV.out aW.out
         change _ = some (Value.int .i64 (rd3 l0 a1 a2 aC)) at aA
         go_wp2
         go_roundg k1
         case measure => have := aZ.out; omega
         case rel => exact ⟨(wrap64 (aG + 1)), (wrap64 (aC + 1)), zF, zF, H', ⟨by have := aZ.out; omega⟩, by repeat (first | exact Qs.refl _ | apply Qs.step)⟩
        have H' := Qa.mk H; clear H
        obtain ⟨aT, aU, aH, aD⟩ := zC0 aV.out aW.out
        obtain ⟨aI, aJ, aK, aM, aN, aQ, aA⟩ := zC3 a1 a2 aC aV.out aW.out
        change _ = some (Value.int .i64 (rd3 l0 a1 a2 aC)) at aA
        go_wp2
        go_roundg k1
        case measure => have := aZ.out; omega
        case rel => exact ⟨(aG), (wrap64 (aC + 1)), zF, zF, H', ⟨by have := aZ.out; omega⟩, by repeat (first | exact Qs.refl _ | apply Qs.step)⟩
       exact absurd H (by simp)
      exact absurd H (by simp)
     exact absurd H (by simp)
    exact absurd H (by simp)
   exact absurd H (by simp)
  exact absurd H (by simp)
 obtain rfl := Option.some.inj H
 obtain ⟨aT, aU, aH, aD⟩ := zC0 aV.out aW.out
 go_wp2
 go_ret
 exact ⟨by first | rfl | (simp; done) | (simp [*]; done), by repeat (first | exact Qs.refl _ | apply Qs.step)⟩
def Q3.l0 : Nat → List Int → List Int → Int → Int → Option (ByteArray)
 | 0, _, _, _, _ => none
 | k + 1, aA, aD, aG, aC => if aC < aG then (if 0 ≤ aC then (if aC < (aD.length : Int) then (if (rd aD aC) > 0 then (if aA.length < 140737488355328 then (Q3.l0 k (aA ++ [43]) aD aG (wrap64 (aC + 1))) else (none)) else (if aA.length < 140737488355328 then (Q3.l0 k (aA ++ [45]) aD aG (wrap64 (aC + 1))) else (none))) else (none)) else (none)) else (if 0 < (aA.length : Int) then (if (rd aA 0) = 45 then ((V8.f (strOfNums aA)).bind fun aH => (some aH)) else (some (strOfNums aA))) else (none))
def Q3.f (k : Nat) (l0 : List Int) (a1 : Int) (a2 : Int) (a3 : Int) (a4 : Int) : Option (ByteArray) := if 0 ≤ a2 then (if a2 < 7 then (if 0 ≤ a3 then (if a3 < 7 then (if 0 ≤ a4 then (if a4 < 7 then (if 0 ≤ a1 then (if a1 < 7 then ((some (([rd3 l0 a2 a3 a4, wrap64 (-(rd3 l0 a1 a3 a4)), rd3 l0 a1 a2 a4, wrap64 (-(rd3 l0 a1 a2 a3))] : List Int) : List Int)).bind fun aA => (Q3.l0 k ([] : List Int) aA (aA.length : Int) 0)) else (none)) else (none)) else (none)) else (none)) else (none)) else (none)) else (none)) else (none)
theorem Q3.mono_l : ∀ k, (∀ y0 y1 y2 y3, LeO (Q3.l0 k y0 y1 y2 y3) (Q3.l0 (k + 1) y0 y1 y2 y3))
 | 0 => fun _ _ _ _ r h => by simp [Q3.l0] at h
 | k + 1 => by
  have aA := Q3.mono_l k
  ·intro y0 y1 y2 y3
   unfold Q3.l0
   repeat' first
   | (with_reducible first | exact aA .. | exact LeO.refl _ | exact LeO.none _ | refine LeO.ite ?_ ?_ | refine LeO.bind ?_ (fun _ => ?_))
   | exact aA .. | exact LeO.none _ | refine LeO.ite ?_ ?_ | refine LeO.bind ?_ (fun _ => ?_)
def Q3.T2 : Bool × List (List Nat × List Nat) := (true, [([], []), ([], []), ([], []), ([], []), ([0], [0]), ([4], [4]), ([5, 1], [1, 5]), ([6, 2], [2, 6]), ([7, 3], [3, 7]), ([8], [8]), ([], []), ([], []), ([], []), ([], []), ([10], [10]), ([14], [14]), ([15, 11], [11, 15]), ([16, 12], [12, 16]), ([17, 13], [13, 17]), ([18], [18]), ([19], [19]), ([], []), ([], []), ([], []), ([], []), ([21], [21]), ([25], [25]), ([26, 22], [22, 26]), ([27, 23], [23, 27]), ([28, 24], [24, 28]), ([29], [29]), ([], []), ([], []), ([], []), ([], []), ([31], [31]), ([35], [35]), ([36, 32], [32, 36]), ([37, 33], [33, 37]), ([38, 34], [34, 38]), ([39], [39]), ([40], [40]), ([9, 20, 30, 41], [9, 20, 30, 41]), ([42], [42]), ([], [])])
def Q3.B2 : List Nat := [0, 0, 0, 0, 1, 17, 51, 119, 255, 511, 0, 0, 0, 0, 1024, 17408, 52224, 121856, 261120, 523264, 1047552, 0, 0, 0, 0, 2097152, 35651584, 106954752, 249561088, 534773760, 1071644672, 0, 0, 0, 0, 2147483648, 36507222016, 109521666048, 255550554112, 547608330240, 1097364144128, 2196875771904, 4398046511103, 8796093022207, 0]
theorem Q3.tab2 : Uc .any (opsOf Try.f96 2) = Q3.T2 := by kernel_rfl
theorem Q3.bits2 : X6 Q3.T2.2 Q3.B2 = true := by kernel_rfl
set_option maxHeartbeats 8000000 in
set_option maxRecDepth 100000 in
theorem Q3.calls (k : Nat) (g0 : Nat) (l0 : List Int) (a1 : Int) (a2 : Int) (a3 : Int) (a4 : Int) (r : ByteArray) (w : World) (hr0 : Kd.C (Kd.int .i64) w (some ⟨g0, 0, none⟩) l0.length l0) (hc0 : l0.length = 344) (h : Q3.f k l0 a1 a2 a3 a4 = some r) :
  Calls Try.prog 96 #[.pointer (some ⟨g0, 0, none⟩), .int .i64 a1, .int .i64 a2, .int .i64 a3, .int .i64 a4] w fun e w' => e = .returned (.string r) ∧ Below w.heap.size w w' := by
 have gK := Try.underlying115
 have gL := Try.underlying113
 have gM := Try.underlying112
 have gN := Try.underlying111
 have fG := Qa.mk hr0
 have fH := Qa.mk hc0
 clear hr0 hc0
 have HB := Qa.mk (Below.refl w.heap.size w)
 have H := h
 unfold Q3.f at H
 clear h
 replace H := Zq H
 rcases H with ⟨fJ, H⟩ | ⟨c6, H⟩
 ·replace H := Zq H
  rcases H with ⟨fK, H⟩ | ⟨c7, H⟩
  ·replace H := Zq H
   rcases H with ⟨fM, H⟩ | ⟨c8, H⟩
   ·replace H := Zq H
    rcases H with ⟨fO, H⟩ | ⟨c9, H⟩
    ·replace H := Zq H
     rcases H with ⟨dK, H⟩ | ⟨c10, H⟩
     ·replace H := Zq H
      rcases H with ⟨dL, H⟩ | ⟨c11, H⟩
      ·replace H := Zq H
       rcases H with ⟨dM, H⟩ | ⟨c12, H⟩
       ·replace H := Zq H
        rcases H with ⟨dN, H⟩ | ⟨c13, H⟩
        ·obtain ⟨aV, dE, H⟩ := zs H
         have H' := Qa.mk H; clear H
         go_enter Try.func96, Try.ntmps96
         try go_wp2
         replace HB := Qa.mk (Qt HB.out)
         have bA : 0 ≤ (a2 : Int) := zA
         have bB : 0 ≤ (a3 : Int) := zA
         have bC : 0 ≤ (a4 : Int) := zA
         have bD : (a2 : Int) < 7 := zA
         have bE : (a3 : Int) < 7 := zA
         have bF : (a4 : Int) < 7 := zA
         have dO := fH.out
         have dP : decide (0 ≤ ((1 + a2 * 49 + a3 * 7 + a4) : Int)) = true := decide_eq_true (by omega)
         have dQ : decide ((1 + a2 * 49 + a3 * 7 + a4) < (l0.length : Int)) = true := decide_eq_true (by omega)
         clear dO
         have bY : 0 ≤ ((1 + a2 * 49 + a3 * 7 + a4) : Int) := zA
         have bZ : (1 + a2 * 49 + a3 * 7 + a4) < (l0.length : Int) := zA
         obtain ⟨dR, fP, aA⟩ := Kd.at_int fG.out (1 + a2 * 49 + a3 * 7 + a4) bY bZ
         obtain rfl : (⟨g0, 0, none⟩ : Addr) = dR := (by injection fP)
         (first | simp only [add_plain] at aA | simp only [jBs] at aA | simp only [Addr.add, Nat.zero_add] at aA | skip)
         have aK := aA
         replace aA := (HB.out.cell (World.block_lt_of_cell? w _ aA)).trans aA
         replace bY := eq_true bY
         replace bZ := eq_true bZ
         clear dP dQ
         clear bY bZ
         rw [show ((1 + a2 * 49 + a3 * 7 + a4) : Int).toNat = 1 + (a2).toNat * 49 + (a3).toNat * 7 + (a4).toNat from by omega] at aA
         change _ = some (Value.int .i64 (rd3 l0 a2 a3 a4)) at aA
         rw [show ((1 + a2 * 49 + a3 * 7 + a4) : Int).toNat = 1 + (a2).toNat * 49 + (a3).toNat * 7 + (a4).toNat from by omega] at aK
         change _ = some (Value.int .i64 (rd3 l0 a2 a3 a4)) at aK
         replace bA := eq_true bA
         replace bB := eq_true bB
         replace bC := eq_true bC
         replace bD := eq_true bD
         replace bE := eq_true bE
         replace bF := eq_true bF
         have bG : 0 ≤ (a1 : Int) := zA
         have bH : 0 ≤ (a3 : Int) := zA
         have bI : 0 ≤ (a4 : Int) := zA
         have bJ : (a1 : Int) < 7 := zA
         have bK : (a3 : Int) < 7 := zA
         have bL : (a4 : Int) < 7 := zA
         have dS := fH.out
         have dU : decide (0 ≤ ((1 + a1 * 49 + a3 * 7 + a4) : Int)) = true := decide_eq_true (by omega)
         have dV : decide ((1 + a1 * 49 + a3 * 7 + a4) < (l0.length : Int)) = true := decide_eq_true (by omega)
         clear dS
         have cB : 0 ≤ ((1 + a1 * 49 + a3 * 7 + a4) : Int) := zA
         have cK : (1 + a1 * 49 + a3 * 7 + a4) < (l0.length : Int) := zA
         obtain ⟨dW, fQ, aC⟩ := Kd.at_int fG.out (1 + a1 * 49 + a3 * 7 + a4) cB cK
         obtain rfl : (⟨g0, 0, none⟩ : Addr) = dW := (by injection fQ)
         (first | simp only [add_plain] at aC | simp only [jBs] at aC | simp only [Addr.add, Nat.zero_add] at aC | skip)
         have aM := aC
         replace aC := (HB.out.cell (World.block_lt_of_cell? w _ aC)).trans aC
         replace cB := eq_true cB
         replace cK := eq_true cK
         clear dU dV
         clear cB cK
         rw [show ((1 + a1 * 49 + a3 * 7 + a4) : Int).toNat = 1 + (a1).toNat * 49 + (a3).toNat * 7 + (a4).toNat from by omega] at aC
         change _ = some (Value.int .i64 (rd3 l0 a1 a3 a4)) at aC
         rw [show ((1 + a1 * 49 + a3 * 7 + a4) : Int).toNat = 1 + (a1).toNat * 49 + (a3).toNat * 7 + (a4).toNat from by omega] at aM
         change _ = some (Value.int .i64 (rd3 l0 a1 a3 a4)) at aM
         replace bG := eq_true bG
         replace bH := eq_true bH
         replace bI := eq_true bI
         replace bJ := eq_true bJ
         replace bK := eq_true bK
         replace bL := eq_true bL
         have bM : 0 ≤ (a1 : Int) := zA
         have bN : 0 ≤ (a2 : Int) := zA
         have bO : 0 ≤ (a4 : Int) := zA
         have bP : (a1 : Int) < 7 := zA
         have bQ : (a2 : Int) < 7 := zA
         have bR : (a4 : Int) < 7 := zA
         have dX := fH.out
         have dY : decide (0 ≤ ((1 + a1 * 49 + a2 * 7 + a4) : Int)) = true := decide_eq_true (by omega)
         have dZ : decide ((1 + a1 * 49 + a2 * 7 + a4) < (l0.length : Int)) = true := decide_eq_true (by omega)
         clear dX
         have cO : 0 ≤ ((1 + a1 * 49 + a2 * 7 + a4) : Int) := zA
         have cZ : (1 + a1 * 49 + a2 * 7 + a4) < (l0.length : Int) := zA
         obtain ⟨eB, fT, aD⟩ := Kd.at_int fG.out (1 + a1 * 49 + a2 * 7 + a4) cO cZ
         obtain rfl : (⟨g0, 0, none⟩ : Addr) = eB := (by injection fT)
         (first | simp only [add_plain] at aD | simp only [jBs] at aD | simp only [Addr.add, Nat.zero_add] at aD | skip)
         have aN := aD
         replace aD := (HB.out.cell (World.block_lt_of_cell? w _ aD)).trans aD
         replace cO := eq_true cO
         replace cZ := eq_true cZ
         clear dY dZ
         clear cO cZ
         rw [show ((1 + a1 * 49 + a2 * 7 + a4) : Int).toNat = 1 + (a1).toNat * 49 + (a2).toNat * 7 + (a4).toNat from by omega] at aD
         change _ = some (Value.int .i64 (rd3 l0 a1 a2 a4)) at aD
         rw [show ((1 + a1 * 49 + a2 * 7 + a4) : Int).toNat = 1 + (a1).toNat * 49 + (a2).toNat * 7 + (a4).toNat from by omega] at aN
         change _ = some (Value.int .i64 (rd3 l0 a1 a2 a4)) at aN
         replace bM := eq_true bM
         replace bN := eq_true bN
         replace bO := eq_true bO
         replace bP := eq_true bP
         replace bQ := eq_true bQ
         replace bR := eq_true bR
         have bS : 0 ≤ (a1 : Int) := zA
         have bT : 0 ≤ (a2 : Int) := zA
         have bU : 0 ≤ (a3 : Int) := zA
         have bV : (a1 : Int) < 7 := zA
         have bW : (a2 : Int) < 7 := zA
         have bX : (a3 : Int) < 7 := zA
         have eD := fH.out
         have eF : decide (0 ≤ ((1 + a1 * 49 + a2 * 7 + a3) : Int)) = true := decide_eq_true (by omega)
         have eG : decide ((1 + a1 * 49 + a2 * 7 + a3) < (l0.length : Int)) = true := decide_eq_true (by omega)
         clear eD
         have dA : 0 ≤ ((1 + a1 * 49 + a2 * 7 + a3) : Int) := zA
         have dB : (1 + a1 * 49 + a2 * 7 + a3) < (l0.length : Int) := zA
         obtain ⟨eH, fU, aG⟩ := Kd.at_int fG.out (1 + a1 * 49 + a2 * 7 + a3) dA dB
         obtain rfl : (⟨g0, 0, none⟩ : Addr) = eH := (by injection fU)
         (first | simp only [add_plain] at aG | simp only [jBs] at aG | simp only [Addr.add, Nat.zero_add] at aG | skip)
         have aQ := aG
         replace aG := (HB.out.cell (World.block_lt_of_cell? w _ aG)).trans aG
         replace dA := eq_true dA
         replace dB := eq_true dB
         clear eF eG
         clear dA dB
         rw [show ((1 + a1 * 49 + a2 * 7 + a3) : Int).toNat = 1 + (a1).toNat * 49 + (a2).toNat * 7 + (a3).toNat from by omega] at aG
         change _ = some (Value.int .i64 (rd3 l0 a1 a2 a3)) at aG
         rw [show ((1 + a1 * 49 + a2 * 7 + a3) : Int).toNat = 1 + (a1).toNat * 49 + (a2).toNat * 7 + (a3).toNat from by omega] at aQ
         change _ = some (Value.int .i64 (rd3 l0 a1 a2 a3)) at aQ
         replace bS := eq_true bS
         replace bT := eq_true bT
         replace bU := eq_true bU
         replace bV := eq_true bV
         replace bW := eq_true bW
         replace bX := eq_true bX
         refine Ya (n := 45) (S := fun w' => w'.cell? ⟨g0, 1 + (a2).toNat * 49 + (a3).toNat * 7 + (a4).toNat, none⟩ = some (.int .i64 (rd3 l0 a2 a3 a4)) ∧ w'.cell? ⟨g0, 1 + (a1).toNat * 49 + (a3).toNat * 7 + (a4).toNat, none⟩ = some (.int .i64 (rd3 l0 a1 a3 a4)) ∧ w'.cell? ⟨g0, 1 + (a1).toNat * 49 + (a2).toNat * 7 + (a4).toNat, none⟩ = some (.int .i64 (rd3 l0 a1 a2 a4)) ∧ w'.cell? ⟨g0, 1 + (a1).toNat * 49 + (a2).toNat * 7 + (a3).toNat, none⟩ = some (.int .i64 (rd3 l0 a1 a2 a3))) (ds := []) #[false, false, false, false, false, false, false, false, false, false, false, false, false, false, false, false, false, false, false, false, false, false, false, false, false, false, false, false, false, false, false, false, false, false, false, false, false, false, false, false, false, false, false, false, false] (by kernel_rfl) rfl rfl ⟨((HB.out.cell (World.block_lt_of_cell? w _ aK)).trans aK), ((HB.out.cell (World.block_lt_of_cell? w _ aM)).trans aM), ((HB.out.cell (World.block_lt_of_cell? w _ aN)).trans aN), ((HB.out.cell (World.block_lt_of_cell? w _ aQ)).trans aQ)⟩ (fun hHeld => ?_); refine Z0 Q3.tab2 Q3.bits2 (fun HT_ HW_ => ?_)
         generalize w.drew = iL at HB aA aC aD aG hHeld ⊢
         refine zP 0 (some 14) rfl rfl ?_
         refine zP 1 (some 15) rfl rfl ?_
         refine zP 2 (some 16) rfl rfl ?_
         refine zP 3 (some 17) rfl rfl ?_
         refine zP 4 (some 18) rfl rfl ?_
         refine zP 5 (some 19) rfl rfl ?_
         refine zP 6 (some 20) rfl rfl ?_
         refine zP 7 (some 21) rfl rfl ?_
         refine zP 8 (some 22) rfl rfl ?_
         refine zP 10 (some 24) rfl rfl ?_
         refine zP 11 (some 25) rfl rfl ?_
         refine zP 12 (some 26) rfl rfl ?_
         refine zP 13 (some 27) rfl rfl ?_
         refine zP 14 (some 28) rfl rfl ?_
         refine zP 15 (some 29) rfl rfl ?_
         refine zP 16 (some 30) rfl rfl ?_
         refine zP 17 (some 31) rfl rfl ?_
         refine zP 18 (some 32) rfl rfl ?_
         refine zP 21 (some 35) rfl rfl ?_
         refine zP 22 (some 36) rfl rfl ?_
         refine zP 23 (some 37) rfl rfl ?_
         refine zP 24 (some 38) rfl rfl ?_
         refine zP 25 (some 39) rfl rfl ?_
         refine zP 26 (some 40) rfl rfl ?_
         refine zP 27 (some 41) rfl rfl ?_
         refine zP 28 (some 42) rfl rfl ?_
         refine zP 29 (some 43) rfl rfl ?_
         refine zP 31 (some 45) rfl rfl ?_
         refine zP 32 (some 46) rfl rfl ?_
         refine zP 33 (some 47) rfl rfl ?_
         refine zP 34 (some 48) rfl rfl ?_
         refine zP 35 (some 49) rfl rfl ?_
         refine zP 36 (some 50) rfl rfl ?_
         refine zP 37 (some 51) rfl rfl ?_
         refine zP 38 (some 52) rfl rfl ?_
         refine zP 39 (some 53) rfl rfl ?_
         refine zP 44 (some 58) rfl rfl ?_
         refine zY4 9 (some 23) rfl rfl hHeld ?_
         refine zY4 19 (some 33) rfl rfl hHeld ?_
         refine zP 20 (some 34) rfl rfl ?_
         refine zY4 30 (some 44) rfl rfl hHeld ?_
         refine zY4 40 (some 54) rfl rfl hHeld ?_
         refine zP 41 (some 55) rfl rfl ?_
         refine zU 42 (some 56) rfl rfl (fun K hK => ?_)
         refine Kd.R_lit_step (Kd.int .i64) _ 3 ?hg (N := 56) ?hd (xs := ([rd3 l0 a2 a3 a4, wrap64 (-(rd3 l0 a1 a3 a4)), rd3 l0 a1 a2 a4, wrap64 (-(rd3 l0 a1 a2 a3))] : List Int)) (inner := [.int .i64 (rd3 l0 a2 a3 a4), .int .i64 (wrap64 (-(rd3 l0 a1 a3 a4))), .int .i64 (rd3 l0 a1 a2 a4), .int .i64 (wrap64 (-(rd3 l0 a1 a2 a3)))]) (ok := fun _ => True) (okp := fun _ => True) ?hr ?hp (fun _ hk => hk) trivial (Below.refl _ _) (Nat.le_refl _) (by simp) ?_; (case hd => rfl); (case hg => rfl); (case hr => first | (go_simp; done) | (go_simp; rfl)); (case hp => exact (Xb.one (show Kd.M (Kd.int .i64) _ _ _ (rd3 l0 a2 a3 a4) [.int .i64 (rd3 l0 a2 a3 a4)] from rfl) (Xb.one (show Kd.M (Kd.int .i64) _ _ _ (wrap64 (-(rd3 l0 a1 a3 a4))) [.int .i64 (wrap64 (-(rd3 l0 a1 a3 a4)))] from rfl) (Xb.one (show Kd.M (Kd.int .i64) _ _ _ (rd3 l0 a1 a2 a4) [.int .i64 (rd3 l0 a1 a2 a4)] from rfl) (Xb.one (show Kd.M (Kd.int .i64) _ _ _ (wrap64 (-(rd3 l0 a1 a2 a3))) [.int .i64 (wrap64 (-(rd3 l0 a1 a2 a3)))] from rfl) (Xb.none _ _))))))
         intro iA iM dC hb hg_ hnew_
         clear hg_ hnew_
         (first | rw [← dE.out] at dC | (simp only [Int.reduceToNat] at dC; rw [← dE.out] at dC))
         have dF := Qa.mk (Kd.R_lower dC (Ql zB))
         replace HB := zX hb
         clear hb dC
         obtain ⟨fV, fZ, eO⟩ := Kd.R_slice dF.out
         (first | subst eO | (injection eO with gP iB gQ; have iC := gP.symm; have iD := gQ.symm; clear gP iB gQ; subst iC; subst iD))
         refine hK.out _ _ ⟨((HB.out.cell (World.block_lt_of_cell? w _ aK)).trans aK), ((HB.out.cell (World.block_lt_of_cell? w _ aM)).trans aM), ((HB.out.cell (World.block_lt_of_cell? w _ aN)).trans aN), ((HB.out.cell (World.block_lt_of_cell? w _ aQ)).trans aQ)⟩ (fun hHeld => ?_)
         clear hK K
         refine zN ?_
         refine zP 43 (some 57) rfl rfl ?_
         refine Vh (Xu HT_.out (by kernel_rfl)) ?_
         try go_wp2
         go_loopg [11, 58] k (fun kq v11 v58 w' => ∃ (aI : List Int) (aJ : Int), v58 = .int .i64 aJ ∧ Qa (Q3.l0 kq aI aV (aV.length : Int) aJ = some r) ∧ Qa (kq ≤ k) ∧ Qa (Kd.R (Kd.int .u8) 5 w' w.heap.size (fun _ => True) v11 aI) ∧ Qa (Kd.R (Kd.int .i64) 3 w' w.heap.size (fun _ => True) (.slice fV aV.length fZ) aV) ∧ Qa (Below w.heap.size w w'))
         case atStart => exact ⟨(([] : List Int)), (0), zF, H', ⟨Nat.le_refl _⟩, ⟨by first | exact Kd.R_nil _ _ _ _ _ | exact Kd.N_nil _ _ _ _ _ | exact Kd.V_nil _ _ _ _ _ | exact Kd.Q_nil _ _ _ _ _ | exact Kd.S_nil _ _ _ _ _⟩, ⟨zR dF.out⟩, ⟨zB⟩⟩
         case round =>
         clear H'
         try clear c6
         try clear fJ
         try clear c7
         try clear fK
         try clear c8
         try clear fM
         try clear c9
         try clear fO
         try clear c10
         try clear dK
         try clear c11
         try clear dL
         try clear c12
         try clear dM
         try clear c13
         try clear dN
         try clear aA
         try clear aC
         try clear aD
         try clear aG
         try clear bY
         try clear cB
         try clear cO
         try clear dA
         try clear bZ
         try clear cK
         try clear cZ
         try clear dB
         obtain ⟨aI, aJ, rfl, HA, fI, aH, aT, HB⟩ := hrel
         cases gk with
         | zero => exact absurd HA.out (by simp [Q3.l0])
         | succ k1 =>
         have H := HA.out
         clear HA
         simp only [Q3.l0] at H
         replace H := Z5 H
         rcases H with ⟨eP, H⟩ | ⟨eP, H⟩
         ·replace H := Zq H
          rcases H with ⟨gT, H⟩ | ⟨c19, H⟩
          ·replace H := Zq H
           rcases H with ⟨gU, H⟩ | ⟨c20, H⟩
           ·replace H := Vt H
            rcases H with ⟨c21, H⟩ | ⟨c21, H⟩
            ·have eQ : decide (0 < (rd aV aJ)) = true := decide_eq_true c21
             clear c21
             replace H := Vt H
             rcases H with ⟨gB, H⟩ | ⟨gB, H⟩
             ·have eT := Qa.mk gB
              clear gB
              generalize dG : (aI ++ [43] : List Int) = gD at H
              have eU := Qa.mk dG.symm
              clear dG
              have H' := Qa.mk H; clear H
              have aW : 0 ≤ (aJ : Int) := zA
              have aX : aJ < (aV.length : Int) := zA
              obtain ⟨eX, dI, dD⟩ := Kd.at_int (Kd.R_reads' aT.out).2.2 aJ aW aX
              cases dI
              replace aW := eq_true aW
              replace aX := eq_true aX
              go_wp2_with (first | ((with_reducible refine Z9 (b := .append) (xs := #[.tmp 64, .tmp 65]) rfl ?_); at_builtin; refine Kd.R_append (Kd.int .u8) (w0 := w) w.heap.size rfl (.tmp 64) (.tmp 65) 22 5 (.int .u8 0) 1 rfl Try.underlying22 info5 rfl (by decide) (by omega) u11 aI 43 [.int .u8 43] (fun _ => True) (fun _ => False) rfl rfl ?aP (fun _ hk => hk.elim) ?aF ?aO ?aB ?aS ?aL ?_; (case aP => exact rfl); (case aB => exact zB); (case aF => exact (fun _ _ => trivial)); (case aO => exact (zR aH.out)); (case aS => exact (Ql zB)); (case aL => have := eT.out; omega); intro iE iN ho hb hg hat; rw [← eU.out] at ho; replace aT := Qa.mk (Kd.R_over' (zR aT.out) (Kd.R_typed (zR aH.out)) (by decide) hg); have eY := Qa.mk (ho); replace HB := Qa.mk (hb); clear aH; clear ho hb hg hat))
              go_roundg k1
              case measure => have := fI.out; omega
              case rel => exact ⟨(gD), (wrap64 (aJ + 1)), zF, H', ⟨by have := fI.out; omega⟩, ⟨zR eY.out⟩, ⟨zR aT.out⟩, ⟨zB⟩⟩
             exact absurd H (by simp)
            have eQ : decide (0 < (rd aV aJ)) = false := decide_eq_false c21
            clear c21
            replace H := Vt H
            rcases H with ⟨c24, H⟩ | ⟨c24, H⟩
            ·have eZ := Qa.mk c24
             clear c24
             generalize dH : (aI ++ [45] : List Int) = gF at H
             have fA := Qa.mk dH.symm
             clear dH
             have H' := Qa.mk H; clear H
             have aW : 0 ≤ (aJ : Int) := zA
             have aX : aJ < (aV.length : Int) := zA
             obtain ⟨eX, dI, dD⟩ := Kd.at_int (Kd.R_reads' aT.out).2.2 aJ aW aX
             cases dI
             replace aW := eq_true aW
             replace aX := eq_true aX
             go_wp2_with (first | ((with_reducible refine Z9 (b := .append) (xs := #[.tmp 67, .tmp 68]) rfl ?_); at_builtin; refine Kd.R_append (Kd.int .u8) (w0 := w) w.heap.size rfl (.tmp 67) (.tmp 68) 22 5 (.int .u8 0) 1 rfl Try.underlying22 info5 rfl (by decide) (by omega) u11 aI 45 [.int .u8 45] (fun _ => True) (fun _ => False) rfl rfl ?aP (fun _ hk => hk.elim) ?aF ?aO ?aB ?aS ?aL ?_; (case aP => exact rfl); (case aB => exact zB); (case aF => exact (fun _ _ => trivial)); (case aO => exact (zR aH.out)); (case aS => exact (Ql zB)); (case aL => have := eZ.out; omega); intro iF iO ho hb hg hat; rw [← fA.out] at ho; replace aT := Qa.mk (Kd.R_over' (zR aT.out) (Kd.R_typed (zR aH.out)) (by decide) hg); have fB := Qa.mk (ho); replace HB := Qa.mk (hb); clear aH; clear ho hb hg hat))
             go_roundg k1
             case measure => have := fI.out; omega
             case rel => exact ⟨(gF), (wrap64 (aJ + 1)), zF, H', ⟨by have := fI.out; omega⟩, ⟨zR fB.out⟩, ⟨zR aT.out⟩, ⟨zB⟩⟩
            exact absurd H (by simp)
           exact absurd H (by simp)
          exact absurd H (by simp)
         replace H := jA4 H
         rcases H with ⟨gV, gW, H⟩ | ⟨gV, H⟩
         ·have gX : decide (0 < aI.length) = true := decide_eq_true (by omega)
          clear gV
          replace H := Zi H
          rcases H with ⟨fC, fD, H⟩ | ⟨iP, fC, fD, H⟩
          ·obtain ⟨gG, iG, H⟩ := zO H
           obtain rfl := Option.some.inj H
           obtain ⟨iH, iI, gH⟩ := Kd.R_slice aH.out
           subst gH
           have aY : 0 ≤ (0 : Int) := (by omega)
           have aZ : 0 < (aI.length : Int) := zA
           obtain ⟨fE, dJ, aU⟩ := Kd.at_int (Kd.R_reads' aH.out).2.2 0 aY aZ
           cases dJ
           have fF : (0 < aI.length) = True := eq_true (by omega)
           (try rw [show ((0 : Int)).toNat = 0 from rfl] at aU)
           (try rw [Addr.add_zero'] at aU)
           replace aY := eq_true aY
           replace aZ := eq_true aZ
           have gY := jDj (P := Try.prog) Try.underlying22 Try.underlying5 Try.underlying9 (Kd.own_of_R aH.out)
           go_wp2_with (first | ((with_reducible refine Qb (f := 147) rfl ?_); refine zD (some 77) Try.func147 _ ((V8.calls (strOfNums aI) gG _ iG.out).mono ?_); rintro e iQ ⟨rfl, hb⟩; refine ⟨_, rfl, ?_⟩; replace aH := zW aH.out hb; replace aT := zW aT.out hb; replace HB := zX hb; (try clear hb)))
           go_ret
           exact ⟨zE, zB⟩
          obtain rfl := Option.some.inj H
          obtain ⟨iJ, iK, gJ⟩ := Kd.R_slice aH.out
          subst gJ
          have aY : 0 ≤ (0 : Int) := (by omega)
          have aZ : 0 < (aI.length : Int) := zA
          obtain ⟨fE, dJ, aU⟩ := Kd.at_int (Kd.R_reads' aH.out).2.2 0 aY aZ
          cases dJ
          have fF : (0 < aI.length) = True := eq_true (by omega)
          (try rw [show ((0 : Int)).toNat = 0 from rfl] at aU)
          (try rw [Addr.add_zero'] at aU)
          replace aY := eq_true aY
          replace aZ := eq_true aZ
          have gZ := jDj (P := Try.prog) Try.underlying22 Try.underlying5 Try.underlying9 (Kd.own_of_R aH.out)
          go_wp2
          go_ret
          exact ⟨zE, zB⟩
         exact absurd H (by simp)
        exact absurd H (by simp)
       exact absurd H (by simp)
      exact absurd H (by simp)
     exact absurd H (by simp)
    exact absurd H (by simp)
   exact absurd H (by simp)
  exact absurd H (by simp)
 exact absurd H (by simp)
def J8.l0 : Nat → List Int → List (S91) → Int → Int → Option (Bool)
 | 0, _, _, _, _ => none
 | k + 1, x0, x9, aD, aA => if aA < aD then (if 0 ≤ aA then (if aA < (x9.length : Int) then ((Q3.f k x0 ((Qj x9 aA).f0) ((Qj x9 aA).f1) ((Qj x9 aA).f2) ((Qj x9 aA).f3)).bind fun aC => (if aC.toList = ([43, 43, 43, 43] : List UInt8) then (some false) else (J8.l0 k x0 x9 aD (wrap64 (aA + 1))))) else (none)) else (none)) else (some true)
def J8.f (k : Nat) (l0 : List Int) : Option (Bool) := (Q9.f k (rd l0 0)).bind fun aA => (J8.l0 k l0 aA (aA.length : Int) 0)
set_option maxHeartbeats 8000000 in
set_option maxRecDepth 100000 in
theorem J8.calls (k : Nat) (g0 : Nat) (l0 : List Int) (r : Bool) (w : World) (hr0 : Kd.C (Kd.int .i64) w (some ⟨g0, 0, none⟩) l0.length l0) (hc0 : l0.length = 344) (h : J8.f k l0 = some r) :
  Calls Try.prog 92 #[.pointer (some ⟨g0, 0, none⟩)] w fun e w' => e = .returned (.bool r) ∧ Below w.heap.size w w' := by
 have cO := Try.underlying91
 have bZ := Try.underlying115
 have bS := Qa.mk hr0
 have bT := Qa.mk hc0
 clear hr0 hc0
 have HB := Qa.mk (Below.refl w.heap.size w)
 have H := h
 unfold J8.f at H
 clear h
 obtain ⟨aC, A2, H⟩ := zO H
 have H' := Qa.mk H; clear H
 obtain ⟨bU, bV, cB, aQ⟩ := zC0 bS.out bT.out
 go_enter Try.func92, Try.ntmps92
 go_wp2_with (first | ((with_reducible refine Qb (f := 110) rfl ?_); refine zD (some 9) Try.func110 _ ((Q9.calls k (rd l0 0) aC _ A2.out).mono ?_); rintro e w3 ⟨cZ, rfl, ho0, hb⟩; refine ⟨_, rfl, ?_⟩; have aX := Qa.mk (Kd.R_lower ho0 (Ql zB)); replace HB := zX hb; (try clear hb); (try clear ho0); obtain ⟨dA, dB, dC⟩ := Kd.R_slice aX.out; subst dC))
 go_loopg [11] k (fun kq v11 w' => ∃ (aA : Int), v11 = .int .i64 aA ∧ Qa (J8.l0 kq l0 aC (aC.length : Int) aA = some r) ∧ Qa (kq ≤ k) ∧ Qa (Kd.R k91 91 w' w.heap.size (fun _ => True) (.slice dA aC.length dB) aC) ∧ Qa (Below w.heap.size w w'))
 case atStart => exact ⟨(0), zF, H', ⟨Nat.le_refl _⟩, ⟨zR aX.out⟩, ⟨zB⟩⟩
 case round =>
 clear H'
 try clear aQ
 try clear bU
 try clear bV
 obtain ⟨aA, rfl, HA, cK, aG, HB⟩ := hrel
 cases gk with
 | zero => exact absurd HA.out (by simp [J8.l0])
 | succ k1 =>
 have H := HA.out
 clear HA
 simp only [J8.l0] at H
 replace H := Z5 H
 rcases H with ⟨bW, H⟩ | ⟨bW, H⟩
 ·replace H := Zq H
  rcases H with ⟨dD, H⟩ | ⟨c6, H⟩
  ·replace H := Zq H
   rcases H with ⟨dE, H⟩ | ⟨c7, H⟩
   ·obtain ⟨aZ, A8, H⟩ := zO H
    replace H := Zi H
    rcases H with ⟨bX, bY, H⟩ | ⟨c9, bX, bY, H⟩
    ·obtain rfl := Option.some.inj H
     have aJ : 0 ≤ (aA : Int) := zA
     have aK : aA < (aC.length : Int) := zA
     obtain ⟨bA, aY, aT, aU, aV, aW⟩ := Kq (Kd.R_reads' aG.out).2.2 aA aJ aK
     cases aY
     replace aJ := eq_true aJ
     replace aK := eq_true aK
     go_wp2_with (first | ((with_reducible refine Qf (N := 4) rfl ?_); refine zBx (N := 4) #[.int .i64 0, .int .i64 0, .int .i64 0, .int .i64 0] 91 ?_; intro aD hg dF hbox hb; replace aG := Qa.mk (Kd.R_below (Kd.R_elderB (zR aG.out) aD (Nat.le_of_eq hg.symm)) hb); have aH := Qa.mk (hbox); have bB := zS hg; have aI := zS hg; replace HB := zX hb; clear hb hbox hg; obtain ⟨bC, bD, bE, bF, bG, bH, bI, bJ⟩ := zq4 aH.out) | ((with_reducible refine Qb (f := 96) rfl ?_); refine zD (some 24) Try.func96 #[.pointer (some ⟨g0, 0, none⟩), .int .i64 ((Qj aC aA).f0), .int .i64 ((Qj aC aA).f1), .int .i64 ((Qj aC aA).f2), .int .i64 ((Qj aC aA).f3)] ((Q3.calls k1 _ l0 ((Qj aC aA).f0) ((Qj aC aA).f1) ((Qj aC aA).f2) ((Qj aC aA).f3) aZ _ ?aM ?aN A8.out).mono ?_); (case aM => exact Kd.C_below bS.out (zG aI.out)); (case aN => exact bT.out); rintro e dG ⟨rfl, hb⟩; refine ⟨_, rfl, ?_⟩; replace aG := Qa.mk (Kd.R_below (by (with_reducible repeat (first | apply Kd.R_alloc | apply Kd.R_drewN | apply Kd.R_drew)); exact (Kd.R_mono (Kd.R_far (p := ⟨aD, 3, none⟩) (Kd.R_far (p := ⟨aD, 2, none⟩) (Kd.R_far (p := ⟨aD, 1, none⟩) (Kd.R_far (p := ⟨aD, 0, none⟩) (Kd.R_mono aG.out (fun k_ hk => (⟨hk, hk.2⟩ : _ ∧ k_ ≠ aD))) (fun _ hk => hk.2) (.int .i64 ((Qj aC aA).f0))) (fun _ hk => hk.2) (.int .i64 ((Qj aC aA).f1))) (fun _ hk => hk.2) (.int .i64 ((Qj aC aA).f2))) (fun _ hk => hk.2) (.int .i64 ((Qj aC aA).f3))) (fun _ h_ => h_.1))) hb); replace aH := Qa.mk (Zj (g := aD) (o := .cells #[.int .i64 ((Qj aC aA).f0), .int .i64 ((Qj aC aA).f1), .int .i64 ((Qj aC aA).f2), .int .i64 ((Qj aC aA).f3)] 91 (0, 0)) (zk0 aH.out) hb); replace HB := zX1 aI.out hb; (try clear hb)))
     go_ret
     exact ⟨zE, zG aI.out⟩
    have H' := Qa.mk H; clear H
    have aJ : 0 ≤ (aA : Int) := zA
    have aK : aA < (aC.length : Int) := zA
    obtain ⟨bA, aY, aT, aU, aV, aW⟩ := Kq (Kd.R_reads' aG.out).2.2 aA aJ aK
    cases aY
    replace aJ := eq_true aJ
    replace aK := eq_true aK
    go_wp2_with (first | ((with_reducible refine Qf (N := 4) rfl ?_); refine zBx (N := 4) #[.int .i64 0, .int .i64 0, .int .i64 0, .int .i64 0] 91 ?_; intro aD hg dH hbox hb; replace aG := Qa.mk (Kd.R_below (Kd.R_elderB (zR aG.out) aD (Nat.le_of_eq hg.symm)) hb); have aH := Qa.mk (hbox); have bB := zS hg; have aI := zS hg; replace HB := zX hb; clear hb hbox hg; obtain ⟨bK, bL, bM, bN, bO, bP, bQ, bR⟩ := zq4 aH.out) | ((with_reducible refine Qb (f := 96) rfl ?_); refine zD (some 24) Try.func96 #[.pointer (some ⟨g0, 0, none⟩), .int .i64 ((Qj aC aA).f0), .int .i64 ((Qj aC aA).f1), .int .i64 ((Qj aC aA).f2), .int .i64 ((Qj aC aA).f3)] ((Q3.calls k1 _ l0 ((Qj aC aA).f0) ((Qj aC aA).f1) ((Qj aC aA).f2) ((Qj aC aA).f3) aZ _ ?aM ?aN A8.out).mono ?_); (case aM => exact Kd.C_below bS.out (zG aI.out)); (case aN => exact bT.out); rintro e dI ⟨rfl, hb⟩; refine ⟨_, rfl, ?_⟩; replace aG := Qa.mk (Kd.R_below (by (with_reducible repeat (first | apply Kd.R_alloc | apply Kd.R_drewN | apply Kd.R_drew)); exact (Kd.R_mono (Kd.R_far (p := ⟨aD, 3, none⟩) (Kd.R_far (p := ⟨aD, 2, none⟩) (Kd.R_far (p := ⟨aD, 1, none⟩) (Kd.R_far (p := ⟨aD, 0, none⟩) (Kd.R_mono aG.out (fun k_ hk => (⟨hk, hk.2⟩ : _ ∧ k_ ≠ aD))) (fun _ hk => hk.2) (.int .i64 ((Qj aC aA).f0))) (fun _ hk => hk.2) (.int .i64 ((Qj aC aA).f1))) (fun _ hk => hk.2) (.int .i64 ((Qj aC aA).f2))) (fun _ hk => hk.2) (.int .i64 ((Qj aC aA).f3))) (fun _ h_ => h_.1))) hb); replace aH := Qa.mk (Zj (g := aD) (o := .cells #[.int .i64 ((Qj aC aA).f0), .int .i64 ((Qj aC aA).f1), .int .i64 ((Qj aC aA).f2), .int .i64 ((Qj aC aA).f3)] 91 (0, 0)) (zk0 aH.out) hb); replace HB := zX1 aI.out hb; (try clear hb)))
    go_roundg k1
    case measure => have := cK.out; omega
    case rel => exact ⟨(wrap64 (aA + 1)), zF, H', ⟨by have := cK.out; omega⟩, ⟨zR (Kd.R_mono aG.out (fun _ hk => trivial))⟩, ⟨zG aI.out⟩⟩
   exact absurd H (by simp)
  exact absurd H (by simp)
 obtain rfl := Option.some.inj H
 go_wp2
 go_ret
 exact ⟨zE, zB⟩
def Xr.f (k : Nat) (aA : Int) (aC : ByteArray) : Option (Bool) := (Yy.f aA aC).bind fun aG => (if aG = true then ((Zy.f k aA aC).bind fun aD => (if aD.length = 344 then ((J8.f k aD).bind fun aH => (some aH)) else (none))) else (some false))
set_option maxHeartbeats 8000000 in
set_option maxRecDepth 100000 in
theorem Xr.calls (k : Nat) (aD : Int) (aG : ByteArray) (r : Bool) (w : World) (h : Xr.f k aD aG = some r) :
  Calls Try.prog 23 #[.agg #[.int .i64 aD, .string aG]] w fun e w' => e = .returned (.bool r) ∧ Below w.heap.size w w' := by
 have bK := Try.underlying25
 have HB := Qa.mk (Below.refl w.heap.size w)
 have H := h
 unfold Xr.f at H
 clear h
 obtain ⟨bD, A2, H⟩ := zO H
 by_cases c3 : bD = true
 ·subst c3
  replace H := (if_pos rfl).symm.trans H
  obtain ⟨aI, A4, H⟩ := zO H
  replace H := Xw H
  rcases H with ⟨bL, bM, H⟩ | ⟨c5, H⟩
  ·obtain ⟨bE, A6, H⟩ := zO H
   obtain rfl := Option.some.inj H
   go_enter Try.func23, Try.ntmps23
   go_wp2_with (first | ((with_reducible refine Qf (N := 1) rfl ?_); refine zBx (N := 1) #[.int .i64 aD, .string aG] 25 ?_; intro aJ hg w7 hbox hb; have aA := Qa.mk (hbox); have aK := zS hg; have aC := zS hg; replace HB := zX hb; clear hb hbox hg; obtain ⟨bF, bG, bH, bI⟩ := zq2 aA.out) | ((with_reducible refine Qb (f := 21) rfl ?_); refine zD (some 4) Try.func21 _ ((Yy.calls aD aG true _ A2.out).mono ?_); rintro e w9 ⟨rfl, hb⟩; refine ⟨_, rfl, ?_⟩; replace aA := zV aA.out hb; replace HB := zX1 aC.out hb; (try clear hb); obtain ⟨aV, aW, aX, aY⟩ := zq2 aA.out) | (go_at_call 83; (with_reducible refine (Zy.calls k aD aG aI _ A4.out).mono ?_); rintro e bT ⟨bN, rfl, ho0, hb⟩; have aH := Qa.mk (Kd.R_lower ho0 (Ql (zG aC.out))); replace aA := zV aA.out hb; replace HB := zX1 aC.out hb; (try clear hb); (try clear hb2); (try clear hk); (try clear hi); (try clear ho0); obtain ⟨bO, bP, aM, aN, bJ, bQ, aQ⟩ := Kd.R_form aH.out (by have hl_ := Nat.le_of_eq (Eq.symm (zA : aI.length = 344)); omega); (first | cases aM | (injection aM with ea_ en_ ec_; (first | subst ea_ | (injection ea_ with ea_; subst ea_)); subst ec_; clear en_)); have bR := Qa.mk aN; have bS := Qa.mk aQ; clear aN bJ aQ) | (go_at_call 92; (with_reducible refine (J8.calls k _ aI bE _ ?aT ?aU A6.out).mono ?_); (case aT => exact zc ((Kd.R_reads' aH.out).2.2)); (case aU => exact (zA : aI.length = 344)); rintro e bU ⟨rfl, hb⟩; replace aH := zW aH.out hb; replace aA := zV aA.out hb; replace HB := zX1 aC.out hb; (try clear hb); (try clear hb2); (try clear hk); (try clear hi)))
   go_ret
   exact ⟨zE, zG aC.out⟩
  exact absurd H (by simp)
 replace c3 := Bool.eq_false_iff.mpr c3
 subst c3
 replace H := (if_neg zFf).symm.trans H
 obtain rfl := Option.some.inj H
 go_enter Try.func23, Try.ntmps23
 go_wp2_with (first | ((with_reducible refine Qf (N := 1) rfl ?_); refine zBx (N := 1) #[.int .i64 aD, .string aG] 25 ?_; intro aJ hg bV hbox hb; have aA := Qa.mk (hbox); have aK := zS hg; have aC := zS hg; replace HB := zX hb; clear hb hbox hg; obtain ⟨aZ, bA, bB, bC⟩ := zq2 aA.out) | ((with_reducible refine Qb (f := 21) rfl ?_); refine zD (some 4) Try.func21 _ ((Yy.calls aD aG false _ A2.out).mono ?_); rintro e w16 ⟨rfl, hb⟩; refine ⟨_, rfl, ?_⟩; replace aA := zV aA.out hb; replace HB := zX1 aC.out hb; (try clear hb)))
 go_ret
 exact ⟨zE, zG aC.out⟩
def Z6.f (k : Nat) (aA : Int) (aC : ByteArray) : Option (List Int × Bool) := (Xr.f k aA aC).bind fun aD => (if aD = true then ((Zy.f k aA aC).bind fun aG => (some (aG, true))) else (some (([] : List Int), false)))
set_option maxHeartbeats 8000000 in
set_option maxRecDepth 100000 in
theorem Z6.calls (k : Nat) (aD : Int) (aG : ByteArray) (r1 : List Int) (r2 : Bool) (w : World) (h : Z6.f k aD aG = some (r1, r2)) :
  Calls Try.prog 105 #[.agg #[.int .i64 aD, .string aG]] w fun e w' => ∃ bE : Value, e = .returned (.tuple #[jL1 bE, .bool r2]) ∧ Kd.R (Kd.int .i64) 115 w' w.heap.size (fun _ => True) bE r1 ∧ Below w.heap.size w w' := by
 have bF := Try.underlying25
 have HB := Qa.mk (Below.refl w.heap.size w)
 have H := h
 unfold Z6.f at H
 clear h
 obtain ⟨aT, A2, H⟩ := zO H
 by_cases c3 : aT = true
 ·subst c3
  replace H := (if_pos rfl).symm.trans H
  obtain ⟨aU, A4, H⟩ := zO H
  simp only [Option.some.injEq, Prod.mk.injEq] at H
  obtain ⟨rfl, rfl⟩ := H
  go_enter Try.func105, Try.ntmps105
  go_wp2_with (first | ((with_reducible refine Qf (N := 1) rfl ?_); refine zBx (N := 1) #[.int .i64 aD, .string aG] 25 ?_; intro aH hg w5 hbox hb; have aA := Qa.mk (hbox); have aI := zS hg; have aC := zS hg; replace HB := zX hb; clear hb hbox hg; obtain ⟨aV, aW, aX, aY⟩ := zq2 aA.out) | ((with_reducible refine Qb (f := 23) rfl ?_); refine zD (some 5) Try.func23 _ ((Xr.calls k aD aG true _ A2.out).mono ?_); rintro e w7 ⟨rfl, hb⟩; refine ⟨_, rfl, ?_⟩; replace aA := zV aA.out hb; replace HB := zX1 aC.out hb; (try clear hb); obtain ⟨aZ, bA, bB, bC⟩ := zq2 aA.out) | ((with_reducible refine Qb (f := 83) rfl ?_); refine zD (some 8) Try.func83 _ ((Zy.calls k aD aG aU _ A4.out).mono ?_); rintro e w9 ⟨bD, rfl, ho0, hb⟩; refine ⟨_, rfl, ?_⟩; have aJ := Qa.mk (Kd.R_lower ho0 (Ql (zG aC.out))); replace aA := zV aA.out hb; replace HB := zX1 aC.out hb; (try clear hb); (try clear ho0)))
  go_ret2
  exact ⟨bD, zE, zR aJ.out, zG aC.out⟩
 replace c3 := Bool.eq_false_iff.mpr c3
 subst c3
 replace H := (if_neg zFf).symm.trans H
 simp only [Option.some.injEq, Prod.mk.injEq] at H
 obtain ⟨rfl, rfl⟩ := H
 go_enter Try.func105, Try.ntmps105
 go_wp2_with (first | ((with_reducible refine Qf (N := 1) rfl ?_); refine zBx (N := 1) #[.int .i64 aD, .string aG] 25 ?_; intro aH hg bG hbox hb; have aA := Qa.mk (hbox); have aI := zS hg; have aC := zS hg; replace HB := zX hb; clear hb hbox hg; obtain ⟨aK, aM, aN, aQ⟩ := zq2 aA.out) | ((with_reducible refine Qb (f := 23) rfl ?_); refine zD (some 5) Try.func23 _ ((Xr.calls k aD aG false _ A2.out).mono ?_); rintro e bH ⟨rfl, hb⟩; refine ⟨_, rfl, ?_⟩; replace aA := zV aA.out hb; replace HB := zX1 aC.out hb; (try clear hb)))
 go_ret2
 exact ⟨.slice none 0 0, zE, by first | exact Kd.R_nil _ _ _ _ _ | exact Kd.N_nil _ _ _ _ _ | exact Kd.V_nil _ _ _ _ _ | exact Kd.Q_nil _ _ _ _ _ | exact Kd.S_nil _ _ _ _ _, zG aC.out⟩
mutual
def Jk.l0 : Nat → List Int → List (List Int) → Int → Int → ByteArray → Option ((List (List Int)))
 | 0, _, _, _, _, _ => none
 | k + 1, x3, x5, x6, aA, aC => if x6 < aA then (if 0 ≤ aA then (if (aA : Int).toNat ≤ 35184372088832 then ((some (List.replicate (aA : Int).toNat 0 : List Int)).bind fun aD => (Jk.l1 k x3 x5 x6 aD (aD.length : Int) 0 aA aC)) else (none)) else (none)) else (some x5)
def Jk.l1 : Nat → List Int → List (List Int) → Int → List Int → Int → Int → Int → ByteArray → Option ((List (List Int)))
 | 0, _, _, _, _, _, _, _, _ => none
 | k + 1, x3, x5, x6, x7, aG, x27, aA, aC => if x27 < aG then (if x6 = x27 then (Jk.l1 k x3 x5 x6 x7 aG (wrap64 (x27 + 1)) aA aC) else (if x3.length = 344 then ((Jm.f k x3 x6 x27).bind fun aD => (if 0 ≤ x27 then (if x27 < (x7.length : Int) then (Jk.l1 k x3 x5 x6 (x7.set (x27 : Int).toNat aD) aG (wrap64 (x27 + 1)) aA aC) else (none)) else (none))) else (none))) else (if x5.length < 5864062014805 then (Jk.l0 k x3 (x5 ++ [x7]) (wrap64 (x6 + 1)) aA aC) else (none))
end
def Jk.f (k : Nat) (aC : Int) (aD : ByteArray) : Option ((List (List Int))) := (Z6.f k aC aD).bind fun aA => (if aA.2 = true then (Jk.l0 k aA.1 ([] : List (List Int)) 0 aC aD) else (some ([] : List (List Int))))
set_option maxHeartbeats 8000000 in
set_option maxRecDepth 100000 in
theorem Jk.calls (k : Nat) (aN : Int) (aQ : ByteArray) (r : List (List Int)) (w : World) (h : Jk.f k aN aQ = some r) :
  Calls Try.prog 67 #[.agg #[.int .i64 aN, .string aQ]] w fun e w' => ∃ eT : Value, e = .returned (eT) ∧ Kd.S (Kd.slice 3 (Kd.int .i64)) 27 w' w.heap.size (fun _ => True) eT r ∧ Below w.heap.size w w' := by
 have fJ := Try.underlying25
 have HB := Qa.mk (Below.refl w.heap.size w)
 have H := h
 unfold Jk.f at H
 clear h
 obtain ⟨⟨aI, bZ⟩, A2, H⟩ := zO H
 dsimp only at H
 by_cases c3 : bZ = true
 ·subst c3
  replace H := (if_pos rfl).symm.trans H
  have H' := Qa.mk H; clear H
  go_enter Try.func67, Try.ntmps67
  go_wp2_with (first | ((with_reducible refine Qf (N := 1) rfl ?_); refine zBx (N := 1) #[.int .i64 aN, .string aQ] 25 ?_; intro aT hg w4 hbox hb; have aA := Qa.mk (hbox); have bS := zS hg; have aC := zS hg; replace HB := zX hb; clear hb hbox hg; obtain ⟨bC, bD, bE, bF⟩ := zq2 aA.out) | ((with_reducible refine Qb (f := 105) rfl ?_); refine zD (some 11) Try.func105 _ ((Z6.calls k aN aQ aI true _ A2.out).mono ?_); rintro e w6 ⟨bG, rfl, ho0, hb⟩; refine ⟨_, rfl, ?_⟩; have bH := Qa.mk (Kd.R_lower ho0 (Ql (zG aC.out))); replace aA := zV aA.out hb; replace HB := zX1 aC.out hb; (try clear hb); (try clear ho0)))
  go_loopg [5, 6] k (fun kq v5 v6 w' => ∃ (aV : List (List Int)) (aW : Int), v6 = .int .i64 aW ∧ Qa (Jk.l0 kq aI aV aW aN aQ = some r) ∧ Qa (kq ≤ k) ∧ Qa (Kd.R (Kd.int .i64) 115 w' w.heap.size (fun _ => True) bG aI) ∧ Qa (Kd.S (Kd.slice 3 (Kd.int .i64)) 27 w' w.heap.size (fun _ => True) v5 aV) ∧ Qa (w'.heap[aT]? = some (.cells #[.int .i64 aN, .string aQ] 25 (0, 0))) ∧ Qa (Below w.heap.size w w'))
  case atStart => exact ⟨(([] : List (List Int))), (0), zF, H', ⟨Nat.le_refl _⟩, ⟨zR bH.out⟩, ⟨by first | exact Kd.S_nil _ _ _ _ _ | exact Kd.N_nil _ _ _ _ _ | exact Kd.V_nil _ _ _ _ _ | exact Kd.Q_nil _ _ _ _ _ | exact Kd.R_nil _ _ _ _ _⟩, ⟨zK aA.out⟩, ⟨zG aC.out⟩⟩
  case round =>
  clear H'
  try clear c3
  try clear bC
  try clear bD
  try clear bE
  try clear bF
  obtain ⟨aV, aW, rfl, HA, bX, aJ, aH, aA, HB⟩ := hrel
  cases gk with
  | zero => exact absurd HA.out (by simp [Jk.l0])
  | succ k1 =>
  have H := HA.out
  clear HA
  simp only [Jk.l0] at H
  replace H := Z5 H
  rcases H with ⟨cB, H⟩ | ⟨cB, H⟩
  ·replace H := Xw H
   rcases H with ⟨dS, dU, H⟩ | ⟨c8, H⟩
   ·replace H := Xw H
    rcases H with ⟨dV, dW, H⟩ | ⟨c9, H⟩
    ·obtain ⟨aX, bI, H⟩ := zs H
     have H' := Qa.mk H; clear H
     obtain ⟨bN, bO, bP, bQ⟩ := zq2 aA.out
     go_wp2_with (first | ((with_reducible refine Qf (N := 24) rfl ?_); refine Kd.R_make (Kd.int .i64) _ 3 rfl (N := 24) rfl 27 _ _ rfl aN rfl rfl Try.underlying27 (.int .i64 0) 8 info3 rfl (by decide) (by omega) 0 (ok := fun _ => True) (okp := fun _ => True) rfl (fun _ hk => hk) trivial (zA) (Nat.le_trans (Nat.mul_le_mul_right _ (zA : aN.toNat ≤ 35184372088832)) (by omega)) (Below.refl _ _) (Nat.le_refl _) ?_; intro eU fV aZ hb hg_ hnew_; clear hg_ hnew_; (first | rw [← bI.out] at aZ | (simp only [Int.reduceToNat] at aZ; rw [← bI.out] at aZ)); replace aJ := zW aJ.out hb; replace aH := Qa.mk (Kd.S_elder' (zT aH.out) (Kd.R_base aZ) hb); have bJ := Qa.mk (Kd.R_lower aZ (Ql (zG aC.out))); replace aA := zV aA.out hb; replace HB := zX1 aC.out hb; clear hb aZ; obtain ⟨bA, aU, dX⟩ := Kd.R_slice bJ.out; subst dX))
     go_loopg [27] k1 (fun kq v27 w' => ∃ (aK : List Int) (aG : Int), v27 = .int .i64 aG ∧ Qa (Jk.l1 kq aI aV aW aK (aX.length : Int) aG aN aQ = some r) ∧ Qa (kq ≤ k1) ∧ Qa (Kd.R (Kd.int .i64) 115 w' w.heap.size (fun _ => True) bG aI) ∧ Qa (Kd.S (Kd.slice 3 (Kd.int .i64)) 27 w' w.heap.size (fun k_ => some k_ ≠ ((.slice bA aX.length aU) : Value).ownBlock) u5 aV) ∧ Qa (Kd.R (Kd.int .i64) 3 w' w.heap.size (fun _ => True) (.slice bA aX.length aU) aK) ∧ Qa (w'.heap[aT]? = some (.cells #[.int .i64 aN, .string aQ] 25 (0, 0))) ∧ Qa (Below w.heap.size w w'))
     case atStart => exact ⟨(aX), (0), zF, H', ⟨Nat.le_refl _⟩, ⟨zR aJ.out⟩, ⟨zT (Kd.S_mono aH.out (fun _ hk => hk.2))⟩, ⟨zR bJ.out⟩, ⟨zK aA.out⟩, ⟨zG aC.out⟩⟩
     case round =>
     clear H'
     try clear c3
     try clear c7
     try clear cB
     try clear c8
     try clear dS
     try clear dU
     try clear c9
     try clear dV
     try clear dW
     try clear bN
     try clear bO
     try clear bC
     try clear bD
     try clear bP
     try clear bQ
     try clear bE
     try clear bF
     obtain ⟨aK, aG, rfl, HA, bY, aJ, aH, aM, aA, HB⟩ := hrel
     have aD := (Kd.R_reads' aM.out).1
     rw [aD] at aM
     (try simp only [aD])
     (try simp only [aD] at aA)
     (try simp only [aD] at aJ)
     (try simp only [aD] at aH)
     cases gk with
     | zero => exact absurd HA.out (by simp [Jk.l1])
     | succ k2 =>
     have H := HA.out
     clear HA
     simp only [Jk.l1] at H
     replace H := jJw H
     rcases H with ⟨c14, bK, H⟩ | ⟨c14, bK, H⟩
     ·(try simp only [aD] at bK)
      clear c14
      replace H := Zi H
      rcases H with ⟨cK, cO, H⟩ | ⟨c15, cK, cO, H⟩
      ·have H' := Qa.mk H; clear H
       go_wp2
       (try simp only [← aD])
       go_roundg k2
       case measure => have := bX.out; have := bY.out; omega
       case rel => exact ⟨(aK), (wrap64 (aG + 1)), zF, H', ⟨by have := bX.out; have := bY.out; omega⟩, ⟨by (try simp only [aD]); (with_reducible repeat (first | apply Kd.R_alloc | apply Kd.R_drewN | apply Kd.R_drew)); exact aJ.out⟩, ⟨by (try simp only [aD]); (with_reducible repeat (first | apply Kd.S_alloc | apply Kd.S_drewN | apply Kd.S_drew)); exact aH.out⟩, ⟨by (try simp only [aD]); (with_reducible repeat (first | apply Kd.R_alloc | apply Kd.R_drewN | apply Kd.R_drew)); exact aM.out⟩, ⟨by (try simp only [aD]); (with_reducible repeat (first | refine Ve ?_ _ | refine Jo ?_ | refine Vb ?_ _)); exact aA.out⟩, ⟨zG aC.out⟩⟩
      replace H := Xw H
      rcases H with ⟨eX, eY, H⟩ | ⟨c16, H⟩
      ·obtain ⟨aY, fK, H⟩ := zO H
       replace H := Zq H
       rcases H with ⟨eZ, H⟩ | ⟨c18, H⟩
       ·replace H := Zq H
        rcases H with ⟨fA, H⟩ | ⟨c19, H⟩
        ·generalize bL : (aK.set (aG : Int).toNat aY : List Int) = bR at H
         have bT := Qa.mk bL.symm
         clear bL
         have H' := Qa.mk H; clear H
         obtain ⟨cZ, dY, dA, dB, dZ, fM, dC⟩ := Kd.R_form aJ.out (by have hl_ := Nat.le_of_eq (Eq.symm (zA : aI.length = 344)); omega)
         (first | cases dA | (injection dA with ea_ en_ ec_; (first | subst ea_ | (injection ea_ with ea_; subst ea_)); subst ec_; clear en_))
         have fO := Qa.mk dB
         have fP := Qa.mk dC
         clear dB dZ dC
         go_wp2_with (first | ((with_reducible refine Qb (f := 137) rfl ?_); refine zD (some 38) Try.func137 #[.pointer (some ⟨cZ, 0, none⟩), .int .i64 aW, .int .i64 aG] ((Jm.calls k2 _ aI aW aG aY _ ?dD ?dE fK.out).mono ?_); (case dD => exact zc ((Kd.R_reads' aJ.out).2.2)); (case dE => exact (zA : aI.length = 344)); rintro e w' ⟨rfl, ⟨nd, rfl⟩⟩; refine ⟨_, rfl, ?_⟩; (try (rw [jDv wr]; generalize hq_ : World.drewN wr _ = wr; have fB : Qa (Kd.R (Kd.int .i64) 115 wr w.heap.size (fun _ => True) (.slice (some ⟨cZ, 0, none⟩) aI.length dY) aI) := ⟨by rw [← hq_]; exact (zR aJ.out)⟩; have fC : Qa (Kd.S (Kd.slice 3 (Kd.int .i64)) 27 wr w.heap.size (fun k_ => some k_ ≠ (.slice bA aK.length aU : Value).ownBlock) u5 aV) := ⟨by rw [← hq_]; exact (zT aH.out)⟩; have fD : Qa (Kd.R (Kd.int .i64) 3 wr w.heap.size (fun _ => True) (.slice bA aK.length aU) aK) := ⟨by rw [← hq_]; exact (zR aM.out)⟩; have fE : Qa (wr.heap[aT]? = some (.cells #[.int .i64 aN, .string aQ] 25 (0, 0))) := ⟨by rw [← hq_]; exact (zK aA.out)⟩; have fF : Qa (Below w.heap.size w wr) := ⟨by rw [← hq_]; exact (zG aC.out)⟩; clear aJ aH aM aA HB hq_; have aJ := fB; have aH := fC; have aM := fD; have aA := fE; have HB := fF; clear fB fC fD fE fF)); have eB : 0 ≤ (aG : Int) := zA; have eD : (aG : Int) < ((aK.length : Int) : Int) := zA; obtain ⟨bB, fQ, dF, dG, eF, fT, dH⟩ := Kd.R_form aM.out (by omega); (first | cases dF | (injection dF with ea_ en_ ec_; (first | subst ea_ | (injection ea_ with ea_; subst ea_)); subst ec_; clear en_)); have eG := Qa.mk dG; have fU := Qa.mk dH; clear dG eF dH; obtain ⟨eH, eO⟩ := Kd.R_celln 0 aM.out (aG : Int) eB eD; replace eB := eq_true eB; replace eD := eq_true eD; obtain ⟨fG, fH⟩ := Kd.R_celln 0 aM.out (aG : Int) (zA) (zA); have bU := Kd.R_putg aM.out (aG : Int) aY) | ((with_reducible refine Kt (t := 3) (p := 39) rfl ?_); refine Ke (t := 3) (p := 39) (v := ?eP) (w1 := (wr.setCell ⟨bB, (aG : Int).toNat, none⟩ (.int .i64 aY))) ?hg ?ho ?hn ?hr ?_; (case ho => rfl); (case hg => rfl); (case hn => rfl); (case hr => first | (go_simp; done) | (go_simp; rfl)); intro eQ hw; have hg : wr.grownBy eQ (some bB) := (by rw [hw]; exact bU.2); have hp_ : Kd.R (Kd.int .i64) 3 eQ w.heap.size (fun _ => True) (.slice (some ⟨bB, 0, none⟩) aK.length aU) bR := (by rw [hw, bT.out]; exact bU.1); clear bU; replace aJ := Qa.mk (Kd.R_over' (v := (.slice (some ⟨bB, 0, none⟩) aK.length aU)) (zR aJ.out) (Kd.R_typed aM.out) (by decide) hg); replace aH := Qa.mk (Kd.S_after (v := (.slice (some ⟨bB, 0, none⟩) aK.length aU)) (v1 := (.slice (some ⟨bB, 0, none⟩) aK.length aU)) (ok := (fun _ => True)) (by (with_reducible repeat (first | apply Kd.S_alloc | apply Kd.S_drewN | apply Kd.S_drew)); exact Kd.S_mono aH.out (fun _ hk => ⟨trivial, hk⟩)) hg (.inl rfl)); replace aA := Qa.mk (Yh (g := aT) (o := .cells #[.int .i64 aN, .string aQ] 25 (0, 0)) (zK aA.out) hg (Kd.R_ne aM.out aA.out (by decide))); replace aM := Qa.mk (hp_); replace HB := Qa.mk ((by rw [hw]; exact Jt (HB.out) eG.out : Below w.heap.size w eQ)); clear hg hw hp_))
         (try simp only [← aD])
         go_roundg k2
         case measure => have := bX.out; have := bY.out; omega
         case rel => exact ⟨(bR), (wrap64 (aG + 1)), zF, H', ⟨by have := bX.out; have := bY.out; omega⟩, ⟨by (try simp only [aD]); (with_reducible repeat (first | apply Kd.R_alloc | apply Kd.R_drewN | apply Kd.R_drew)); exact aJ.out⟩, ⟨by (try simp only [aD]); (with_reducible repeat (first | apply Kd.S_alloc | apply Kd.S_drewN | apply Kd.S_drew)); exact Kd.S_mono aH.out (fun _ hk => hk.2)⟩, ⟨by (try simp only [aD]); (with_reducible repeat (first | apply Kd.R_alloc | apply Kd.R_drewN | apply Kd.R_drew)); exact aM.out⟩, ⟨by (try simp only [aD]); (with_reducible repeat (first | refine Ve ?_ _ | refine Jo ?_ | refine Vb ?_ _)); exact aA.out⟩, ⟨zG aC.out⟩⟩
        exact absurd H (by simp)
       exact absurd H (by simp)
      exact absurd H (by simp)
     (try simp only [aD] at bK)
     clear c14
     replace H := Vt H
     rcases H with ⟨c24, H⟩ | ⟨c24, H⟩
     ·have dI := Qa.mk c24
      clear c24
      generalize bM : (aV ++ [aK] : List (List Int)) = dJ at H
      have bV := Qa.mk bM.symm
      clear bM
      have H' := Qa.mk H; clear H
      go_wp2_with (first | ((with_reducible refine Z9 (b := .append) (xs := #[.tmp 41, .tmp 43]) rfl ?_); at_builtin; refine Kd.S_append (Kd.slice 3 (Kd.int .i64)) (w0 := w) w.heap.size rfl (.tmp 41) (.tmp 43) 44 27 (.slice none 0 0) 24 rfl Try.underlying44 jFo rfl (by decide) (by omega) u5 aV aK [.slice bA aK.length aU] (fun _ => True) (fun k_ => some k_ = (.slice bA aK.length aU : Value).ownBlock) rfl rfl ?aP (fun k_ hk_ => ((Kd.R_mono (ok' := fun k_ => ((fun _ => True)) k_ ∧ some k_ ≠ (u5 : Value).ownBlock) (Kd.R_apart' (aM.out) (Kd.S_typed aH.out) (by decide)) (fun k_ hk => ⟨trivial, hk.2⟩))).1 k_ hk_.symm) ?aF ?aO ?aB ?aS ?aL ?_; (case aP => exact Kd.M_row (Kd.R_mono (Kd.R_tight rfl (Kd.R_mono (ok' := fun k_ => ((fun _ => True)) k_ ∧ some k_ ≠ (u5 : Value).ownBlock) (Kd.R_apart' (aM.out) (Kd.S_typed aH.out) (by decide)) (fun k_ hk => ⟨trivial, hk.2⟩))) (fun _ h_ => h_))); (case aB => exact (zG aC.out)); (case aF => exact (fun _ _ => trivial)); (case aO => exact (by (with_reducible repeat (first | apply Kd.S_alloc | apply Kd.S_drewN | apply Kd.S_drew)); exact Kd.S_mono aH.out (fun k_ hk => ⟨trivial, fun e_ => hk e_⟩))); (case aS => exact (Ql (zG aC.out))); (case aL => have := dI.out; omega); intro fI fZ ho hb hg hat; rw [← bV.out] at ho; replace aJ := Qa.mk (Kd.R_over' (zR aJ.out) (Kd.S_typed (zT aH.out)) (by decide) hg); replace aA := Qa.mk (Yh (g := aT) (o := .cells #[.int .i64 aN, .string aQ] 25 (0, 0)) (zK aA.out) hg (Kd.S_ne aH.out aA.out (by decide))); have bW := Qa.mk (ho); replace HB := Qa.mk (hb); clear aH aM; clear ho hb hg hat))
      (try simp only [← aD])
      go_roundg k2
      case measure => have := bX.out; have := bY.out; omega
      case rel => exact ⟨(dJ), (wrap64 (aW + 1)), zF, H', ⟨by have := bX.out; have := bY.out; omega⟩, ⟨by (try simp only [aD]); (with_reducible repeat (first | apply Kd.R_alloc | apply Kd.R_drewN | apply Kd.R_drew)); exact aJ.out⟩, ⟨by (try simp only [aD]); (with_reducible repeat (first | apply Kd.S_alloc | apply Kd.S_drewN | apply Kd.S_drew)); exact bW.out⟩, ⟨by (try simp only [aD]); (with_reducible repeat (first | refine Ve ?_ _ | refine Jo ?_ | refine Vb ?_ _)); exact aA.out⟩, ⟨zG aC.out⟩⟩
     exact absurd H (by simp)
    exact absurd H (by simp)
   exact absurd H (by simp)
  obtain rfl := Option.some.inj H
  obtain ⟨dK, dL, dM, dN⟩ := zq2 aA.out
  go_wp2
  go_ret
  exact ⟨_, zE, zT aH.out, zG aC.out⟩
 replace c3 := Bool.eq_false_iff.mpr c3
 subst c3
 replace H := (if_neg zFf).symm.trans H
 obtain rfl := Option.some.inj H
 go_enter Try.func67, Try.ntmps67
 go_wp2_with (first | ((with_reducible refine Qf (N := 1) rfl ?_); refine zBx (N := 1) #[.int .i64 aN, .string aQ] 25 ?_; intro aT hg gB hbox hb; have aA := Qa.mk (hbox); have bS := zS hg; have aC := zS hg; replace HB := zX hb; clear hb hbox hg; obtain ⟨dO, dP, dQ, dR⟩ := zq2 aA.out) | ((with_reducible refine Qb (f := 105) rfl ?_); refine zD (some 11) Try.func105 _ ((Z6.calls k aN aQ aI false _ A2.out).mono ?_); rintro e gD ⟨bG, rfl, ho0, hb⟩; refine ⟨_, rfl, ?_⟩; have bH := Qa.mk (Kd.R_lower ho0 (Ql (zG aC.out))); replace aA := zV aA.out hb; replace HB := zX1 aC.out hb; (try clear hb); (try clear ho0)))
 go_ret
 exact ⟨_, zE, by first | exact Kd.S_nil _ _ _ _ _ | exact Kd.N_nil _ _ _ _ _ | exact Kd.V_nil _ _ _ _ _ | exact Kd.Q_nil _ _ _ _ _ | exact Kd.R_nil _ _ _ _ _, zG aC.out⟩
mutual
def J5.l0 : Nat → List Int → List (List Int) → Int → Int → Option (List Int)
 | 0, _, _, _, _ => none
 | k + 1, x3, aC, aD, aA => if aA < aD then (if 0 ≤ aA then (if aA < (aC.length : Int) then (J5.l1 k x3 aA aC aD aA (Yz aC aA) ((Yz aC aA).length : Int) 0) else (none)) else (none)) else (some x3)
def J5.l1 : Nat → List Int → Int → List (List Int) → Int → Int → List Int → Int → Int → Option (List Int)
 | 0, _, _, _, _, _, _, _, _ => none
 | k + 1, x3, x4, aC, aD, aG, aA, x24, x25 => if x25 < x24 then (if 0 ≤ x25 then (if x25 < (aA.length : Int) then (if x4 = x25 then (J5.l1 k x3 x4 aC aD aG aA x24 (wrap64 (x25 + 1))) else (if 0 ≤ (rd aA x25) then (if (rd aA x25) < (x3.length : Int) then (J5.l1 k (x3.set ((rd aA x25) : Int).toNat (wrap64 ((rd x3 (rd aA x25)) + 1))) x4 aC aD aG aA x24 (wrap64 (x25 + 1))) else (none)) else (none))) else (none)) else (none)) else (J5.l0 k x3 aC aD (wrap64 (aG + 1)))
end
def J5.f (k : Nat) (aA : Int) (aD : ByteArray) : Option (List Int) := (Xr.f k aA aD).bind fun aG => (if aG = true then (if 0 ≤ (wrap64 (aA - 1)) then (if (wrap64 (aA - 1) : Int).toNat ≤ 35184372088832 then ((Jk.f k aA aD).bind fun aC => (J5.l0 k (List.replicate (wrap64 (aA - 1) : Int).toNat 0) aC (aC.length : Int) 0)) else (none)) else (none)) else (some ([] : List Int)))
set_option maxHeartbeats 8000000 in
set_option maxRecDepth 100000 in
theorem J5.calls (k : Nat) (aN : Int) (aV : ByteArray) (r : List Int) (w : World) (h : J5.f k aN aV = some r) :
  Calls Try.prog 65 #[.agg #[.int .i64 aN, .string aV]] w fun e w' => ∃ fQ : Value, e = .returned (fQ) ∧ Kd.R (Kd.int .i64) 3 w' w.heap.size (fun _ => True) fQ r ∧ Below w.heap.size w w' := by
 have gG := Try.underlying25
 have HB := Qa.mk (Below.refl w.heap.size w)
 have H := h
 unfold J5.f at H
 clear h
 obtain ⟨dP, A2, H⟩ := zO H
 by_cases c3 : dP = true
 ·subst c3
  replace H := (if_pos rfl).symm.trans H
  obtain ⟨eX, bN⟩ : ∃ j_ : Int, (wrap64 (aN - 1)) = j_ := ⟨_, rfl⟩
  first | rw [bN] at H | simp only [bN] at H
  (try rw [bN] at A2)
  have fT : (IntKind.i64.wrap (aN - 1)) = eX := (Zu _).trans bN
  replace H := Xw H
  rcases H with ⟨dQ, dR, H⟩ | ⟨c5, H⟩
  ·replace H := Xw H
   rcases H with ⟨dS, dU, H⟩ | ⟨c6, H⟩
   ·generalize bO : (List.replicate (eX : Int).toNat 0 : List Int) = dV at H
    have bP := Qa.mk bO.symm
    clear bO
    obtain ⟨aC, A7, H⟩ := zO H
    have H' := Qa.mk H; clear H
    go_enter Try.func65, Try.ntmps65
    go_wp2_with (first | ((with_reducible refine Qf (N := 1) rfl ?_); refine zBx (N := 1) #[.int .i64 aN, .string aV] 25 ?_; intro aW hg w8 hbox hb; have aA := Qa.mk (hbox); have dH := zS hg; have aH := zS hg; replace HB := zX hb; clear hb hbox hg; obtain ⟨bQ, bR, bS, bT⟩ := zq2 aA.out) | ((with_reducible refine Qb (f := 23) rfl ?_); refine zD (some 9) Try.func23 _ ((Xr.calls k aN aV true _ A2.out).mono ?_); rintro e gM ⟨rfl, hb⟩; refine ⟨_, rfl, ?_⟩; replace aA := zV aA.out hb; replace HB := zX1 aH.out hb; (try clear hb); obtain ⟨bE, bF, bG, bH⟩ := zq2 aA.out) | ((with_reducible refine Qf (N := 14) rfl ?_); refine Kd.R_make (Kd.int .i64) _ 3 rfl (N := 14) rfl 27 _ _ rfl eX rfl rfl Try.underlying27 (.int .i64 0) 8 info3 rfl (by decide) (by omega) 0 (ok := fun _ => True) (okp := fun _ => True) rfl (fun _ hk => hk) trivial (zA) (Nat.le_trans (Nat.mul_le_mul_right _ (zA : eX.toNat ≤ 35184372088832)) (by omega)) (Below.refl _ _) (Nat.le_refl _) ?_; intro aY gN bU hb hg_ hnew_; clear hg_ hnew_; (first | rw [← bP.out] at bU | (simp only [Int.reduceToNat] at bU; rw [← bP.out] at bU)); have aX := Qa.mk (Kd.R_lower bU (Ql (zG aH.out))); replace aA := zV aA.out hb; replace HB := zX1 aH.out hb; clear hb bU; obtain ⟨bI, bJ, bK, bL⟩ := zq2 aA.out) | ((with_reducible refine Qb (f := 67) rfl ?_); refine zD (some 16) Try.func67 _ ((Jk.calls k aN aV aC _ A7.out).mono ?_); rintro e gP ⟨fU, rfl, ho0, hb⟩; refine ⟨_, rfl, ?_⟩; have bV := Qa.mk (Kd.S_lower (Kd.S_new' ho0 (Kd.R_lt (zR aX.out))) (Ql (zG aH.out))); replace aX := zW aX.out hb; replace aA := zV aA.out hb; replace HB := zX1 aH.out hb; (try clear hb); (try clear ho0); obtain ⟨fC, dW, fD⟩ := Kd.S_slice bV.out; subst fD))
    go_loopg [18] k (fun kq v18 w' => ∃ (dA : List Int) (aD : Int), v18 = .int .i64 aD ∧ Qa (J5.l0 kq dA aC (aC.length : Int) aD = some r) ∧ Qa (kq ≤ k) ∧ Qa (Kd.R (Kd.int .i64) 3 w' w.heap.size (fun _ => True) aY dA) ∧ Qa (Kd.S (Kd.slice 3 (Kd.int .i64)) 27 w' w.heap.size (fun k_ => some k_ ≠ (aY : Value).ownBlock) (.slice fC aC.length dW) aC) ∧ Qa (w'.heap[aW]? = some (.cells #[.int .i64 aN, .string aV] 25 (0, 0))) ∧ Qa (Below w.heap.size w w'))
    case atStart => exact ⟨(dV), (0), zF, H', ⟨Nat.le_refl _⟩, ⟨zR aX.out⟩, ⟨zT (Kd.S_mono bV.out (fun _ hk => hk.2))⟩, ⟨zK aA.out⟩, ⟨zG aH.out⟩⟩
    case round =>
    clear H'
    try clear c3
    try clear c5
    try clear dQ
    try clear dR
    try clear c6
    try clear dS
    try clear dU
    try clear bE
    try clear bF
    try clear bI
    try clear bJ
    try clear bQ
    try clear bR
    try clear bG
    try clear bH
    try clear bK
    try clear bL
    try clear bS
    try clear bT
    obtain ⟨dA, aD, rfl, HA, dN, aM, aJ, aA, HB⟩ := hrel
    cases gk with
    | zero => exact absurd HA.out (by simp [J5.l0])
    | succ k1 =>
    have H := HA.out
    clear HA
    simp only [J5.l0] at H
    replace H := Z5 H
    rcases H with ⟨dF, H⟩ | ⟨dF, H⟩
    ·replace H := Zq H
     rcases H with ⟨dX, H⟩ | ⟨c18, H⟩
     ·replace H := Zq H
      rcases H with ⟨dY, H⟩ | ⟨c19, H⟩
      ·have H' := Qa.mk H; clear H
       have aZ : 0 ≤ (aD : Int) := zA
       have bA : aD < (aC.length : Int) := zA
       obtain ⟨dI, dB, dC, dZ, bB, bC, bD⟩ := jJc (Kd.S_reads' aJ.out).2.2 aD aZ bA
       cases dZ
       obtain ⟨fE, dD, dE, bM⟩ := Kd.S_get aJ.out [] aD aZ (by first | exact bA | exact zA | (have e_ := (Kd.S_reads' aJ.out).1; omega))
       obtain ⟨eB, rfl, aQ⟩ := dE
       have aI := bM 0 _ rfl
       rw [Nat.add_zero, show ((Kd.slice 3 (Kd.int .i64))).sz = 1 from rfl, Nat.mul_one] at aI
       replace aI := Option.some.inj (aI.symm.trans bB)
       rw [aI] at aQ
       have bW := Qa.mk (show Kd.R (Kd.int .i64) 3 _ _ _ _ (Yz aC aD) from aQ)
       clear aI aQ
       clear bM dD
       have eD := Qa.mk bD
       have eF := Qa.mk bC
       clear bD bC
       replace aZ := eq_true aZ
       replace bA := eq_true bA
       go_wp2
       go_loopg [25] k1 (fun kq v25 w' => ∃ (aK : List Int) (aG : Int), v25 = .int .i64 aG ∧ Qa (J5.l1 kq aK aD aC (aC.length : Int) aD (Yz aC aD) ((Yz aC aD).length : Int) aG = some r) ∧ Qa (kq ≤ k1) ∧ Qa (Kd.R (Kd.int .i64) 3 w' w.heap.size (fun _ => True) aY aK) ∧ Qa (Kd.S (Kd.slice 3 (Kd.int .i64)) 27 w' w.heap.size (fun k_ => some k_ ≠ (aY : Value).ownBlock) (.slice (some dI) aC.length dW) aC) ∧ Qa (w'.heap[aW]? = some (.cells #[.int .i64 aN, .string aV] 25 (0, 0))) ∧ Qa (Below w.heap.size w w') ∧ Qa (Kd.R (Kd.int .i64) 3 w' w.heap.size (fun k_ => some k_ ≠ (aY : Value).ownBlock) (.slice dB (Yz aC aD).length dC) (Yz aC aD)))
       case atStart => exact ⟨(dA), (0), zF, H', ⟨Nat.le_refl _⟩, ⟨zR aM.out⟩, ⟨zT aJ.out⟩, ⟨zK aA.out⟩, ⟨zG aH.out⟩, ⟨Kd.R_mono bW.out (fun k_ h_ => by first | exact h_ | exact h_.1 | exact h_.2 | exact h_.1.1 | exact h_.2.1)⟩⟩
       case round =>
       clear H'
       try clear c3
       try clear c5
       try clear dQ
       try clear dR
       try clear c6
       try clear dS
       try clear dU
       try clear c17
       try clear dF
       try clear c18
       try clear dX
       try clear c19
       try clear dY
       try clear bE
       try clear bF
       try clear bI
       try clear bJ
       try clear bQ
       try clear bR
       try clear bG
       try clear bH
       try clear bK
       try clear bL
       try clear bS
       try clear bT
       try clear bB
       try clear aZ
       try clear bA
       obtain ⟨aK, aG, rfl, HA, dO, aM, aJ, aA, HB, HLr⟩ := hrel
       cases gk with
       | zero => exact absurd HA.out (by simp [J5.l1])
       | succ k2 =>
       have H := HA.out
       clear HA
       simp only [J5.l1] at H
       replace H := Z5 H
       rcases H with ⟨eG, H⟩ | ⟨eG, H⟩
       ·replace H := Zq H
        rcases H with ⟨fV, H⟩ | ⟨c21, H⟩
        ·replace H := Zq H
         rcases H with ⟨fZ, H⟩ | ⟨gQ, H⟩
         ·replace H := Zi H
          rcases H with ⟨eH, eO, H⟩ | ⟨c23, eH, eO, H⟩
          ·have H' := Qa.mk H; clear H
           have aT : 0 ≤ (aG : Int) := zA
           have aU : aG < ((Yz aC aD).length : Int) := zA
           obtain ⟨dJ, bX, bY⟩ := Kd.at_int (Kd.R_reads' HLr.out).2.2 aG aT aU
           cases bX
           replace aT := eq_true aT
           replace aU := eq_true aU
           go_wp2
           go_roundg k2
           case measure => have := dN.out; have := dO.out; omega
           case rel => exact ⟨(aK), (wrap64 (aG + 1)), zF, H', ⟨by have := dN.out; have := dO.out; omega⟩, ⟨zR aM.out⟩, ⟨zT aJ.out⟩, ⟨zK aA.out⟩, ⟨zG aH.out⟩, HLr⟩
          replace H := Zq H
          rcases H with ⟨gB, H⟩ | ⟨c24, H⟩
          ·replace H := Zq H
           rcases H with ⟨gD, H⟩ | ⟨gT, H⟩
           ·generalize bZ : (aK.set ((rd (Yz aC aD) aG) : Int).toNat (wrap64 ((rd aK (rd (Yz aC aD) aG)) + 1)) : List Int) = dG at H
            have dK := Qa.mk bZ.symm
            clear bZ
            have H' := Qa.mk H; clear H
            have aT : 0 ≤ (aG : Int) := zA
            have aU : aG < ((Yz aC aD).length : Int) := zA
            obtain ⟨dJ, bX, bY⟩ := Kd.at_int (Kd.R_reads' HLr.out).2.2 aG aT aU
            cases bX
            replace aT := eq_true aT
            replace aU := eq_true aU
            obtain ⟨gH, dL, fF⟩ := Kd.R_slice aM.out
            subst fF
            have cB : 0 ≤ ((rd (Yz aC aD) aG) : Int) := zA
            have cK : (rd (Yz aC aD) aG) < (aK.length : Int) := zA
            obtain ⟨fG, eP, cO⟩ := Kd.at_int (Kd.R_reads' aM.out).2.2 (rd (Yz aC aD) aG) cB cK
            cases eP
            replace cB := eq_true cB
            replace cK := eq_true cK
            have p26 : 0 ≤ ((rd (Yz aC aD) aG) : Int) := zA
            have fH : ((rd (Yz aC aD) aG) : Int) < ((aK.length : Int) : Int) := zA
            obtain ⟨cZ, gJ, eQ, eT, fI, gK, eU⟩ := Kd.R_form aM.out (by omega)
            (first | cases eQ | (injection eQ with ea_ en_ ec_; (first | subst ea_ | (injection ea_ with ea_; subst ea_)); subst ec_; clear en_))
            have fJ := Qa.mk eT
            have gL := Qa.mk eU
            clear eT fI eU
            (first | simp only [add_plain] at cO | skip)
            obtain ⟨fK, fM⟩ := Kd.R_celln 0 aM.out ((rd (Yz aC aD) aG) : Int) p26 fH
            replace p26 := eq_true p26
            replace fH := eq_true fH
            have dM := Kd.R_putg aM.out ((rd (Yz aC aD) aG) : Int) (wrap64 ((rd aK (rd (Yz aC aD) aG)) + 1))
            go_wp2_with (first | ((with_reducible refine Kt (t := 3) (p := 38) rfl ?_); refine Ke (t := 3) (p := 38) (v := ?fO) (w1 := (wr.setCell ⟨cZ, ((rd (Yz aC aD) aG) : Int).toNat, none⟩ (.int .i64 (wrap64 ((rd aK (rd (Yz aC aD) aG)) + 1))))) ?hg ?ho ?hn ?hr ?_; (case ho => rfl); (case hg => rfl); (case hn => rfl); (case hr => first | (go_simp; done) | (go_simp; rfl)); intro fP hw; have hg : wr.grownBy fP (some cZ) := (by rw [hw]; exact dM.2); have hp_ : Kd.R (Kd.int .i64) 3 fP w.heap.size (fun _ => True) (.slice (some ⟨cZ, 0, none⟩) aK.length dL) dG := (by rw [hw, dK.out]; exact dM.1); clear dM; replace aJ := Qa.mk (Kd.S_after (v := (.slice (some ⟨cZ, 0, none⟩) aK.length dL)) (v1 := (.slice (some ⟨cZ, 0, none⟩) aK.length dL)) (ok := (fun _ => True)) (by (with_reducible repeat (first | apply Kd.S_alloc | apply Kd.S_drewN | apply Kd.S_drew)); exact Kd.S_mono aJ.out (fun _ hk => ⟨trivial, hk⟩)) hg (.inl rfl)); replace aA := Qa.mk (Yh (g := aW) (o := .cells #[.int .i64 aN, .string aV] 25 (0, 0)) (zK aA.out) hg (Kd.R_ne aM.out aA.out (by decide))); replace aM := Qa.mk (hp_); replace HB := Qa.mk ((by rw [hw]; exact Jt (HB.out) fJ.out : Below w.heap.size w fP)); have gF := Qa.mk (Kd.R_grown HLr.out hg (fun _ hk => hk)); clear HLr; have HLr := gF; clear gF; clear hg hw hp_))
            go_roundg k2
            case measure => have := dN.out; have := dO.out; omega
            case rel => exact ⟨(dG), (wrap64 (aG + 1)), zF, H', ⟨by have := dN.out; have := dO.out; omega⟩, ⟨zR aM.out⟩, ⟨zT (Kd.S_mono aJ.out (fun _ hk => hk.2))⟩, ⟨zK aA.out⟩, ⟨zG aH.out⟩, HLr⟩
           exact absurd H (by simp)
          exact absurd H (by simp)
         exact absurd H (by simp)
        exact absurd H (by simp)
       have H' := Qa.mk H; clear H
       go_wp2
       go_roundg k2
       case measure => have := dN.out; have := dO.out; omega
       case rel => exact ⟨(aK), (wrap64 (aD + 1)), zF, H', ⟨by have := dN.out; have := dO.out; omega⟩, ⟨zR aM.out⟩, ⟨zT aJ.out⟩, ⟨zK aA.out⟩, ⟨zG aH.out⟩⟩
      exact absurd H (by simp)
     exact absurd H (by simp)
    obtain rfl := Option.some.inj H
    go_wp2
    go_ret
    exact ⟨_, by first | rfl | (simp [Za, J7] <;> rfl) | (simp only [← bN]; first | rfl | (simp [Za, J7] <;> rfl)) | (simp [*, Za, J7] <;> rfl), zR aM.out, zG aH.out⟩
   exact absurd H (by simp)
  exact absurd H (by simp)
 replace c3 := Bool.eq_false_iff.mpr c3
 subst c3
 replace H := (if_neg zFf).symm.trans H
 obtain rfl := Option.some.inj H
 go_enter Try.func65, Try.ntmps65
 go_wp2_with (first | ((with_reducible refine Qf (N := 1) rfl ?_); refine zBx (N := 1) #[.int .i64 aN, .string aV] 25 ?_; intro aW hg gU hbox hb; have aA := Qa.mk (hbox); have dH := zS hg; have aH := zS hg; replace HB := zX hb; clear hb hbox hg; obtain ⟨eY, eZ, fA, fB⟩ := zq2 aA.out) | ((with_reducible refine Qb (f := 23) rfl ?_); refine zD (some 9) Try.func23 _ ((Xr.calls k aN aV false _ A2.out).mono ?_); rintro e w32 ⟨rfl, hb⟩; refine ⟨_, rfl, ?_⟩; replace aA := zV aA.out hb; replace HB := zX1 aH.out hb; (try clear hb)))
 go_ret
 exact ⟨_, zE, by first | exact Kd.R_nil _ _ _ _ _ | exact Kd.N_nil _ _ _ _ _ | exact Kd.V_nil _ _ _ _ _ | exact Kd.Q_nil _ _ _ _ _ | exact Kd.S_nil _ _ _ _ _, zG aH.out⟩
def Xg.l0 : Nat → Int → List Int → Int → List Int → Int → Int → Option (List Int × Int × Int)
 | 0, _, _, _, _, _, _ => none
 | k + 1, x1, x5, x6, x1000, aC, aD => if x6 < x1 then ((Jz.f x1000 aC aD (wrap64 ((x5.length : Int) + 1))).bind fun aA => ((some (([] : List Int) : List Int)).bind fun aG => (if 0 ≤ aA.1 then (if aA.1 ≤ (x5.length : Int) then ((some (x5.drop (aA.1 : Int).toNat : List Int)).bind fun aH => (if aG.length + aH.length < 17592186044416 then ((some (aG ++ aH : List Int)).bind fun aI => ((some (x5.take (aA.1 : Int).toNat : List Int)).bind fun aJ => (if aJ.length < 17592186044416 then ((some (aJ ++ [x6] : List Int)).bind fun aK => (if aK.length + aI.length < 17592186044416 then (Xg.l0 k x1 (aK ++ aI) (wrap64 (x6 + 1)) x1000 aA.2.1 aA.2.2) else (none))) else (none)))) else (none))) else (none)) else (none)))) else (some (x5, aC, aD))
def Xg.f (k : Nat) (aA : List Int) (aC : Int) (aD : Int) (a1 : Int) : Option (List Int × Int × Int) := Xg.l0 k a1 (([] : List Int)) 0 aA aC aD
theorem K7 {p q : Prop} (g : p) (h : p → q := by intro zg_; repeat (first | (with_reducible first | exact zg_ | apply Qg.set_ | apply Xn | apply Xj | apply Xm) | exact zg_)) : q := h g
theorem W9 {p q : Prop} (g : p) (h : p → q := by intro zg_; repeat (first | (with_reducible first | exact zg_ | apply Qc.alloc | apply Qc.drewN | apply Qc.drew | apply Qc.set_1 | apply Qc.set_2) | exact zg_)) : q := h g
theorem jQ9 {p q p0 : Prop} (g : p) (g0 : p0) (h : p → p0 → q := by intro zg_ aA; repeat (first | (with_reducible first | exact zg_ | apply Jq | apply Jh | apply Qt | refine Jt ?_ aA) | exact zg_)) : q := h g g0
set_option maxHeartbeats 8000000 in
set_option maxRecDepth 100000 in
theorem Xg.calls (k : Nat) (g : Nat) (aN : List Int) (bR : Int) (bS : Int) (a1 : Int) (r1 : List Int) (r2 : Int) (r3 : Int) (w0 w : World) (hI : Qc w0 w g aN bR bS) (hB : Below w0.heap.size w0 w) (h : Xg.f k aN bR bS a1 = some (r1, r2, r3)) :
  Calls Try.prog 145 #[.pointer (some ⟨g, 0, none⟩), .int .i64 a1] w fun e w' => ∃ eD : Value, e = .returned (eD) ∧ Kd.R (Kd.int .i64) 3 w' w.heap.size (fun _ => True) eD r1 ∧ Qc w0 w' g aN r2 r3 ∧ Below w0.heap.size w0 w' ∧ Qg w w' g none := by
 have HI0 := Qa.mk hI
 have HK := Qa.mk (Qg.refl w g none)
 have HL := Qa.mk hB.size
 clear hI
 have HW0 := Qa.mk hB.size
 have HB := Qa.mk hB
 clear hB
 have H := h
 unfold Xg.f at H
 clear h
 generalize bJ : (([] : List Int) : List Int) = dJ at H
 have bK := Qa.mk bJ.symm
 clear bJ
 have H' := Qa.mk H; clear H
 go_enter Try.func145, Try.ntmps145
 go_wp2_with (first | ((with_reducible refine Qf (N := 9) rfl ?_); refine Kd.R_lit (Kd.int .i64) _ 3 ?hg (N := 9) ?hd (xs := ([] : List Int)) (inner := []) (ok := fun _ => True) (okp := fun _ => True) ?hr ?hp (fun _ hk => hk) trivial (Below.refl _ _) (Nat.le_refl _) (by simp) ?_; (case hd => rfl); (case hg => rfl); (case hr => first | (go_simp; done) | (go_simp; rfl)); (case hp => exact (Xb.none _ _)); intro eQ w3 bX hb hg_ hnew_; clear hg_ hnew_; (first | rw [← bK.out] at bX | (simp only [Int.reduceToNat] at bX; rw [← bK.out] at bX)); have aT := Qa.mk (Kd.R_lower bX (J6 (w := w) (g := g) (row := none) (K7 HK.out))); have aU := Qa.mk (Qc.below (W9 HI0.out) hb); have aV := Qa.mk (Qg.trans (K7 HK.out) (Qg.of_below hb g none) (.inl rfl)); have aW := Qa.mk (Qz (zG (Qc.ge HI0.out)) hb); clear HI0; clear HK; clear HB; have bY := aT; have HI0 := aU; have HK := aV; have HB := aW; clear aT aU aV aW; clear hb bX))
 go_loopg [5, 6] k (fun kq v5 v6 w' => ∃ (aD : List Int) (bB : Int) (aH : Int) (aI : Int), v6 = .int .i64 bB ∧ Qa (Xg.l0 kq a1 aD bB aN aH aI = some (r1, r2, r3)) ∧ Qa (kq ≤ k) ∧ Qa (Kd.R (Kd.int .i64) 3 w' w.heap.size (fun _ => True) v5 aD) ∧ Qa (Qc w0 w' g aN aH aI) ∧ Qa (Qg w w' g none) ∧ Qa (Below w0.heap.size w0 w'))
 case atStart => exact ⟨(dJ), (0), (bR), (bS), zF, H', ⟨Nat.le_refl _⟩, ⟨zR bY.out⟩, ⟨(W9 HI0.out)⟩, ⟨(K7 HK.out)⟩, ⟨zG (Qc.ge HI0.out)⟩⟩
 case round =>
 clear H'
 obtain ⟨aD, bB, aH, aI, rfl, HA, eF, aA, HI0, HK, HB⟩ := hrel
 cases gk with
 | zero => exact absurd HA.out (by simp [Xg.l0])
 | succ k1 =>
 have H := HA.out
 clear HA
 simp only [Xg.l0] at H
 replace H := Z5 H
 rcases H with ⟨dK, H⟩ | ⟨dK, H⟩
 ·obtain ⟨⟨aC, bZ, cB⟩, A6, H⟩ := zO H
  dsimp only at H
  obtain ⟨dL, bL, H⟩ := zs H
  replace H := Xw H
  rcases H with ⟨eT, eU, H⟩ | ⟨c7, H⟩
  ·replace H := Xw H
   rcases H with ⟨eX, eY, H⟩ | ⟨c8, H⟩
   ·obtain ⟨aM, bD, H⟩ := zs H
    replace H := Vt H
    rcases H with ⟨c9, H⟩ | ⟨c9, H⟩
    ·have dM := Qa.mk c9
     clear c9
     obtain ⟨bT, cK, H⟩ := zs H
     have eG := eq_true (zA : aC ≤ (aD.length : Int))
     obtain ⟨bU, bM, H⟩ := zs H
     replace H := Vt H
     rcases H with ⟨c11, H⟩ | ⟨c11, H⟩
     ·have cO := Qa.mk c11
      clear c11
      obtain ⟨cZ, dA, H⟩ := zs H
      replace H := Vt H
      rcases H with ⟨c12, H⟩ | ⟨c12, H⟩
      ·have dB := Qa.mk c12
       clear c12
       generalize bN : (cZ ++ bT : List Int) = dN at H
       have dC := Qa.mk bN.symm
       clear bN
       have H' := Qa.mk H; clear H
       obtain ⟨aQ, aJ, dO⟩ := Kd.R_slice aA.out
       subst dO
       go_wp2_with (first | ((with_reducible refine Qb (f := 125) rfl ?_); refine zD (some 19) Try.func125 _ ((Jz.calls g aN aH aI (wrap64 ((aD.length : Int) + 1)) aC bZ cB w0 _ ?dD ?dE A6.out).mono ?_); (case dD => exact (W9 HI0.out)); (case dE => exact (jQ9 HB.out (Qc.ge HI0.out))); rintro e fE ⟨rfl, hi, hb, hk⟩; refine ⟨_, rfl, ?_⟩; replace aA := Qa.mk (Kd.R_mono (Kd.R_keep (Qc.apart (show Qc w0 _ g aN aH aI from (W9 HI0.out)) (zR aA.out) (by decide)) hk (fun _ h => h.2)) (fun _ h => h.1)); replace HK := Qa.mk (Qg.trans (K7 HK.out) hk (.inl rfl)); replace HI0 := Qa.mk (hi); replace HB := Qa.mk (hb); (try clear hb); (try clear hk); (try clear hi)) | ((with_reducible refine Qf (N := 20) rfl ?_); refine Kd.R_lit (Kd.int .i64) _ 3 ?hg (N := 20) ?hd (xs := ([] : List Int)) (inner := []) (ok := fun _ => True) (okp := fun _ => True) ?hr ?hp (fun _ hk => hk) trivial (Below.refl _ _) (Nat.le_refl _) (by simp) ?_; (case hd => rfl); (case hg => rfl); (case hr => first | (go_simp; done) | (go_simp; rfl)); (case hp => exact (Xb.none _ _)); intro dP fF bC hb hg_ hnew_; clear hg_ hnew_; (first | rw [← bL.out] at bC | (simp only [Int.reduceToNat] at bC; rw [← bL.out] at bC)); have aT := Qa.mk (Kd.R_elder' (zR aA.out) (Kd.R_base bC) hb); have aU := Qa.mk (Kd.R_lower (Kd.R_new' bC (Kd.R_lt (zR aA.out))) (J6 (w := w) (g := g) (row := none) (K7 HK.out))); have aV := Qa.mk (Qc.below (W9 HI0.out) hb); have aW := Qa.mk (Qg.trans (K7 HK.out) (Qg.of_below hb g none) (.inl rfl)); have bE := Qa.mk (Qz (zG (Qc.ge HI0.out)) hb); clear aA; clear HI0; clear HK; clear HB; have aA := aT; have aX := aU; have HI0 := aV; have HK := aW; have HB := bE; clear aT aU aV aW bE; clear hb bC; have dQ : (aC : Int) ≤ ((aD.length : Int) : Int) := zA; obtain ⟨eZ, bO, _, bP, _⟩ := info_parts info3; have aK : aD.length ≤ aJ := (Kd.R_reads' aA.out).2.1; have dF : Kd.C (Kd.int .i64) _ aQ aD.length aD := (Kd.R_reads' aA.out).2.2; have dR : (0 : Int) ≤ (aC : Int) := zA; have bV := jM9 (P := Try.prog) 27 3 .i64 Try.underlying27 bO 1 bP aQ aD.length aJ aC dR dQ; have bF := Kd.C_drop (m := (aC : Int).toNat) (c := aJ) dF (by omega) aK; obtain ⟨eH, bG⟩ : ∃ A1, A1 = (if aJ = (aC : Int).toNat then aQ else (aQ : Option Addr).map (·.add ((aC : Int).toNat * 1))) := ⟨_, rfl⟩; obtain ⟨c17, hc17⟩ : ∃ c1, c1 = aJ - (aC : Int).toNat := ⟨_, rfl⟩; have bH : aM.length = aD.length - (aC : Int).toNat := (by rw [bD.out, List.length_drop] <;> omega); rw [show (aD).drop (aC : Int).toNat = aM from bD.out.symm] at bF; replace bF : Kd.C (Kd.int .i64) _ eH aM.length aM := (by rw [bG]; exact bF); rw [← bH, ← bG, ← hc17] at bV; have aY := Qa.mk bF; have eO := Qa.mk (show aM.length ≤ c17 from by rw [bH, hc17]; exact Nat.sub_le_sub_right aK _); clear bF dF aK bO bP hc17; have fA := Qa.mk bH; have dS := Qa.mk bG; clear bH bG; have dU := Qa.mk (show (aC : Int).toNat ≤ aD.length from by omega); replace dQ := eq_true dQ) | ((with_reducible refine Z9 (b := .append) (xs := #[.tmp 20, .tmp 23]) rfl ?_); at_builtin; refine Kd.R_append_rows (Kd.int .i64) w.heap.size rfl (.tmp 20) (.tmp 23) 27 3 (.int .i64 0) 8 rfl Try.underlying27 info3 rfl (by decide) (by omega) dP dL aM _ _ _ (fun k_ => some k_ ≠ (.slice aQ aD.length aJ : Value).ownBlock) (fun _ => False) rfl rfl ?aO ?aR (fun _ _ h => h) (fun _ h => h.elim) ?aF (Below.refl _ _) ?aS ?aL ?_; (case aR => repeat (first | exact (by repeat (first | (with_reducible exact aY.out) | (with_reducible refine Kd.C_alloc ?_ _) | (with_reducible refine Kd.C_drewN ?_ _) | (with_reducible refine Kd.C_drew ?_) | exact aY.out)) | (with_reducible refine Kd.C_alloc ?_ _) | (with_reducible refine Kd.C_drewN ?_ _) | (with_reducible refine Kd.C_drew ?_))); (case aF => exact (fun k_ hk => Kd.fresh' (Kd.R_lt (zR aA.out)) k_ hk)); (case aO => exact (zR (Kd.R_mono aX.out (fun _ hk => hk.2)))); (case aS => exact (J6 (w := w) (g := g) (row := none) (K7 HK.out))); (case aL => have := dM.out; omega); intro dV fB ho hb hg hat; rw [← cK.out] at ho; have aT := Qa.mk (Kd.R_after (ok := (fun _ => True)) (zR aA.out) hg hat); have aU := Qa.mk (Qc.grown (W9 HI0.out) hg (Qc.own_ne HI0.out aX.out (by decide))); have aV := Qa.mk (Ub (zG (Qc.ge HI0.out)) HL.out hb); have aW := Qa.mk (Qg.trans (K7 HK.out) (Qg.of_grown hg g) (Kd.R_base2 aX.out)); have bE := Qa.mk ((show Kd.C (Kd.int .i64) fB eH aM.length aM from by rw [bD.out, dS.out]; exact Kd.C_drop (m := (aC : Int).toNat) (c := aJ) ((Kd.R_reads' (Kd.R_after (ok := (fun _ => True)) (zR aA.out) hg hat)).2.2) dU.out ((Kd.R_reads' (Kd.R_after (ok := (fun _ => True)) (zR aA.out) hg hat)).2.1))); have eP := Qa.mk (ho); clear aA; clear HI0; clear HB; clear HK; clear aY; clear aX; have aA := aT; have HI0 := aU; have HB := aV; have HK := aW; have aY := bE; have aG := eP; clear aT aU aV aW bE eP; clear ho hb hg hat; have dW : (aC : Int) ≤ ((aD.length : Int) : Int) := zA; obtain ⟨fC, bQ, _, dG, _⟩ := info_parts info3; have bW := jJj (P := Try.prog) 27 3 .i64 Try.underlying27 bQ aQ aD.length aJ aC (zA) dW (Kd.R_reads' aA.out).2.1; have bI := Kd.R_take (m := (aC : Int).toNat) aA.out (by omega); have dH : bU.length = (aC : Int).toNat := (by rw [bM.out, List.length_take]; omega); rw [← bM.out] at bI; rw [← dH] at bI bW; clear dH bQ dG aA; have aZ := Qa.mk bI; clear bI; replace dW := eq_true dW) | ((with_reducible refine Z9 (b := .append) (xs := #[.tmp 27, .tmp 29]) rfl ?_); at_builtin; refine Kd.R_append (Kd.int .i64) w.heap.size rfl (.tmp 27) (.tmp 29) 27 3 (.int .i64 0) 8 rfl Try.underlying27 info3 rfl (by decide) (by omega) (.slice aQ bU.length aJ) bU bB [.int .i64 bB] (fun k_ => some k_ ≠ (dV : Value).ownBlock) (fun _ => False) rfl rfl ?aP (fun _ hk => hk.elim) ?aF ?aO (Below.refl _ _) ?aS ?aL ?_; (case aP => exact rfl); (case aF => exact (fun k_ hk => Kd.fresh' (Kd.R_lt (zR aG.out)) k_ hk)); (case aO => exact (zR (Kd.R_mono aZ.out (fun _ hk => hk.2)))); (case aS => exact (J6 (w := w) (g := g) (row := none) (K7 HK.out))); (case aL => have := cO.out; omega); intro dX fG ho hb hg hat; rw [← dA.out] at ho; have aT := Qa.mk (Qc.grown (W9 HI0.out) hg (Qc.own_ne HI0.out aZ.out (by decide))); have aU := Qa.mk (Kd.R_after (ok := (fun _ => True)) (by (with_reducible repeat (first | apply Kd.R_alloc | apply Kd.R_drewN | apply Kd.R_drew)); exact Kd.R_mono aG.out (fun _ hk => ⟨trivial, by first | exact hk | exact fun e_ => hk (e_.trans (jMt _ _ _ _ _))⟩)) hg hat); have aV := Qa.mk (Ub (zG (Qc.ge HI0.out)) HL.out hb); have aW := Qa.mk (Qg.trans (K7 HK.out) (Qg.of_grown hg g) (Kd.R_base2 aZ.out)); have bE := Qa.mk (ho); clear HI0; clear aG; clear HB; clear HK; clear aZ; have HI0 := aT; have aG := aU; have HB := aV; have HK := aW; have bA := bE; clear aT aU aV aW bE; clear ho hb hg hat; obtain ⟨dY, dZ, eB⟩ := Kd.R_slice aG.out; subst eB) | ((with_reducible refine Z9 (b := .append) (xs := #[.tmp 30, .tmp 31]) rfl ?_); at_builtin; refine Kd.R_append_rows (Kd.int .i64) w.heap.size rfl (.tmp 30) (.tmp 31) 27 3 (.int .i64 0) 8 rfl Try.underlying27 info3 rfl (by decide) (by omega) dX cZ bT _ _ _ (fun k_ => some k_ ≠ (.slice dY bT.length dZ : Value).ownBlock) (fun _ => False) rfl rfl ?aO ?aR (fun _ _ h => h) (fun _ h => h.elim) ?aF (Below.refl _ _) ?aS ?aL ?_; (case aR => repeat (first | exact (Kd.R_reads' aG.out).2.2 | (with_reducible refine Kd.C_alloc ?_ _) | (with_reducible refine Kd.C_drewN ?_ _) | (with_reducible refine Kd.C_drew ?_))); (case aF => exact (fun k_ hk => Kd.fresh' (Kd.R_lt (zR aG.out)) k_ hk)); (case aO => exact (zR bA.out)); (case aS => exact (J6 (w := w) (g := g) (row := none) (K7 HK.out))); (case aL => have := dB.out; omega); intro fD fH ho hb hg hat; rw [← dC.out] at ho; have aT := Qa.mk (Qc.grown (W9 HI0.out) hg (Qc.own_ne HI0.out bA.out (by decide))); have aU := Qa.mk (Kd.R_after (ok := (fun _ => True)) (zR aG.out) hg hat); have aV := Qa.mk (Ub (zG (Qc.ge HI0.out)) HL.out hb); have aW := Qa.mk (Qg.trans (K7 HK.out) (Qg.of_grown hg g) (Kd.R_base2 bA.out)); have bE := Qa.mk (ho); clear HI0; clear aG; clear HB; clear HK; clear bA; have HI0 := aT; have aG := aU; have HB := aV; have HK := aW; have dI := bE; clear aT aU aV aW bE; clear ho hb hg hat))
       go_roundg k1
       case measure => have := eF.out; omega
       case rel => exact ⟨(dN), (wrap64 (bB + 1)), (bZ), (cB), zF, H', ⟨by have := eF.out; omega⟩, ⟨zR (Kd.R_mono dI.out (fun _ hk => trivial))⟩, ⟨(W9 HI0.out)⟩, ⟨(K7 HK.out)⟩, ⟨zG (Qc.ge HI0.out)⟩⟩
      exact absurd H (by simp)
     exact absurd H (by simp)
    exact absurd H (by simp)
   exact absurd H (by simp)
  exact absurd H (by simp)
 simp only [Option.some.injEq, Prod.mk.injEq] at H
 obtain ⟨rfl, rfl, rfl⟩ := H
 go_wp2
 go_ret
 exact ⟨_, zE, zR aA.out, (W9 HI0.out), zG (Qc.ge HI0.out), (K7 HK.out)⟩
def Vo.f (k : Nat) (l0 : List Int) : Option (Int × ByteArray × List Int) := (Xc.f k l0).bind fun aD => ((Xz.f k aD.1 aD.2.1 aD.2.2).bind fun aA => ((Yv.f 4 aA.1).bind fun aI => ((Xg.f k aD.1 aA.2.2.1 aA.2.2.2 aI).bind fun aC => ((Xk.f aD.1 aC.2.1 aC.2.2 14).bind fun aG => (if aG.1 = true then ((Jz.f aD.1 aG.2.1 aG.2.2 8).bind fun aH => (if 0 < (aC.1.length : Int) then (if 4 ≤ (aC.1.length : Int) then (some (aA.1, aA.2.1, ((aC.1.set (0 : Int).toNat (wrap64 (aH.1 - 1))).take (4 : Int).toNat))) else (none)) else (none))) else (if 4 ≤ (aC.1.length : Int) then (some (aA.1, aA.2.1, (aC.1.take (4 : Int).toNat))) else (none)))))))
theorem jN5 {p q p0 : Prop} (g : p) (g0 : p0) (h : p → p0 → q := by intro zg_ aA; repeat (first | (with_reducible first | exact zg_ | apply Jq | apply Jh | apply Qt | refine Jt ?_ aA) | exact zg_)) : q := h g g0
theorem jBt {p q p0 : Prop} (g : p) (g0 : p0) (h : p → p0 → q := by intro zg_ aA; repeat (first | (with_reducible first | exact zg_ | apply Qc.alloc | apply Qc.drewN | apply Qc.drew | apply Qc.set_1 | apply Qc.set_2 | refine Qc.far ?_ aA _) | exact zg_)) : q := h g g0
theorem jN7 {p q p0 p1 : Prop} (g : p) (g0 : p0) (g1 : p1) (h : p → p0 → p1 → q := by intro zg_ aA aC; repeat (first | (with_reducible first | exact zg_ | apply Jq | apply Jh | apply Qt | refine Jt ?_ aA | refine Jt ?_ aC) | exact zg_)) : q := h g g0 g1
theorem jA0 {p q p0 p1 : Prop} (g : p) (g0 : p0) (g1 : p1) (h : p → p0 → p1 → q := by intro zg_ aA aC; repeat (first | (with_reducible first | exact zg_ | apply Qc.alloc | apply Qc.drewN | apply Qc.drew | apply Qc.set_1 | apply Qc.set_2 | refine Qc.far ?_ aA _ | refine Qc.far ?_ aC _) | exact zg_)) : q := h g g0 g1
theorem jFd {p q p0 p1 p2 : Prop} (g : p) (g0 : p0) (g1 : p1) (g2 : p2) (h : p → p0 → p1 → p2 → q := by intro zg_ aA aC aD; repeat (first | (with_reducible first | exact zg_ | apply Jq | apply Jh | apply Qt | refine Jt ?_ aA | refine Jt ?_ aC | refine Jt ?_ aD) | exact zg_)) : q := h g g0 g1 g2
set_option maxHeartbeats 8000000 in
set_option maxRecDepth 100000 in
theorem Vo.calls (k : Nat) (A0 : Option Addr) (c0 : Nat) (l0 : List Int) (r1 : Int) (r2 : ByteArray) (r3 : List Int) (w : World) (hr0 : Kd.C (Kd.int .u8) w A0 l0.length l0) (hc0 : l0.length ≤ c0) (h : Vo.f k l0 = some (r1, r2, r3)) :
  Calls Try.prog 104 #[.slice A0 l0.length c0] w fun e w' => ∃ gB : Value, e = .returned (.tuple #[.agg #[.int .i64 r1, .string r2], gB]) ∧ Kd.R (Kd.int .i64) 3 w' w.heap.size (fun _ => True) gB r3 ∧ Below w.heap.size w w' := by
 have iF := Try.underlying25
 have gD := Qa.mk hr0
 have gF := Qa.mk hc0
 clear hr0 hc0
 have HB := Qa.mk (Below.refl w.heap.size w)
 have H := h
 unfold Vo.f at H
 clear h
 obtain ⟨⟨aY, bK, bL⟩, A2, H⟩ := zO H
 dsimp only at H
 obtain ⟨⟨bA, bC, bD, bE⟩, A3, H⟩ := zO H
 dsimp only at H
 obtain ⟨bM, A4, H⟩ := zO H
 obtain ⟨⟨bB, bF, bG⟩, A5, H⟩ := zO H
 dsimp only at H
 obtain ⟨⟨fE, bN, bO⟩, A6, H⟩ := zO H
 dsimp only at H
 by_cases c7 : fE = true
 ·subst c7
  replace H := (if_pos rfl).symm.trans H
  obtain ⟨⟨bP, fF, fG⟩, A8, H⟩ := zO H
  dsimp only at H
  replace H := jA4 H
  rcases H with ⟨c9, iG, H⟩ | ⟨c9, H⟩
  ·have iH : decide (0 < bB.length) = true := decide_eq_true (by omega)
   clear c9
   generalize bT : (bB.set (0 : Int).toNat (wrap64 (bP - 1)) : List Int) = dB at H
   have bU := Qa.mk bT.symm
   clear bT
   replace H := Xw H
   rcases H with ⟨gG, gH, H⟩ | ⟨c11, H⟩
   ·generalize bV : (dB.take (4 : Int).toNat : List Int) = fH at H
    have bW := Qa.mk bV.symm
    clear bV
    simp only [Option.some.injEq, Prod.mk.injEq] at H
    obtain ⟨rfl, rfl, rfl⟩ := H
    go_enter Try.func104, Try.ntmps104
    try go_wp2_with (first | ((with_reducible refine Qf (N := 2) rfl ?_); refine zBx (N := 2) #[.int .i64 0, .string (⟨#[]⟩ : ByteArray)] 25 ?_; intro aI hg iW hbox hb; have aA := Qa.mk (hbox); have dF := zS hg; have aN := zS hg; replace HB := zX hb; clear hb hbox hg) | ((with_reducible refine Qb (f := 81) rfl ?_); refine zD (some 8) Try.func81 #[.slice A0 l0.length c0] ((Xc.calls k _ _ l0 aY bK bL w _ ?aU ?aV ?bH A2.out).mono ?_); (case aU => exact (jN5 HB.out aN.out)); (case aV => exact gD.out); (case bH => exact gF.out); rintro e iX ⟨aW, rfl, hi, hb, hb2⟩; refine ⟨_, rfl, ?_⟩; have aC := Qa.mk (hi); have aD := Qa.mk (Qc.ne_blk hi (Zj (g := aI) (o := .cells #[.int .i64 0, .string (⟨#[]⟩ : ByteArray)] 25 (0, 0)) (zK aA.out) hb2) (by decide)); have aQ := Qa.mk (Ne.symm (Qc.ne_blk hi (Zj (g := aI) (o := .cells #[.int .i64 0, .string (⟨#[]⟩ : ByteArray)] 25 (0, 0)) (zK aA.out) hb2) (by decide))); replace aA := Qa.mk (Zj (g := aI) (o := .cells #[.int .i64 0, .string (⟨#[]⟩ : ByteArray)] 25 (0, 0)) (zK aA.out) hb2); replace HB := Qa.mk (hb); (try clear hb); (try clear hb2); (try clear hi)) | ((with_reducible refine Qb (f := 109) rfl ?_); refine zD (some 10) Try.func109 _ ((Xz.calls k aW aY bK bL bA bC bD bE w _ ?aU ?aV A3.out).mono ?_); (case aU => exact (jBt aC.out aD.out)); (case aV => exact (jN7 HB.out (Qc.ge aC.out) aN.out)); rintro e iY ⟨rfl, hi, hb, hk⟩; refine ⟨_, rfl, ?_⟩; replace aA := zKB hk aA.out aQ.out; replace aC := Qa.mk (hi); replace HB := Qa.mk (hb); (try clear hb); (try clear hk); (try clear hi)) | ((with_reducible refine Qf (N := 5) rfl ?_); refine zBx (N := 5) #[.int .i64 0, .string (⟨#[]⟩ : ByteArray)] 25 ?_; intro aX hg iZ hbox hb; have dG := zV aA.out hb; have dH := Qa.mk (Qc.below (jBt aC.out aD.out) hb); have dI := Qa.mk (Qz (zG2 (Qc.ge aC.out) aN.out) hb); have dJ := Qa.mk (hbox); have dK := zSg hg (zG2 (Qc.ge aC.out) aN.out); have dL := zSg hg (zG2 (Qc.ge aC.out) aN.out); have dM := zL hg aA.out; have dN := zLg hg aA.out; have dO := Qa.mk ((by rw [hg]; exact Nat.ne_of_lt (Qc.lt (show Qc w _ aW aY bD bE from (jBt aC.out aD.out))) : aW ≠ aX)); have dP := Qa.mk ((by rw [hg]; exact Nat.ne_of_gt (Qc.lt (show Qc w _ aW aY bD bE from (jBt aC.out aD.out))) : aX ≠ aW)); clear aA; clear aC; clear HB; have aA := dG; have aC := dH; have HB := dI; have aK := dJ; have dQ := dK; have aZ := dL; have aJ := dM; have aG := dN; have aH := dO; have aT := dP; clear dG dH dI dJ dK dL dM dN dO dP; clear hb hbox hg; have gJ := aG.out; have gK := aJ.out; have gL := aT.out; have gM := aH.out; obtain ⟨eB, eD, eF, eG⟩ := zq2 aK.out) | ((with_reducible refine Qb (f := 112) rfl ?_); refine zD (some 14) Try.func112 _ ((Yv.calls 4 bA bM _ A4.out).mono ?_); rintro e w' ⟨rfl, ⟨nd, rfl⟩⟩; refine ⟨_, rfl, ?_⟩) | ((with_reducible refine Qb (f := 145) rfl ?_); refine zD (some 15) Try.func145 _ ((Xg.calls k aW aY bD bE bM bB bF bG w _ ?aU ?aV A5.out).mono ?_); (case aU => exact (jA0 aC.out aD.out aH.out)); (case aV => exact (jFd HB.out (Qc.ge aC.out) aN.out aZ.out)); rintro e jA ⟨fI, rfl, ho0, hi, hb, hk⟩; refine ⟨_, rfl, ?_⟩; replace aA := Qa.mk (Qg.blk hk (g' := aI) (o := .cells #[.int .i64 0, .string (⟨#[]⟩ : ByteArray)] 25 (0, 0)) (zk2 aA.out aJ.out aJ.out) aQ.out (by simp)); replace aK := Qa.mk (Qg.blk hk (g' := aX) (o := .cells #[.int .i64 bA, .string bC] 25 (0, 0)) (zk0 aK.out) aT.out (by simp)); have aM := Qa.mk (Kd.R_lower ho0 (Ql (zG3 (Qc.ge aC.out) aN.out aZ.out))); replace aC := Qa.mk (hi); replace HB := Qa.mk (hb); (try clear hb); (try clear hk); (try clear hi); (try clear ho0)) | ((with_reducible refine Qb (f := 127) rfl ?_); refine zD (some 17) Try.func127 _ ((Xk.calls aW aY bF bG 14 true bN bO w _ ?aU ?aV A6.out).mono ?_); (case aU => exact (jA0 aC.out aD.out aH.out)); (case aV => exact (jFd HB.out (Qc.ge aC.out) aN.out aZ.out)); rintro e jB ⟨rfl, hi, hb, hk⟩; refine ⟨_, rfl, ?_⟩; replace aA := zKB hk aA.out aQ.out; replace aK := zKB hk aK.out aT.out; replace aM := Qa.mk (Kd.R_mono (Kd.R_keep (Qc.apart (show Qc w _ aW aY bF bG from (jA0 aC.out aD.out aH.out)) (zR aM.out) (by decide)) hk (fun _ h => h.2)) (fun _ h => h.1)); replace aC := Qa.mk (hi); replace HB := Qa.mk (hb); (try clear hb); (try clear hk); (try clear hi)) | ((with_reducible refine Qb (f := 125) rfl ?_); refine zD (some 20) Try.func125 _ ((Jz.calls aW aY bN bO 8 bP fF fG w _ ?aU ?aV A8.out).mono ?_); (case aU => exact (jA0 aC.out aD.out aH.out)); (case aV => exact (jFd HB.out (Qc.ge aC.out) aN.out aZ.out)); rintro e gN ⟨rfl, hi, hb, hk⟩; refine ⟨_, rfl, ?_⟩; replace aA := zKB hk aA.out aQ.out; replace aK := zKB hk aK.out aT.out; replace aM := Qa.mk (Kd.R_mono (Kd.R_keep (Qc.apart (show Qc w _ aW aY bN bO from (jA0 aC.out aD.out aH.out)) (zR aM.out) (by decide)) hk (fun _ h => h.2)) (fun _ h => h.1)); replace aC := Qa.mk (hi); replace HB := Qa.mk (hb); (try clear hb); (try clear hk); (try clear hi); have fJ : 0 ≤ (0 : Int) := (by omega); have fK : (0 : Int) < ((bB.length : Int) : Int) := zA; have iI : (0 < bB.length) = True := eq_true (by omega); obtain ⟨bQ, dR, dS, dU, fM, iJ, dV⟩ := Kd.R_form aM.out (by omega); (first | cases dS | (injection dS with ea_ en_ ec_; (first | subst ea_ | (injection ea_ with ea_; subst ea_)); subst ec_; clear en_)); have fO := Qa.mk dU; have iK := Qa.mk dV; clear dU fM dV; obtain ⟨bI, bJ⟩ := Kd.R_celln 0 aM.out (0 : Int) fJ fK; (try rw [show ((0 : Int)).toNat = 0 from rfl] at bI); (try simp only [Nat.reduceMul, Nat.zero_mul, Nat.zero_add, Nat.reduceAdd] at bI); (try rw [show ((0 : Int)).toNat = 0 from rfl] at bJ); (try simp only [Nat.reduceMul, Nat.zero_mul, Nat.zero_add, Nat.reduceAdd] at bJ); replace fJ := eq_true fJ; replace fK := eq_true fK; obtain ⟨bX, bY⟩ := Kd.R_celln 0 aM.out (0 : Int) (by omega) (zA); (try simp only [Int.reduceToNat, Int.toNat_zero, Int.toNat_ofNat, Nat.reduceMul, Nat.zero_mul, Nat.zero_add] at bX bY); (try rw [show ((0 : Int)).toNat = 0 from rfl] at bX); (try rw [show ((0 : Int)).toNat = 0 from rfl] at bY); have dC := Kd.R_putg aM.out (0 : Int) (wrap64 (bP - 1))) | ((with_reducible refine Kt (t := 3) (p := 22) rfl ?_); refine Ke (t := 3) (p := 22) (v := ?fP) (w1 := (gN.setCell ⟨bQ, (0 : Int).toNat, none⟩ (.int .i64 (wrap64 (bP - 1))))) ?hg ?ho ?hn ?hr ?_; (case ho => rfl); (case hg => rfl); (case hn => rfl); (case hr => first | (go_simp; done) | (go_simp; rfl)); intro eH hw; have hg : gN.grownBy eH (some bQ) := (by rw [hw]; exact dC.2); have hp_ : Kd.R (Kd.int .i64) 3 eH w.heap.size (fun _ => True) (.slice (some ⟨bQ, 0, none⟩) bB.length dR) dB := (by rw [hw, bU.out]; exact dC.1); clear dC; replace aA := Qa.mk (Yh (g := aI) (o := .cells #[.int .i64 0, .string (⟨#[]⟩ : ByteArray)] 25 (0, 0)) (zK aA.out) hg (Kd.R_ne aM.out aA.out (by decide))); replace aC := Qa.mk (Qc.grown (jA0 aC.out aD.out aH.out) hg (Qc.own_ne aC.out aM.out (by decide))); replace aK := Qa.mk (Yh (g := aX) (o := .cells #[.int .i64 bA, .string bC] 25 (0, 0)) (zK aK.out) hg (Kd.R_ne aM.out aK.out (by decide))); replace aM := Qa.mk (hp_); replace HB := Qa.mk ((by rw [hw]; exact Jt (HB.out) fO.out : Below w.heap.size w eH)); clear hg hw hp_))
    replace aM := Qa.mk (Kd.R_drew aM.out)
    replace aA := Qa.mk (Jo aA.out)
    replace aK := Qa.mk (Jo aK.out)
    replace aC := Qa.mk (Qc.drew aC.out)
    replace HB := Qa.mk (Qt HB.out)
    have fQ : (4 : Int) ≤ ((bB.length : Int) : Int) := zA
    obtain ⟨iL, bZ, _, dW, _⟩ := info_parts info3
    have dD := jJj (P := Try.prog) 27 3 .i64 Try.underlying27 bZ (some ⟨bQ, 0, none⟩) bB.length dR 4 (by omega) fQ (Kd.R_reads' aM.out).2.1
    have hle_ : dB.length = bB.length := by rw [bU.out, List.length_set]
    have bR := Kd.R_take (m := (4 : Int).toNat) aM.out (by omega)
    have hy25 : fH.length = (4 : Int).toNat := (by rw [bW.out, List.length_take]; omega)
    clear hle_
    rw [← bW.out] at bR
    rw [← hy25] at bR dD
    clear hy25 bZ dW aM
    have cB := Qa.mk bR
    clear bR
    replace fQ := eq_true fQ
    refine Ya (n := 5) (S := fun w' => w'.cell? ⟨aX, 0, none⟩ = some (.int .i64 bA) ∧ w'.cell? ⟨aX, 1, none⟩ = some (.string bC)) (ds := []) #[false, false, false, false, false] (by kernel_rfl) rfl rfl ⟨(Qo aK.out 0).trans rfl, (Qo aK.out 1).trans rfl⟩ (fun hHeld => ?_)
    generalize eH.drew = gP at aA aK aC HB cB hHeld ⊢
    refine Vr (i := 1) (N := some 24) (v := ?_) (a' := ?_) #[false, true, false, false, false] rfl rfl (by kernel_rfl) (fun _ _ _ h => h) (Or.inl ⟨by rfl, ?_⟩) ?_ ?_
    rotate_left
    ·intro w'
     go_simp
     with_reducible rfl
    rotate_left
    ·simp only [Act.put, List.setIfInBounds_toArray, List.set_cons_zero, List.set_cons_succ, Zu, Xo]
     rfl
    refine Vr (i := 2) (N := some 25) (v := ?_) (a' := ?_) #[false, true, true, false, false] rfl rfl (by kernel_rfl) (fun _ _ _ h => h) (Or.inl ⟨by rfl, ?_⟩) ?_ ?_
    rotate_left
    ·intro w'
     go_simp
     with_reducible rfl
    rotate_left
    ·simp only [Act.put, List.setIfInBounds_toArray, List.set_cons_zero, List.set_cons_succ, Zu, Xo]
     rfl
    refine take_ (i := 0) (N := some 23) (v := ?_) (a' := ?_) #[true, true, true, false, false] rfl rfl (by kernel_rfl) (fun _ _ _ h => h) (Or.inl ⟨by rfl, ?_⟩) hHeld ?_ ?_
    rotate_left
    ·rintro w' ⟨s0, s1⟩
     go_simp
     with_reducible rfl
    rotate_left
    ·simp only [Act.put, List.setIfInBounds_toArray, List.set_cons_zero, List.set_cons_succ, Zu, Xo]
     rfl
    refine jQp (i := 3) (N := none) #[true, true, true, true, false] rfl rfl (by kernel_rfl) (by decide) (fun K hK => ?_)
    have iM : gP.cell? ⟨aI, 0, none⟩ = some (.int .i64 0) := (Qo aA.out 0).trans rfl
    have gQ := Zd aA.out 0
    have eO := aG.out
    have eP := aJ.out
    have iN : gP.cell? ⟨aI, 1, none⟩ = some (.string (⟨#[]⟩ : ByteArray)) := (Qo aA.out 1).trans rfl
    have gT := Zd aA.out 1
    have eQ := aG.out
    have eT := aJ.out
    refine jEr (w1 := ?_) (by rfl) rfl ?_ ?_
    rotate_left
    ·go_simp
     rfl
    refine hK.out _ _ ⟨((cell_far (p := ⟨aI, _, none⟩) aG.out _).trans (((cell_far (p := ⟨aI, _, none⟩) aG.out _).trans (hHeld.1)))), ((cell_far (p := ⟨aI, _, none⟩) aG.out _).trans (((cell_far (p := ⟨aI, _, none⟩) aG.out _).trans (hHeld.2))))⟩ (fun hHeld => ?_)
    clear hK K
    refine Vr (i := 4) (N := some 3) (v := ?_) (a' := ?_) #[true, true, true, true, true] rfl rfl (by kernel_rfl) (fun _ _ _ h => h) (Or.inl ⟨by rfl, ?_⟩) ?_ ?_
    rotate_left
    ·intro w'
     go_simp
     with_reducible rfl
    rotate_left
    ·simp only [Act.put, List.setIfInBounds_toArray, List.set_cons_zero, List.set_cons_succ, Zu, Xo]
     rfl
    refine Vh (by kernel_rfl) ?_
    try go_wp2
    refine bodyPost_ret (Uj rfl _ _ aI 25 #[.int .i64 bA, .string bC] (0, 0) _ rfl (zk0 aA.out) Try.underlying25 rfl (by kernel_rfl)) rfl ?_
    exact ⟨_, zE, by (with_reducible repeat (first | apply Kd.R_alloc | apply Kd.R_drewN | apply Kd.R_drew)); exact Kd.R_mono (Kd.R_far (p := ⟨aI, 1, none⟩) (Kd.R_far (p := ⟨aI, 0, none⟩) (Kd.R_types cB.out aA.out (by decide)) (fun _ hk => hk.2) (.int .i64 bA)) (fun _ hk => hk.2) (.string bC)) (fun _ hk => trivial), zG3 (Qc.ge aC.out) aN.out aZ.out⟩
   exact absurd H (by simp)
  exact absurd H (by simp)
 replace c7 := Bool.eq_false_iff.mpr c7
 subst c7
 replace H := (if_neg zFf).symm.trans H
 replace H := Xw H
 rcases H with ⟨gU, gV, H⟩ | ⟨c28, H⟩
 ·generalize cK : (bB.take (4 : Int).toNat : List Int) = fT at H
  have cO := Qa.mk cK.symm
  clear cK
  simp only [Option.some.injEq, Prod.mk.injEq] at H
  obtain ⟨rfl, rfl, rfl⟩ := H
  go_enter Try.func104, Try.ntmps104
  try go_wp2_with (first | ((with_reducible refine Qf (N := 2) rfl ?_); refine zBx (N := 2) #[.int .i64 0, .string (⟨#[]⟩ : ByteArray)] 25 ?_; intro aI hg jC hbox hb; have aA := Qa.mk (hbox); have dF := zS hg; have aN := zS hg; replace HB := zX hb; clear hb hbox hg) | ((with_reducible refine Qb (f := 81) rfl ?_); refine zD (some 8) Try.func81 #[.slice A0 l0.length c0] ((Xc.calls k _ _ l0 aY bK bL w _ ?aU ?aV ?bH A2.out).mono ?_); (case aU => exact (jN5 HB.out aN.out)); (case aV => exact gD.out); (case bH => exact gF.out); rintro e jD ⟨aW, rfl, hi, hb, hb2⟩; refine ⟨_, rfl, ?_⟩; have aC := Qa.mk (hi); have aD := Qa.mk (Qc.ne_blk hi (Zj (g := aI) (o := .cells #[.int .i64 0, .string (⟨#[]⟩ : ByteArray)] 25 (0, 0)) (zK aA.out) hb2) (by decide)); have aQ := Qa.mk (Ne.symm (Qc.ne_blk hi (Zj (g := aI) (o := .cells #[.int .i64 0, .string (⟨#[]⟩ : ByteArray)] 25 (0, 0)) (zK aA.out) hb2) (by decide))); replace aA := Qa.mk (Zj (g := aI) (o := .cells #[.int .i64 0, .string (⟨#[]⟩ : ByteArray)] 25 (0, 0)) (zK aA.out) hb2); replace HB := Qa.mk (hb); (try clear hb); (try clear hb2); (try clear hi)) | ((with_reducible refine Qb (f := 109) rfl ?_); refine zD (some 10) Try.func109 _ ((Xz.calls k aW aY bK bL bA bC bD bE w _ ?aU ?aV A3.out).mono ?_); (case aU => exact (jBt aC.out aD.out)); (case aV => exact (jN7 HB.out (Qc.ge aC.out) aN.out)); rintro e jE ⟨rfl, hi, hb, hk⟩; refine ⟨_, rfl, ?_⟩; replace aA := zKB hk aA.out aQ.out; replace aC := Qa.mk (hi); replace HB := Qa.mk (hb); (try clear hb); (try clear hk); (try clear hi)) | ((with_reducible refine Qf (N := 5) rfl ?_); refine zBx (N := 5) #[.int .i64 0, .string (⟨#[]⟩ : ByteArray)] 25 ?_; intro aX hg w32 hbox hb; have dG := zV aA.out hb; have dH := Qa.mk (Qc.below (jBt aC.out aD.out) hb); have dI := Qa.mk (Qz (zG2 (Qc.ge aC.out) aN.out) hb); have dJ := Qa.mk (hbox); have dK := zSg hg (zG2 (Qc.ge aC.out) aN.out); have dL := zSg hg (zG2 (Qc.ge aC.out) aN.out); have dM := zL hg aA.out; have dN := zLg hg aA.out; have dO := Qa.mk ((by rw [hg]; exact Nat.ne_of_lt (Qc.lt (show Qc w _ aW aY bD bE from (jBt aC.out aD.out))) : aW ≠ aX)); have dP := Qa.mk ((by rw [hg]; exact Nat.ne_of_gt (Qc.lt (show Qc w _ aW aY bD bE from (jBt aC.out aD.out))) : aX ≠ aW)); clear aA; clear aC; clear HB; have aA := dG; have aC := dH; have HB := dI; have aK := dJ; have dQ := dK; have aZ := dL; have aJ := dM; have aG := dN; have aH := dO; have aT := dP; clear dG dH dI dJ dK dL dM dN dO dP; clear hb hbox hg; have gW := aG.out; have gX := aJ.out; have gY := aT.out; have gZ := aH.out; obtain ⟨eU, eX, eY, eZ⟩ := zq2 aK.out) | ((with_reducible refine Qb (f := 112) rfl ?_); refine zD (some 14) Try.func112 _ ((Yv.calls 4 bA bM _ A4.out).mono ?_); rintro e w' ⟨rfl, ⟨nd, rfl⟩⟩; refine ⟨_, rfl, ?_⟩) | ((with_reducible refine Qb (f := 145) rfl ?_); refine zD (some 15) Try.func145 _ ((Xg.calls k aW aY bD bE bM bB bF bG w _ ?aU ?aV A5.out).mono ?_); (case aU => exact (jA0 aC.out aD.out aH.out)); (case aV => exact (jFd HB.out (Qc.ge aC.out) aN.out aZ.out)); rintro e jF ⟨fI, rfl, ho0, hi, hb, hk⟩; refine ⟨_, rfl, ?_⟩; replace aA := Qa.mk (Qg.blk hk (g' := aI) (o := .cells #[.int .i64 0, .string (⟨#[]⟩ : ByteArray)] 25 (0, 0)) (zk2 aA.out aJ.out aJ.out) aQ.out (by simp)); replace aK := Qa.mk (Qg.blk hk (g' := aX) (o := .cells #[.int .i64 bA, .string bC] 25 (0, 0)) (zk0 aK.out) aT.out (by simp)); have aM := Qa.mk (Kd.R_lower ho0 (Ql (zG3 (Qc.ge aC.out) aN.out aZ.out))); replace aC := Qa.mk (hi); replace HB := Qa.mk (hb); (try clear hb); (try clear hk); (try clear hi); (try clear ho0)) | ((with_reducible refine Qb (f := 127) rfl ?_); refine zD (some 17) Try.func127 _ ((Xk.calls aW aY bF bG 14 false bN bO w _ ?aU ?aV A6.out).mono ?_); (case aU => exact (jA0 aC.out aD.out aH.out)); (case aV => exact (jFd HB.out (Qc.ge aC.out) aN.out aZ.out)); rintro e iO ⟨rfl, hi, hb, hk⟩; refine ⟨_, rfl, ?_⟩; replace aA := zKB hk aA.out aQ.out; replace aK := zKB hk aK.out aT.out; replace aM := Qa.mk (Kd.R_mono (Kd.R_keep (Qc.apart (show Qc w _ aW aY bF bG from (jA0 aC.out aD.out aH.out)) (zR aM.out) (by decide)) hk (fun _ h => h.2)) (fun _ h => h.1)); replace aC := Qa.mk (hi); replace HB := Qa.mk (hb); (try clear hb); (try clear hk); (try clear hi)))
  replace aM := Qa.mk (Kd.R_drew aM.out)
  replace aA := Qa.mk (Jo aA.out)
  replace aK := Qa.mk (Jo aK.out)
  replace aC := Qa.mk (Qc.drew aC.out)
  replace HB := Qa.mk (Qt HB.out)
  obtain ⟨fU, fV, dX⟩ := Kd.R_slice aM.out
  (first | subst dX | (injection dX with iA iP iB; have iQ := iA.symm; have iR := iB.symm; clear iA iP iB; subst iQ; subst iR))
  have fZ : (4 : Int) ≤ ((bB.length : Int) : Int) := zA
  obtain ⟨iT, cZ, _, dY, _⟩ := info_parts info3
  have dE := jJj (P := Try.prog) 27 3 .i64 Try.underlying27 cZ fU bB.length fV 4 (by omega) fZ (Kd.R_reads' aM.out).2.1
  have bS := Kd.R_take (m := (4 : Int).toNat) aM.out (by omega)
  have dZ : fT.length = (4 : Int).toNat := (by rw [cO.out, List.length_take]; omega)
  rw [← cO.out] at bS
  rw [← dZ] at bS dE
  clear dZ cZ dY aM
  have dA := Qa.mk bS
  clear bS
  replace fZ := eq_true fZ
  refine Ya (n := 5) (S := fun w' => w'.cell? ⟨aX, 0, none⟩ = some (.int .i64 bA) ∧ w'.cell? ⟨aX, 1, none⟩ = some (.string bC)) (ds := []) #[false, false, false, false, false] (by kernel_rfl) rfl rfl ⟨(Qo aK.out 0).trans rfl, (Qo aK.out 1).trans rfl⟩ (fun hHeld => ?_)
  generalize iO.drew = iC at aA aK aC HB dA hHeld ⊢
  refine Vr (i := 1) (N := some 24) (v := ?_) (a' := ?_) #[false, true, false, false, false] rfl rfl (by kernel_rfl) (fun _ _ _ h => h) (Or.inl ⟨by rfl, ?_⟩) ?_ ?_
  rotate_left
  ·intro w'
   go_simp
   with_reducible rfl
  rotate_left
  ·simp only [Act.put, List.setIfInBounds_toArray, List.set_cons_zero, List.set_cons_succ, Zu, Xo]
   rfl
  refine Vr (i := 2) (N := some 25) (v := ?_) (a' := ?_) #[false, true, true, false, false] rfl rfl (by kernel_rfl) (fun _ _ _ h => h) (Or.inl ⟨by rfl, ?_⟩) ?_ ?_
  rotate_left
  ·intro w'
   go_simp
   with_reducible rfl
  rotate_left
  ·simp only [Act.put, List.setIfInBounds_toArray, List.set_cons_zero, List.set_cons_succ, Zu, Xo]
   rfl
  refine take_ (i := 0) (N := some 23) (v := ?_) (a' := ?_) #[true, true, true, false, false] rfl rfl (by kernel_rfl) (fun _ _ _ h => h) (Or.inl ⟨by rfl, ?_⟩) hHeld ?_ ?_
  rotate_left
  ·rintro w' ⟨s0, s1⟩
   go_simp
   with_reducible rfl
  rotate_left
  ·simp only [Act.put, List.setIfInBounds_toArray, List.set_cons_zero, List.set_cons_succ, Zu, Xo]
   rfl
  refine jQp (i := 3) (N := none) #[true, true, true, true, false] rfl rfl (by kernel_rfl) (by decide) (fun K hK => ?_)
  have iU : iC.cell? ⟨aI, 0, none⟩ = some (.int .i64 0) := (Qo aA.out 0).trans rfl
  have iD := Zd aA.out 0
  have fA := aG.out
  have fB := aJ.out
  have iV : iC.cell? ⟨aI, 1, none⟩ = some (.string (⟨#[]⟩ : ByteArray)) := (Qo aA.out 1).trans rfl
  have iE := Zd aA.out 1
  have fC := aG.out
  have fD := aJ.out
  refine jEr (w1 := ?_) (by rfl) rfl ?_ ?_
  rotate_left
  ·go_simp
   rfl
  refine hK.out _ _ ⟨((cell_far (p := ⟨aI, _, none⟩) aG.out _).trans (((cell_far (p := ⟨aI, _, none⟩) aG.out _).trans (hHeld.1)))), ((cell_far (p := ⟨aI, _, none⟩) aG.out _).trans (((cell_far (p := ⟨aI, _, none⟩) aG.out _).trans (hHeld.2))))⟩ (fun hHeld => ?_)
  clear hK K
  refine Vr (i := 4) (N := some 3) (v := ?_) (a' := ?_) #[true, true, true, true, true] rfl rfl (by kernel_rfl) (fun _ _ _ h => h) (Or.inl ⟨by rfl, ?_⟩) ?_ ?_
  rotate_left
  ·intro w'
   go_simp
   with_reducible rfl
  rotate_left
  ·simp only [Act.put, List.setIfInBounds_toArray, List.set_cons_zero, List.set_cons_succ, Zu, Xo]
   rfl
  refine Vh (by kernel_rfl) ?_
  try go_wp2
  refine bodyPost_ret (Uj rfl _ _ aI 25 #[.int .i64 bA, .string bC] (0, 0) _ rfl (zk0 aA.out) Try.underlying25 rfl (by kernel_rfl)) rfl ?_
  exact ⟨_, zE, by (with_reducible repeat (first | apply Kd.R_alloc | apply Kd.R_drewN | apply Kd.R_drew)); exact Kd.R_mono (Kd.R_far (p := ⟨aI, 1, none⟩) (Kd.R_far (p := ⟨aI, 0, none⟩) (Kd.R_types dA.out aA.out (by decide)) (fun _ hk => hk.2) (.int .i64 bA)) (fun _ hk => hk.2) (.string bC)) (fun _ hk => trivial), zG3 (Qc.ge aC.out) aN.out aZ.out⟩
 exact absurd H (by simp)
def Zg.f (k : Nat) (l0 : List Int) : Option (Int × ByteArray × Int × Int) := (Vo.f k l0).bind fun aA => (if 0 < (aA.2.2.length : Int) then (if 1 < (aA.2.2.length : Int) then (some (aA.1, aA.2.1, rd aA.2.2 0, rd aA.2.2 1)) else (none)) else (none))
def Zg.T2 : Bool × List (List Nat × List Nat) := (true, [([], []), ([], []), ([1], [1]), ([2], [2]), ([], []), ([4], [4]), ([5], [5]), ([0, 0], [0]), ([3, 7, 0, 1, 2, 3, 7], [3]), ([6, 8, 0, 1, 2, 3, 4, 5, 6, 7, 8], [6])])
def Zg.B2 : List Nat := [0, 0, 2, 6, 0, 16, 48, 1, 143, 511]
theorem Zg.tab2 : Uc .any (opsOf Try.f66 2) = Zg.T2 := by kernel_rfl
theorem Zg.bits2 : X6 Zg.T2.2 Zg.B2 = true := by kernel_rfl
set_option maxHeartbeats 8000000 in
set_option maxRecDepth 100000 in
theorem Zg.calls (k : Nat) (A0 : Option Addr) (c0 : Nat) (l0 : List Int) (r1 : Int) (r2 : ByteArray) (r3 : Int) (r4 : Int) (w : World) (hr0 : Kd.C (Kd.int .u8) w A0 l0.length l0) (hc0 : l0.length ≤ c0) (h : Zg.f k l0 = some (r1, r2, r3, r4)) :
  Calls Try.prog 66 #[.slice A0 l0.length c0] w fun e w' => e = .returned (.tuple #[.agg #[.int .i64 r1, .string r2], .int .i64 r3, .int .i64 r4]) ∧ Below w.heap.size w w' := by
 have cZ := Try.underlying25
 have dA := Qa.mk hr0
 have dB := Qa.mk hc0
 clear hr0 hc0
 have HB := Qa.mk (Below.refl w.heap.size w)
 have H := h
 unfold Zg.f at H
 clear h
 obtain ⟨⟨aK, aM, aN⟩, A2, H⟩ := zO H
 dsimp only at H
 replace H := jA4 H
 rcases H with ⟨c3, dC, H⟩ | ⟨c3, H⟩
 ·have dD : decide (0 < aN.length) = true := decide_eq_true (by omega)
  clear c3
  replace H := jA4 H
  rcases H with ⟨c4, dE, H⟩ | ⟨c4, H⟩
  ·have dF : decide (1 < aN.length) = true := decide_eq_true (by omega)
   clear c4
   simp only [Option.some.injEq, Prod.mk.injEq] at H
   obtain ⟨rfl, rfl, rfl, rfl⟩ := H
   go_enter Try.func66, Try.ntmps66
   try go_wp2_with (first | ((with_reducible refine Qf (N := 2) rfl ?_); refine zBx (N := 2) #[.int .i64 0, .string (⟨#[]⟩ : ByteArray)] 25 ?_; intro aI hg w5 hbox hb; have aA := Qa.mk (hbox); have bM := zS hg; have aQ := zS hg; replace HB := zX hb; clear hb hbox hg) | ((with_reducible refine Qb (f := 104) rfl ?_); refine zD (some 9) Try.func104 #[.slice A0 l0.length c0] ((Vo.calls k _ _ l0 aK aM aN _ ?bC ?bD A2.out).mono ?_); (case bC => exact zc (Kd.C_below dA.out HB.out)); (case bD => exact dB.out); rintro e w6 ⟨bE, rfl, ho0, hb⟩; refine ⟨_, rfl, ?_⟩; have aC := Qa.mk (Kd.R_lower ho0 (Ql (zG aQ.out))); replace aA := zV aA.out hb; replace HB := zX1 aQ.out hb; (try clear hb); (try clear ho0)) | ((with_reducible refine Qf (N := 5) rfl ?_); refine zBx (N := 5) #[.int .i64 0, .string (⟨#[]⟩ : ByteArray)] 25 ?_; intro aG hg w7 hbox hb; replace aC := zW aC.out hb; have aJ := Qa.mk (hbox); have bN := zSg hg (zG aQ.out); have aW := zSg hg (zG aQ.out); have aH := zL hg aA.out; have aD := zLg hg aA.out; replace aA := zV aA.out hb; replace HB := zX1 aQ.out hb; clear hb hbox hg; have dG := aD.out; have dH := aH.out; obtain ⟨bO, bP, bQ, bR⟩ := zq2 aJ.out))
   have bS : Qa (Kd.R (Kd.int .i64) 3 ((w7.setCell ⟨aG, 0, none⟩ (.int .i64 aK)).setCell ⟨aG, 1, none⟩ (.string aM)) w.heap.size (fun _ => True) bE aN) := ⟨by (with_reducible repeat (first | apply Kd.R_alloc | apply Kd.R_drewN | apply Kd.R_drew)); exact Kd.R_mono (Kd.R_far (p := ⟨aG, 1, none⟩) (Kd.R_far (p := ⟨aG, 0, none⟩) (Kd.R_types aC.out aJ.out (by decide)) (fun _ hk => hk.2) (.int .i64 aK)) (fun _ hk => hk.2) (.string aM)) (fun _ hk => trivial)⟩
   have bT : Qa (((w7.setCell ⟨aG, 0, none⟩ (.int .i64 aK)).setCell ⟨aG, 1, none⟩ (.string aM)).heap[aI]? = some (.cells #[.int .i64 0, .string (⟨#[]⟩ : ByteArray)] 25 (0, 0))) := ⟨zk2 aA.out aH.out aH.out⟩
   have bU : Qa (((w7.setCell ⟨aG, 0, none⟩ (.int .i64 aK)).setCell ⟨aG, 1, none⟩ (.string aM)).heap[aG]? = some (.cells #[.int .i64 aK, .string aM] 25 (0, 0))) := ⟨zk0 aJ.out⟩
   have bV : Qa (Below w.heap.size w ((w7.setCell ⟨aG, 0, none⟩ (.int .i64 aK)).setCell ⟨aG, 1, none⟩ (.string aM))) := ⟨zG2 aQ.out aW.out⟩
   (try clear aC)
   (try clear aA)
   (try clear aJ)
   (try clear HB)
   generalize ((w7.setCell ⟨aG, 0, none⟩ (.int .i64 aK)).setCell ⟨aG, 1, none⟩ (.string aM)) = dI at bS bT bU bV ⊢
   have aC := bS
   have aA := bT
   have aJ := bU
   have HB := bV
   clear bS bT bU bV
   replace aC := Qa.mk (Kd.R_drew aC.out)
   replace aA := Qa.mk (Jo aA.out)
   replace aJ := Qa.mk (Jo aJ.out)
   replace HB := Qa.mk (Qt HB.out)
   obtain ⟨dJ, dK, bF⟩ := Kd.R_slice aC.out
   (first | subst bF | (injection bF with bY dL bZ; have dM := bY.symm; have dN := bZ.symm; clear bY dL bZ; subst dM; subst dN))
   have aX : 0 ≤ (0 : Int) := (by omega)
   have aY : 0 < (aN.length : Int) := zA
   obtain ⟨aV, bG, aT⟩ := Kd.at_int (Kd.R_reads' aC.out).2.2 0 aX aY
   cases bG
   have bW : (0 < aN.length) = True := eq_true (by omega)
   (try rw [show ((0 : Int)).toNat = 0 from rfl] at aT)
   (try rw [Addr.add_zero'] at aT)
   replace aX := eq_true aX
   replace aY := eq_true aY
   have aZ : 0 ≤ (1 : Int) := (by omega)
   have bA : 1 < (aN.length : Int) := zA
   obtain ⟨bB, bH, aU⟩ := Kd.at_int (Kd.R_reads' aC.out).2.2 1 aZ bA
   obtain rfl : aV = bB := (by injection bH)
   (try simp only [show (1 : Int).toNat = 1 from rfl, Nat.reduceMul, Nat.reduceEqDiff, Go.Addr.add, ↓reduceIte] at aU)
   have bX : (1 < aN.length) = True := eq_true (by omega)
   (try rw [show ((1 : Int)).toNat = 1 from rfl] at aU)
   replace aZ := eq_true aZ
   replace bA := eq_true bA
   refine Ya (n := 10) (S := fun w' => w'.cell? ⟨aG, 0, none⟩ = some (.int .i64 aK) ∧ w'.cell? ⟨aG, 1, none⟩ = some (.string aM) ∧ w'.cell? aV = some (.int .i64 (rd aN 0)) ∧ w'.cell? ⟨aV.block, aV.off + 1, none⟩ = some (.int .i64 (rd aN 1))) (ds := []) #[false, false, false, false, false, false, false, false, false, false] (by kernel_rfl) rfl rfl ⟨(Qo aJ.out 0).trans rfl, (Qo aJ.out 1).trans rfl, aT, aU⟩ (fun hHeld => ?_); refine Z0 Zg.tab2 Zg.bits2 (fun HT_ HW_ => ?_)
   generalize dI.drew = cB at aC aA aJ HB aT aU hHeld ⊢
   refine zP 1 (some 13) rfl rfl ?_
   refine zP 2 (some 14) rfl rfl ?_
   refine zP 4 (some 16) rfl rfl ?_
   refine zP 5 (some 17) rfl rfl ?_
   refine zY4 0 (some 12) rfl rfl hHeld ?_
   refine zY4 3 (some 15) rfl rfl hHeld ?_
   refine zY4 6 (some 18) rfl rfl hHeld ?_
   refine zU 7 none rfl rfl (fun K hK => ?_)
   have dO : cB.cell? ⟨aI, 0, none⟩ = some (.int .i64 0) := (Qo aA.out 0).trans rfl
   have cK := Zd aA.out 0
   have bI := aD.out
   have bJ := aH.out
   have dP : cB.cell? ⟨aI, 1, none⟩ = some (.string (⟨#[]⟩ : ByteArray)) := (Qo aA.out 1).trans rfl
   have cO := Zd aA.out 1
   have bK := aD.out
   have bL := aH.out
   refine jEr (w1 := ?_) (by rfl) rfl ?_ ?_
   rotate_left
   ·go_simp
    rfl
   refine hK.out _ _ ⟨((cell_far (p := ⟨aI, _, none⟩) aD.out _).trans (((cell_far (p := ⟨aI, _, none⟩) aD.out _).trans (hHeld.1)))), ((cell_far (p := ⟨aI, _, none⟩) aD.out _).trans (((cell_far (p := ⟨aI, _, none⟩) aD.out _).trans (hHeld.2.1)))), ((cell_far (p := ⟨aI, _, none⟩) (by first | exact Kd.own_blk (Kd.R_ne aC.out aA.out (by decide)) | (rw [add_block]; exact Kd.own_blk (Kd.R_ne aC.out aA.out (by decide))) | (show (Addr.add _ _).block ≠ _; rw [add_block]; exact Kd.own_blk (Kd.R_ne aC.out aA.out (by decide))) | (dsimp only; exact Kd.own_blk (Kd.R_ne aC.out aA.out (by decide)))) _).trans (((cell_far (p := ⟨aI, _, none⟩) (by first | exact Kd.own_blk (Kd.R_ne aC.out aA.out (by decide)) | (rw [add_block]; exact Kd.own_blk (Kd.R_ne aC.out aA.out (by decide))) | (show (Addr.add _ _).block ≠ _; rw [add_block]; exact Kd.own_blk (Kd.R_ne aC.out aA.out (by decide))) | (dsimp only; exact Kd.own_blk (Kd.R_ne aC.out aA.out (by decide)))) _).trans (hHeld.2.2.1)))), ((cell_far (p := ⟨aI, _, none⟩) (by first | exact Kd.own_blk (Kd.R_ne aC.out aA.out (by decide)) | (rw [add_block]; exact Kd.own_blk (Kd.R_ne aC.out aA.out (by decide))) | (show (Addr.add _ _).block ≠ _; rw [add_block]; exact Kd.own_blk (Kd.R_ne aC.out aA.out (by decide))) | (dsimp only; exact Kd.own_blk (Kd.R_ne aC.out aA.out (by decide)))) _).trans (((cell_far (p := ⟨aI, _, none⟩) (by first | exact Kd.own_blk (Kd.R_ne aC.out aA.out (by decide)) | (rw [add_block]; exact Kd.own_blk (Kd.R_ne aC.out aA.out (by decide))) | (show (Addr.add _ _).block ≠ _; rw [add_block]; exact Kd.own_blk (Kd.R_ne aC.out aA.out (by decide))) | (dsimp only; exact Kd.own_blk (Kd.R_ne aC.out aA.out (by decide)))) _).trans (hHeld.2.2.2))))⟩ (fun hHeld => ?_)
   clear hK K
   refine zP 8 (some 3) rfl rfl ?_
   refine zP 9 (some 4) rfl rfl ?_
   refine Vh (Xu HT_.out (by kernel_rfl)) ?_
   try go_wp2
   refine bodyPost_ret (jHa rfl _ _ aI 25 #[.int .i64 aK, .string aM] (0, 0) _ rfl (zk0 aA.out) Try.underlying25 rfl (by kernel_rfl)) rfl ?_
   exact ⟨zE, zG2 aQ.out aW.out⟩
  exact absurd H (by simp)
 exact absurd H (by simp)
def Ym.f (k : Nat) (l0 : List Int) : Option (Int × ByteArray × Int) := (Xc.f k l0).bind fun aA => ((Xz.f k aA.1 aA.2.1 aA.2.2).bind fun aC => ((Jz.f aA.1 aC.2.2.1 aC.2.2.2 7).bind fun aD => ((Xk.f aA.1 aD.2.1 aD.2.2 14).bind fun aG => ((X9.f aG.1).bind fun aH => (some (aC.1, aC.2.1, wrap64 (aD.1 - aH)))))))
theorem jN8 {p q p0 : Prop} (g : p) (g0 : p0) (h : p → p0 → q := by intro zg_ aA; repeat (first | (with_reducible first | exact zg_ | apply Jq | apply Jh | apply Qt | refine Jt ?_ aA) | exact zg_)) : q := h g g0
theorem jD5 {p q p0 : Prop} (g : p) (g0 : p0) (h : p → p0 → q := by intro zg_ aA; repeat (first | (with_reducible first | exact zg_ | apply Qc.alloc | apply Qc.drewN | apply Qc.drew | apply Qc.set_1 | apply Qc.set_2 | refine Qc.far ?_ aA _) | exact zg_)) : q := h g g0
theorem jGj {p q p0 p1 : Prop} (g : p) (g0 : p0) (g1 : p1) (h : p → p0 → p1 → q := by intro zg_ aA aC; repeat (first | (with_reducible first | exact zg_ | apply Jq | apply Jh | apply Qt | refine Jt ?_ aA | refine Jt ?_ aC) | exact zg_)) : q := h g g0 g1
set_option maxHeartbeats 8000000 in
set_option maxRecDepth 100000 in
theorem Ym.calls (k : Nat) (A0 : Option Addr) (c0 : Nat) (l0 : List Int) (r1 : Int) (r2 : ByteArray) (r3 : Int) (w : World) (hr0 : Kd.C (Kd.int .u8) w A0 l0.length l0) (hc0 : l0.length ≤ c0) (h : Ym.f k l0 = some (r1, r2, r3)) :
  Calls Try.prog 68 #[.slice A0 l0.length c0] w fun e w' => e = .returned (.tuple #[.agg #[.int .i64 r1, .string r2], .int .i64 r3]) ∧ Below w.heap.size w w' := by
 have bR := Try.underlying25
 have bS := Qa.mk hr0
 have bT := Qa.mk hc0
 clear hr0 hc0
 have HB := Qa.mk (Below.refl w.heap.size w)
 have H := h
 unfold Ym.f at H
 clear h
 obtain ⟨⟨aM, aQ, aT⟩, A2, H⟩ := zO H
 dsimp only at H
 obtain ⟨⟨aU, aV, aW, aX⟩, A3, H⟩ := zO H
 dsimp only at H
 obtain ⟨⟨bE, aY, aZ⟩, A4, H⟩ := zO H
 dsimp only at H
 obtain ⟨⟨bA, bB, bC⟩, A5, H⟩ := zO H
 dsimp only at H
 obtain ⟨bF, A6, H⟩ := zO H
 simp only [Option.some.injEq, Prod.mk.injEq] at H
 obtain ⟨rfl, rfl, rfl⟩ := H
 go_enter Try.func68, Try.ntmps68
 go_wp2_with (first | ((with_reducible refine Qf (N := 2) rfl ?_); refine zBx (N := 2) #[.int .i64 0, .string (⟨#[]⟩ : ByteArray)] 25 ?_; intro aI hg w7 hbox hb; have aA := Qa.mk (hbox); have bL := zS hg; have aH := zS hg; replace HB := zX hb; clear hb hbox hg) | ((with_reducible refine Qb (f := 81) rfl ?_); refine zD (some 6) Try.func81 #[.slice A0 l0.length c0] ((Xc.calls k _ _ l0 aM aQ aT w _ ?aJ ?aK ?bG A2.out).mono ?_); (case aJ => exact (jN8 HB.out aH.out)); (case aK => exact bS.out); (case bG => exact bT.out); rintro e w8 ⟨aN, rfl, hi, hb, hb2⟩; refine ⟨_, rfl, ?_⟩; have aC := Qa.mk (hi); have aD := Qa.mk (Qc.ne_blk hi (Zj (g := aI) (o := .cells #[.int .i64 0, .string (⟨#[]⟩ : ByteArray)] 25 (0, 0)) (zK aA.out) hb2) (by decide)); have aG := Qa.mk (Ne.symm (Qc.ne_blk hi (Zj (g := aI) (o := .cells #[.int .i64 0, .string (⟨#[]⟩ : ByteArray)] 25 (0, 0)) (zK aA.out) hb2) (by decide))); replace aA := Qa.mk (Zj (g := aI) (o := .cells #[.int .i64 0, .string (⟨#[]⟩ : ByteArray)] 25 (0, 0)) (zK aA.out) hb2); replace HB := Qa.mk (hb); (try clear hb); (try clear hb2); (try clear hi)) | ((with_reducible refine Qb (f := 109) rfl ?_); refine zD (some 8) Try.func109 _ ((Xz.calls k aN aM aQ aT aU aV aW aX w _ ?aJ ?aK A3.out).mono ?_); (case aJ => exact (jD5 aC.out aD.out)); (case aK => exact (jGj HB.out (Qc.ge aC.out) aH.out)); rintro e w9 ⟨rfl, hi, hb, hk⟩; refine ⟨_, rfl, ?_⟩; replace aA := zKB hk aA.out aG.out; replace aC := Qa.mk (hi); replace HB := Qa.mk (hb); (try clear hb); (try clear hk); (try clear hi)) | ((with_reducible refine Qb (f := 125) rfl ?_); refine zD (some 10) Try.func125 _ ((Jz.calls aN aM aW aX 7 bE aY aZ w _ ?aJ ?aK A4.out).mono ?_); (case aJ => exact (jD5 aC.out aD.out)); (case aK => exact (jGj HB.out (Qc.ge aC.out) aH.out)); rintro e bU ⟨rfl, hi, hb, hk⟩; refine ⟨_, rfl, ?_⟩; replace aA := zKB hk aA.out aG.out; replace aC := Qa.mk (hi); replace HB := Qa.mk (hb); (try clear hb); (try clear hk); (try clear hi)) | ((with_reducible refine Qb (f := 127) rfl ?_); refine zD (some 12) Try.func127 _ ((Xk.calls aN aM aY aZ 14 bA bB bC w _ ?aJ ?aK A5.out).mono ?_); (case aJ => exact (jD5 aC.out aD.out)); (case aK => exact (jGj HB.out (Qc.ge aC.out) aH.out)); rintro e bD ⟨rfl, hi, hb, hk⟩; refine ⟨_, rfl, ?_⟩; replace aA := zKB hk aA.out aG.out; replace aC := Qa.mk (hi); replace HB := Qa.mk (hb); (try clear hb); (try clear hk); (try clear hi)) | ((with_reducible refine Qb (f := 119) rfl ?_); refine zD (some 13) Try.func119 _ ((X9.calls bA bF _ A6.out).mono ?_); rintro e w' ⟨rfl, ⟨nd, rfl⟩⟩; refine ⟨_, rfl, ?_⟩; (try (rw [jDv bD]; generalize hq_ : World.drewN bD _ = bD; have bM : Qa (bD.heap[aI]? = some (.cells #[.int .i64 0, .string (⟨#[]⟩ : ByteArray)] 25 (0, 0))) := ⟨by rw [← hq_]; exact (zK aA.out)⟩; have bN : Qa (Qc w bD aN aM bB bC) := ⟨by rw [← hq_]; exact (jD5 aC.out aD.out)⟩; have bO : Qa (Below w.heap.size w bD) := ⟨by rw [← hq_]; exact (zG2 (Qc.ge aC.out) aH.out)⟩; clear aA aC HB hq_; have aA := bM; have aC := bN; have HB := bO; clear bM bN bO)); have bP := aG.out; have bQ := aD.out; obtain ⟨bH, bI, bJ, bK⟩ := zq2 aA.out))
 refine bodyPost_ret (Uj rfl _ _ aI 25 #[.int .i64 aU, .string aV] (0, 0) _ rfl (zk0 aA.out) Try.underlying25 rfl (by kernel_rfl)) rfl ?_
 exact ⟨zE, zG2 (Qc.ge aC.out) aH.out⟩
def X5.f (a0 : Int) : Option (Int) := if 0 ≤ a0 then (some (wrap64 ((shl .i64 1 a0) - 1))) else (none)
set_option maxHeartbeats 8000000 in
set_option maxRecDepth 100000 in
theorem X5.calls (a0 : Int) (r : Int) (w : World) (h : X5.f a0 = some r) :
  Calls Try.prog 121 #[.int .i64 a0] w fun e w' => e = .returned (.int .i64 r) ∧ Qs w w' := by
 have H := h
 unfold X5.f at H
 clear h
 replace H := Xw H
 rcases H with ⟨aM, aN, H⟩ | ⟨c2, H⟩
 ·obtain ⟨aG, aA⟩ : ∃ j_ : Int, (shl .i64 1 a0) = j_ := ⟨_, rfl⟩
  first | rw [aA] at H | simp only [aA] at H
  have aC : (IntKind.i64.wrap (1 * 2 ^ min a0.toNat 64)) = aG := aA
  have aD := Yc aA
  have aH : (IntKind.i64.wrap (2 ^ min a0.toNat 64)) = aG := by have h_ := aC; rw [Int.one_mul] at h_; exact h_
  have aI : a0 ≤ 64 → (IntKind.i64.wrap (2 ^ a0.toNat)) = aG := fun hle_ => by have h_ := aD hle_; rw [Int.one_mul] at h_; exact h_
  have aJ : (wrap64 (1 * 2 ^ min a0.toNat 64)) = aG := (Zu _).symm.trans aC
  have aK : a0 ≤ 64 → (wrap64 (1 * 2 ^ a0.toNat)) = aG := fun h_ => (Zu _).symm.trans (aD h_)
  obtain rfl := Option.some.inj H
  go_enter Try.func121, Try.ntmps121
  go_wp2
  go_ret
  exact ⟨by first | rfl | (simp; done) | (simp only [← aA] <;> (first | rfl | simp)) | (simp [*]; done), by repeat (first | exact Qs.refl _ | apply Qs.step)⟩
 exact absurd H (by simp)
def Vd.f (a0 : Int) : Option (Int) := some (Go.bits .and .i64 (wrap64 (IntKind.u64.wrap ((IntKind.u64.wrap ((IntKind.u64.wrap ((Go.bits .and .u64 (IntKind.u64.wrap (((IntKind.u64.wrap ((Go.bits .and .u64 ((IntKind.u64.wrap ((Go.bits .and .u64 (a0 / 2) 6148914691236517205) + (Go.bits .and .u64 a0 6148914691236517205))) / 4) 3689348814741910323) + (Go.bits .and .u64 (IntKind.u64.wrap ((Go.bits .and .u64 (a0 / 2) 6148914691236517205) + (Go.bits .and .u64 a0 6148914691236517205))) 3689348814741910323))) / 16) + (IntKind.u64.wrap ((Go.bits .and .u64 ((IntKind.u64.wrap ((Go.bits .and .u64 (a0 / 2) 6148914691236517205) + (Go.bits .and .u64 a0 6148914691236517205))) / 4) 3689348814741910323) + (Go.bits .and .u64 (IntKind.u64.wrap ((Go.bits .and .u64 (a0 / 2) 6148914691236517205) + (Go.bits .and .u64 a0 6148914691236517205))) 3689348814741910323))))) 1085102592571150095) + ((Go.bits .and .u64 (IntKind.u64.wrap (((IntKind.u64.wrap ((Go.bits .and .u64 ((IntKind.u64.wrap ((Go.bits .and .u64 (a0 / 2) 6148914691236517205) + (Go.bits .and .u64 a0 6148914691236517205))) / 4) 3689348814741910323) + (Go.bits .and .u64 (IntKind.u64.wrap ((Go.bits .and .u64 (a0 / 2) 6148914691236517205) + (Go.bits .and .u64 a0 6148914691236517205))) 3689348814741910323))) / 16) + (IntKind.u64.wrap ((Go.bits .and .u64 ((IntKind.u64.wrap ((Go.bits .and .u64 (a0 / 2) 6148914691236517205) + (Go.bits .and .u64 a0 6148914691236517205))) / 4) 3689348814741910323) + (Go.bits .and .u64 (IntKind.u64.wrap ((Go.bits .and .u64 (a0 / 2) 6148914691236517205) + (Go.bits .and .u64 a0 6148914691236517205))) 3689348814741910323))))) 1085102592571150095) / 256))) + ((IntKind.u64.wrap ((Go.bits .and .u64 (IntKind.u64.wrap (((IntKind.u64.wrap ((Go.bits .and .u64 ((IntKind.u64.wrap ((Go.bits .and .u64 (a0 / 2) 6148914691236517205) + (Go.bits .and .u64 a0 6148914691236517205))) / 4) 3689348814741910323) + (Go.bits .and .u64 (IntKind.u64.wrap ((Go.bits .and .u64 (a0 / 2) 6148914691236517205) + (Go.bits .and .u64 a0 6148914691236517205))) 3689348814741910323))) / 16) + (IntKind.u64.wrap ((Go.bits .and .u64 ((IntKind.u64.wrap ((Go.bits .and .u64 (a0 / 2) 6148914691236517205) + (Go.bits .and .u64 a0 6148914691236517205))) / 4) 3689348814741910323) + (Go.bits .and .u64 (IntKind.u64.wrap ((Go.bits .and .u64 (a0 / 2) 6148914691236517205) + (Go.bits .and .u64 a0 6148914691236517205))) 3689348814741910323))))) 1085102592571150095) + ((Go.bits .and .u64 (IntKind.u64.wrap (((IntKind.u64.wrap ((Go.bits .and .u64 ((IntKind.u64.wrap ((Go.bits .and .u64 (a0 / 2) 6148914691236517205) + (Go.bits .and .u64 a0 6148914691236517205))) / 4) 3689348814741910323) + (Go.bits .and .u64 (IntKind.u64.wrap ((Go.bits .and .u64 (a0 / 2) 6148914691236517205) + (Go.bits .and .u64 a0 6148914691236517205))) 3689348814741910323))) / 16) + (IntKind.u64.wrap ((Go.bits .and .u64 ((IntKind.u64.wrap ((Go.bits .and .u64 (a0 / 2) 6148914691236517205) + (Go.bits .and .u64 a0 6148914691236517205))) / 4) 3689348814741910323) + (Go.bits .and .u64 (IntKind.u64.wrap ((Go.bits .and .u64 (a0 / 2) 6148914691236517205) + (Go.bits .and .u64 a0 6148914691236517205))) 3689348814741910323))))) 1085102592571150095) / 256))) / 65536))) + ((IntKind.u64.wrap ((IntKind.u64.wrap ((Go.bits .and .u64 (IntKind.u64.wrap (((IntKind.u64.wrap ((Go.bits .and .u64 ((IntKind.u64.wrap ((Go.bits .and .u64 (a0 / 2) 6148914691236517205) + (Go.bits .and .u64 a0 6148914691236517205))) / 4) 3689348814741910323) + (Go.bits .and .u64 (IntKind.u64.wrap ((Go.bits .and .u64 (a0 / 2) 6148914691236517205) + (Go.bits .and .u64 a0 6148914691236517205))) 3689348814741910323))) / 16) + (IntKind.u64.wrap ((Go.bits .and .u64 ((IntKind.u64.wrap ((Go.bits .and .u64 (a0 / 2) 6148914691236517205) + (Go.bits .and .u64 a0 6148914691236517205))) / 4) 3689348814741910323) + (Go.bits .and .u64 (IntKind.u64.wrap ((Go.bits .and .u64 (a0 / 2) 6148914691236517205) + (Go.bits .and .u64 a0 6148914691236517205))) 3689348814741910323))))) 1085102592571150095) + ((Go.bits .and .u64 (IntKind.u64.wrap (((IntKind.u64.wrap ((Go.bits .and .u64 ((IntKind.u64.wrap ((Go.bits .and .u64 (a0 / 2) 6148914691236517205) + (Go.bits .and .u64 a0 6148914691236517205))) / 4) 3689348814741910323) + (Go.bits .and .u64 (IntKind.u64.wrap ((Go.bits .and .u64 (a0 / 2) 6148914691236517205) + (Go.bits .and .u64 a0 6148914691236517205))) 3689348814741910323))) / 16) + (IntKind.u64.wrap ((Go.bits .and .u64 ((IntKind.u64.wrap ((Go.bits .and .u64 (a0 / 2) 6148914691236517205) + (Go.bits .and .u64 a0 6148914691236517205))) / 4) 3689348814741910323) + (Go.bits .and .u64 (IntKind.u64.wrap ((Go.bits .and .u64 (a0 / 2) 6148914691236517205) + (Go.bits .and .u64 a0 6148914691236517205))) 3689348814741910323))))) 1085102592571150095) / 256))) + ((IntKind.u64.wrap ((Go.bits .and .u64 (IntKind.u64.wrap (((IntKind.u64.wrap ((Go.bits .and .u64 ((IntKind.u64.wrap ((Go.bits .and .u64 (a0 / 2) 6148914691236517205) + (Go.bits .and .u64 a0 6148914691236517205))) / 4) 3689348814741910323) + (Go.bits .and .u64 (IntKind.u64.wrap ((Go.bits .and .u64 (a0 / 2) 6148914691236517205) + (Go.bits .and .u64 a0 6148914691236517205))) 3689348814741910323))) / 16) + (IntKind.u64.wrap ((Go.bits .and .u64 ((IntKind.u64.wrap ((Go.bits .and .u64 (a0 / 2) 6148914691236517205) + (Go.bits .and .u64 a0 6148914691236517205))) / 4) 3689348814741910323) + (Go.bits .and .u64 (IntKind.u64.wrap ((Go.bits .and .u64 (a0 / 2) 6148914691236517205) + (Go.bits .and .u64 a0 6148914691236517205))) 3689348814741910323))))) 1085102592571150095) + ((Go.bits .and .u64 (IntKind.u64.wrap (((IntKind.u64.wrap ((Go.bits .and .u64 ((IntKind.u64.wrap ((Go.bits .and .u64 (a0 / 2) 6148914691236517205) + (Go.bits .and .u64 a0 6148914691236517205))) / 4) 3689348814741910323) + (Go.bits .and .u64 (IntKind.u64.wrap ((Go.bits .and .u64 (a0 / 2) 6148914691236517205) + (Go.bits .and .u64 a0 6148914691236517205))) 3689348814741910323))) / 16) + (IntKind.u64.wrap ((Go.bits .and .u64 ((IntKind.u64.wrap ((Go.bits .and .u64 (a0 / 2) 6148914691236517205) + (Go.bits .and .u64 a0 6148914691236517205))) / 4) 3689348814741910323) + (Go.bits .and .u64 (IntKind.u64.wrap ((Go.bits .and .u64 (a0 / 2) 6148914691236517205) + (Go.bits .and .u64 a0 6148914691236517205))) 3689348814741910323))))) 1085102592571150095) / 256))) / 65536))) / 4294967296)))) 127)
set_option maxHeartbeats 8000000 in
set_option maxRecDepth 100000 in
theorem Vd.calls (a0 : Int) (r : Int) (w : World) (h : Vd.f a0 = some r) :
  Calls Try.prog 153 #[.int .u64 a0] w fun e w' => e = .returned (.int .i64 r) ∧ Qs w w' := by
 have H := h
 unfold Vd.f at H
 clear h
 obtain rfl := Option.some.inj H
 go_enter Try.func153, Try.ntmps153
 go_wp2
 go_ret
 exact ⟨by first | rfl | (simp; done) | (simp [*]; done), by repeat (first | exact Qs.refl _ | apply Qs.step)⟩
def Zw.f (a0 : Int) : Option (Int) := (Vd.f a0).bind fun aA => (some aA)
set_option maxHeartbeats 8000000 in
set_option maxRecDepth 100000 in
theorem Zw.calls (a0 : Int) (r : Int) (w : World) (h : Zw.f a0 = some r) :
  Calls Try.prog 135 #[.int .u64 a0] w fun e w' => e = .returned (.int .i64 r) ∧ Qs w w' := by
 have H := h
 unfold Zw.f at H
 clear h
 obtain ⟨aA, A2, H⟩ := zO H
 obtain rfl := Option.some.inj H
 go_enter Try.func135, Try.ntmps135
 go_wp2_with (first | ((with_reducible refine Qb (f := 153) rfl ?_); refine zD (some 7) Try.func153 _ ((Vd.calls a0 aA _ A2.out).mono ?_); rintro e w' ⟨rfl, ⟨nd, rfl⟩⟩; refine ⟨_, rfl, ?_⟩))
 go_ret
 exact ⟨by first | rfl | (simp; done) | (simp [*]; done), by repeat (first | exact Qs.refl _ | apply Qs.step)⟩
def Ju.l0 : Nat → ByteArray → Int → Int → List Int → Int → Int → Option (Int × Int)
 | 0, _, _, _, _, _, _ => none
 | k + 1, aA, aC, aD, x27, x28, x29 => if x29 < x28 then (if 0 ≤ x29 then (if x29 < (x27.length : Int) then (if x29 < (aA.size : Int) then (if (bt aA x29) = 43 then (if 0 ≤ (rd x27 x29) then (Ju.l0 k aA (Go.bits .or .i64 aC (shl .i64 1 (rd x27 x29))) aD x27 x28 (wrap64 (x29 + 1))) else (none)) else (if 0 ≤ (rd x27 x29) then (Ju.l0 k aA aC (Go.bits .or .i64 aD (shl .i64 1 (rd x27 x29))) x27 x28 (wrap64 (x29 + 1))) else (none))) else (none)) else (none)) else (none)) else (some (aC, aD))
def Ju.f (k : Nat) (l0 : List Int) (a1 : Int) (a2 : Int) (a3 : Int) (a4 : Int) : Option (Int × Int) := (Q3.f k l0 a1 a2 a3 a4).bind fun aC => ((some (([a1, a2, a3, a4] : List Int) : List Int)).bind fun aA => (Ju.l0 k aC 0 0 aA (aA.length : Int) 0))
set_option maxHeartbeats 8000000 in
set_option maxRecDepth 100000 in
theorem Ju.calls (k : Nat) (g0 : Nat) (l0 : List Int) (a1 : Int) (a2 : Int) (a3 : Int) (a4 : Int) (r1 : Int) (r2 : Int) (w : World) (hr0 : Kd.C (Kd.int .i64) w (some ⟨g0, 0, none⟩) l0.length l0) (hc0 : l0.length = 344) (h : Ju.f k l0 a1 a2 a3 a4 = some (r1, r2)) :
  Calls Try.prog 106 #[.pointer (some ⟨g0, 0, none⟩), .int .i64 a1, .int .i64 a2, .int .i64 a3, .int .i64 a4] w fun e w' => e = .returned (.tuple #[.int .i64 r1, .int .i64 r2]) ∧ Below w.heap.size w w' := by
 have dB := Qa.mk hr0
 have dC := Qa.mk hc0
 clear hr0 hc0
 have HB := Qa.mk (Below.refl w.heap.size w)
 have H := h
 unfold Ju.f at H
 clear h
 obtain ⟨aN, A6, H⟩ := zO H
 obtain ⟨aC, aZ, H⟩ := zs H
 have H' := Qa.mk H; clear H
 go_enter Try.func106, Try.ntmps106
 go_wp2_with (first | ((with_reducible refine Qb (f := 96) rfl ?_); refine zD (some 22) Try.func96 #[.pointer (some ⟨g0, 0, none⟩), .int .i64 a1, .int .i64 a2, .int .i64 a3, .int .i64 a4] ((Q3.calls k _ l0 a1 a2 a3 a4 aN _ ?bC ?bD A6.out).mono ?_); (case bC => exact zc dB.out); (case bD => exact dC.out); rintro e w7 ⟨rfl, hb⟩; refine ⟨_, rfl, ?_⟩; replace HB := zX hb; (try clear hb)) | ((with_reducible refine Qf (N := 27) rfl ?_); refine Kd.R_lit (Kd.int .i64) _ 3 ?hg (N := 27) ?hd (xs := ([a1, a2, a3, a4] : List Int)) (inner := [.int .i64 a1, .int .i64 a2, .int .i64 a3, .int .i64 a4]) (ok := fun _ => True) (okp := fun _ => True) ?hr ?hp (fun _ hk => hk) trivial (Below.refl _ _) (Nat.le_refl _) (by simp) ?_; (case hd => rfl); (case hg => rfl); (case hr => first | (go_simp; done) | (go_simp; rfl)); (case hp => exact (Xb.one (show Kd.M (Kd.int .i64) _ _ _ a1 [.int .i64 a1] from rfl) (Xb.one (show Kd.M (Kd.int .i64) _ _ _ a2 [.int .i64 a2] from rfl) (Xb.one (show Kd.M (Kd.int .i64) _ _ _ a3 [.int .i64 a3] from rfl) (Xb.one (show Kd.M (Kd.int .i64) _ _ _ a4 [.int .i64 a4] from rfl) (Xb.none _ _)))))); intro dD w8 bE hb hg_ hnew_; clear hg_ hnew_; (first | rw [← aZ.out] at bE | (simp only [Int.reduceToNat] at bE; rw [← aZ.out] at bE)); have bA := Qa.mk (Kd.R_lower bE (Ql zB)); replace HB := zX hb; clear hb bE; obtain ⟨bM, bN, bO⟩ := Kd.R_slice bA.out; subst bO))
 go_loopg [13, 14, 29] k (fun kq v13 v14 v29 w' => ∃ (aD : Int) (aG : Int) (aA : Int), v13 = .int .i64 aD ∧ v14 = .int .i64 aG ∧ v29 = .int .i64 aA ∧ Qa (Ju.l0 kq aN aD aG aC (aC.length : Int) aA = some (r1, r2)) ∧ Qa (kq ≤ k) ∧ Qa (Kd.R (Kd.int .i64) 3 w' w.heap.size (fun _ => True) (.slice bM aC.length bN) aC) ∧ Qa (Below w.heap.size w w'))
 case atStart => exact ⟨(0), (0), (0), zF, zF, zF, H', ⟨Nat.le_refl _⟩, ⟨zR bA.out⟩, ⟨zB⟩⟩
 case round =>
 clear H'
 obtain ⟨aD, aG, aA, rfl, rfl, rfl, HA, bL, aM, HB⟩ := hrel
 cases gk with
 | zero => exact absurd HA.out (by simp [Ju.l0])
 | succ k1 =>
 have H := HA.out
 clear HA
 simp only [Ju.l0] at H
 replace H := Z5 H
 rcases H with ⟨bF, H⟩ | ⟨bF, H⟩
 ·replace H := Zq H
  rcases H with ⟨bY, H⟩ | ⟨c12, H⟩
  ·replace H := Zq H
   rcases H with ⟨bZ, H⟩ | ⟨c13, H⟩
   ·replace H := Zq H
    rcases H with ⟨cB, H⟩ | ⟨c14, H⟩
    ·replace H := Zi H
     rcases H with ⟨bG, bH, H⟩ | ⟨c16, bG, bH, H⟩
     ·replace H := Xw H
      rcases H with ⟨cK, cO, H⟩ | ⟨c17, H⟩
      ·obtain ⟨aQ, aH⟩ : ∃ j_ : Int, (shl .i64 1 (rd aC aA)) = j_ := ⟨_, rfl⟩
       first | rw [aH] at H | simp only [aH] at H
       have aU : (IntKind.i64.wrap (1 * 2 ^ min (rd aC aA).toNat 64)) = aQ := aH
       have aV := Yc aH
       have bP : (IntKind.i64.wrap (2 ^ min (rd aC aA).toNat 64)) = aQ := by have h_ := aU; rw [Int.one_mul] at h_; exact h_
       have bQ : (rd aC aA) ≤ 64 → (IntKind.i64.wrap (2 ^ (rd aC aA).toNat)) = aQ := fun hle_ => by have h_ := aV hle_; rw [Int.one_mul] at h_; exact h_
       have bR : (wrap64 (1 * 2 ^ min (rd aC aA).toNat 64)) = aQ := (Zu _).symm.trans aU
       have bS : (rd aC aA) ≤ 64 → (wrap64 (1 * 2 ^ (rd aC aA).toNat)) = aQ := fun h_ => (Zu _).symm.trans (aV h_)
       have H' := Qa.mk H; clear H
       have aJ : 0 ≤ (aA : Int) := zA
       have aK : aA < (aC.length : Int) := zA
       obtain ⟨bI, bB, aY⟩ := Kd.at_int (Kd.R_reads' aM.out).2.2 aA aJ aK
       cases bB
       replace aJ := eq_true aJ
       replace aK := eq_true aK
       have bJ : 0 ≤ (aA : Int) := zA
       have bK : aA < (aN.size : Int) := zA
       have bT := Ka aN aA
       replace bJ := eq_true bJ
       replace bK := eq_true bK
       go_wp2
       go_roundg k1
       case measure => have := bL.out; omega
       case rel => exact ⟨(Go.bits .or .i64 aD (aQ)), (aG), (wrap64 (aA + 1)), (by first | rfl | (simp; done) | (simp only [← aH] <;> (first | rfl | simp)) | (simp [*]; done)), zF, zF, H', ⟨by have := bL.out; omega⟩, ⟨zR aM.out⟩, ⟨zB⟩⟩
      exact absurd H (by simp)
     replace H := Xw H
     rcases H with ⟨cZ, dA, H⟩ | ⟨c19, H⟩
     ·obtain ⟨aT, aI⟩ : ∃ j_ : Int, (shl .i64 1 (rd aC aA)) = j_ := ⟨_, rfl⟩
      first | rw [aI] at H | simp only [aI] at H
      have aW : (IntKind.i64.wrap (1 * 2 ^ min (rd aC aA).toNat 64)) = aT := aI
      have aX := Yc aI
      have bU : (IntKind.i64.wrap (2 ^ min (rd aC aA).toNat 64)) = aT := by have h_ := aW; rw [Int.one_mul] at h_; exact h_
      have bV : (rd aC aA) ≤ 64 → (IntKind.i64.wrap (2 ^ (rd aC aA).toNat)) = aT := fun hle_ => by have h_ := aX hle_; rw [Int.one_mul] at h_; exact h_
      have bW : (wrap64 (1 * 2 ^ min (rd aC aA).toNat 64)) = aT := (Zu _).symm.trans aW
      have bX : (rd aC aA) ≤ 64 → (wrap64 (1 * 2 ^ (rd aC aA).toNat)) = aT := fun h_ => (Zu _).symm.trans (aX h_)
      have H' := Qa.mk H; clear H
      have aJ : 0 ≤ (aA : Int) := zA
      have aK : aA < (aC.length : Int) := zA
      obtain ⟨bI, bB, aY⟩ := Kd.at_int (Kd.R_reads' aM.out).2.2 aA aJ aK
      cases bB
      replace aJ := eq_true aJ
      replace aK := eq_true aK
      have bJ : 0 ≤ (aA : Int) := zA
      have bK : aA < (aN.size : Int) := zA
      have bT := Ka aN aA
      replace bJ := eq_true bJ
      replace bK := eq_true bK
      go_wp2
      go_roundg k1
      case measure => have := bL.out; omega
      case rel => exact ⟨(aD), (Go.bits .or .i64 aG (aT)), (wrap64 (aA + 1)), zF, (by first | rfl | (simp; done) | (simp only [← aI] <;> (first | rfl | simp)) | (simp [*]; done)), zF, H', ⟨by have := bL.out; omega⟩, ⟨zR aM.out⟩, ⟨zB⟩⟩
     exact absurd H (by simp)
    exact absurd H (by simp)
   exact absurd H (by simp)
  exact absurd H (by simp)
 simp only [Option.some.injEq, Prod.mk.injEq] at H
 obtain ⟨rfl, rfl⟩ := H
 go_wp2
 go_ret2
 exact ⟨zE, zB⟩
def Zp.l0 : Nat → Int → Int → Option (Int)
 | 0, _, _ => none
 | k + 1, x0, x3 => if x3 < 7 then (if 0 ≤ x3 then (if x0 = (shl .i64 1 x3) then (some x3) else (Zp.l0 k x0 (wrap64 (x3 + 1)))) else (none)) else (some (-1))
def Zp.f (k : Nat) (a0 : Int) : Option (Int) := Zp.l0 k a0 0
theorem Zp.mono_l : ∀ k, (∀ y0 y1, LeO (Zp.l0 k y0 y1) (Zp.l0 (k + 1) y0 y1))
 | 0 => fun _ _ r h => by simp [Zp.l0] at h
 | k + 1 => by
  have aA := Zp.mono_l k
  ·intro y0 y1
   unfold Zp.l0
   repeat' first
   | (with_reducible first | exact aA .. | exact LeO.refl _ | exact LeO.none _ | refine LeO.ite ?_ ?_ | refine LeO.bind ?_ (fun _ => ?_))
   | exact aA .. | exact LeO.none _ | refine LeO.ite ?_ ?_ | refine LeO.bind ?_ (fun _ => ?_)
theorem Zp.mono : ∀ a0 k, LeO (Zp.f k a0) (Zp.f (k + 1) a0) := by
 intro a0 k
 have aA := Zp.mono_l k
 unfold Zp.f
 repeat' first
   | (with_reducible first | exact aA .. | exact LeO.refl _ | exact LeO.none _ | refine LeO.ite ?_ ?_ | refine LeO.bind ?_ (fun _ => ?_))
   | exact aA .. | exact LeO.none _ | refine LeO.ite ?_ ?_ | refine LeO.bind ?_ (fun _ => ?_)
set_option maxHeartbeats 8000000 in
set_option maxRecDepth 100000 in
theorem Zp.calls (k : Nat) (a0 : Int) (r : Int) (w : World) (h : Zp.f k a0 = some r) :
  Calls Try.prog 150 #[.int .i64 a0] w fun e w' => e = .returned (.int .i64 r) ∧ Qs w w' := by
 have H := h
 unfold Zp.f at H
 clear h
 have H' := Qa.mk H; clear H
 go_enter Try.func150, Try.ntmps150
 go_wp2
 go_loopg [3] k (fun kq v3 w' => ∃ (aA : Int), v3 = .int .i64 aA ∧ Qa (Zp.l0 kq a0 aA = some r) ∧ Qa (kq ≤ k) ∧ Qs w w')
 case atStart => exact ⟨(0), zF, H', ⟨Nat.le_refl _⟩, by repeat (first | exact Qs.refl _ | apply Qs.step)⟩
 case round =>
 clear H'
 obtain ⟨aA, rfl, HA, aM, ⟨m1, rfl⟩⟩ := hrel
 cases gk with
 | zero => exact absurd HA.out (by simp [Zp.l0])
 | succ k1 =>
 have H := HA.out
 clear HA
 simp only [Zp.l0] at H
 replace H := Z5 H
 rcases H with ⟨aI, H⟩ | ⟨aI, H⟩
 ·replace H := Xw H
  rcases H with ⟨aV, aW, H⟩ | ⟨c3, H⟩
  ·obtain ⟨aH, aC⟩ : ∃ j_ : Int, (shl .i64 1 aA) = j_ := ⟨_, rfl⟩
   first | rw [aC] at H | simp only [aC] at H
   have aD : (IntKind.i64.wrap (1 * 2 ^ min aA.toNat 64)) = aH := aC
   have aG := Yc aC
   have aN : (IntKind.i64.wrap (2 ^ min aA.toNat 64)) = aH := by have h_ := aD; rw [Int.one_mul] at h_; exact h_
   have aQ : aA ≤ 64 → (IntKind.i64.wrap (2 ^ aA.toNat)) = aH := fun hle_ => by have h_ := aG hle_; rw [Int.one_mul] at h_; exact h_
   have aT : (wrap64 (1 * 2 ^ min aA.toNat 64)) = aH := (Zu _).symm.trans aD
   have aU : aA ≤ 64 → (wrap64 (1 * 2 ^ aA.toNat)) = aH := fun h_ => (Zu _).symm.trans (aG h_)
   replace H := Zi H
   rcases H with ⟨aJ, aK, H⟩ | ⟨c5, aJ, aK, H⟩
   ·obtain rfl := Option.some.inj H
    go_wp2
    go_ret
    exact ⟨by first | rfl | (simp; done) | (simp only [← aC] <;> (first | rfl | simp)) | (simp [*]; done), by repeat (first | exact Qs.refl _ | apply Qs.step)⟩
   have H' := Qa.mk H; clear H
   go_wp2
   go_roundg k1
   case measure => have := aM.out; omega
   case rel => exact ⟨(wrap64 (aA + 1)), zF, H', ⟨by have := aM.out; omega⟩, by repeat (first | exact Qs.refl _ | apply Qs.step)⟩
  exact absurd H (by simp)
 obtain rfl := Option.some.inj H
 go_wp2
 go_ret
 exact ⟨by first | rfl | (simp; done) | (simp [*]; done), by repeat (first | exact Qs.refl _ | apply Qs.step)⟩
def Yw.f (k : Nat) (l0 : List Int) (a1 : Int) (a2 : Int) (a3 : Int) (a4 : Int) : Option (Int) := (Ju.f k l0 a1 a2 a3 a4).bind fun aA => ((Zp.f k aA.1).bind fun aC => ((Zp.f k aA.2).bind fun aD => (some (mx aC aD))))
set_option maxHeartbeats 8000000 in
set_option maxRecDepth 100000 in
theorem Yw.calls (k : Nat) (g0 : Nat) (l0 : List Int) (a1 : Int) (a2 : Int) (a3 : Int) (a4 : Int) (r : Int) (w : World) (hr0 : Kd.C (Kd.int .i64) w (some ⟨g0, 0, none⟩) l0.length l0) (hc0 : l0.length = 344) (h : Yw.f k l0 a1 a2 a3 a4 = some r) :
  Calls Try.prog 111 #[.pointer (some ⟨g0, 0, none⟩), .int .i64 a1, .int .i64 a2, .int .i64 a3, .int .i64 a4] w fun e w' => e = .returned (.int .i64 r) ∧ Below w.heap.size w w' := by
 have aM := Qa.mk hr0
 have aN := Qa.mk hc0
 clear hr0 hc0
 have HB := Qa.mk (Below.refl w.heap.size w)
 have H := h
 unfold Yw.f at H
 clear h
 obtain ⟨⟨aG, aH⟩, A6, H⟩ := zO H
 dsimp only at H
 obtain ⟨aC, A7, H⟩ := zO H
 obtain ⟨aD, A8, H⟩ := zO H
 obtain ⟨aQ, aA⟩ : ∃ j_ : Int, (mx aC aD) = j_ := ⟨_, rfl⟩
 first | rw [aA] at H | simp only [aA] at H
 (try rw [aA] at A6)
 (try rw [aA] at A7)
 (try rw [aA] at A8)
 have aK : (if aC < aD then aD else aC) = aQ := aA
 obtain rfl := Option.some.inj H
 go_enter Try.func111, Try.ntmps111
 go_wp2_with (first | ((with_reducible refine Qb (f := 106) rfl ?_); refine zD (some 19) Try.func106 #[.pointer (some ⟨g0, 0, none⟩), .int .i64 a1, .int .i64 a2, .int .i64 a3, .int .i64 a4] ((Ju.calls k _ l0 a1 a2 a3 a4 aG aH _ ?aI ?aJ A6.out).mono ?_); (case aI => exact zc aM.out); (case aJ => exact aN.out); rintro e aT ⟨rfl, hb⟩; refine ⟨_, rfl, ?_⟩; replace HB := zX hb; (try clear hb)) | ((with_reducible refine Qb (f := 150) rfl ?_); refine zD (some 23) Try.func150 _ ((Zp.calls k aG aC _ A7.out).mono ?_); rintro e w' ⟨rfl, ⟨nd, rfl⟩⟩; refine ⟨_, rfl, ?_⟩) | ((with_reducible refine Qb (f := 150) rfl ?_); refine zD (some 25) Try.func150 _ ((Zp.calls k aH aD _ A8.out).mono ?_); rintro e w' ⟨rfl, ⟨nd, rfl⟩⟩; refine ⟨_, rfl, ?_⟩))
 go_ret
 exact ⟨by first | rfl | (simp [Za, J7] <;> rfl) | (simp only [← aA]; first | rfl | (simp [Za, J7] <;> rfl)) | (simp [*, Za, J7] <;> rfl), zB⟩
def Z8.f (k : Nat) (l0 : List Int) (a1 : Int) (a2 : Int) (a3 : Int) (a4 : Int) : Option (Bool) := (Yw.f k l0 a1 a2 a3 a4).bind fun aA => (some (aA == a1))
set_option maxHeartbeats 8000000 in
set_option maxRecDepth 100000 in
theorem Z8.calls (k : Nat) (g0 : Nat) (l0 : List Int) (a1 : Int) (a2 : Int) (a3 : Int) (a4 : Int) (r : Bool) (w : World) (hr0 : Kd.C (Kd.int .i64) w (some ⟨g0, 0, none⟩) l0.length l0) (hc0 : l0.length = 344) (h : Z8.f k l0 a1 a2 a3 a4 = some r) :
  Calls Try.prog 115 #[.pointer (some ⟨g0, 0, none⟩), .int .i64 a1, .int .i64 a2, .int .i64 a3, .int .i64 a4] w fun e w' => e = .returned (.bool r) ∧ Below w.heap.size w w' := by
 have aG := Qa.mk hr0
 have aH := Qa.mk hc0
 clear hr0 hc0
 have HB := Qa.mk (Below.refl w.heap.size w)
 have H := h
 unfold Z8.f at H
 clear h
 obtain ⟨aD, A6, H⟩ := zO H
 obtain rfl := Option.some.inj H
 go_enter Try.func115, Try.ntmps115
 go_wp2_with (first | ((with_reducible refine Qb (f := 111) rfl ?_); refine zD (some 16) Try.func111 #[.pointer (some ⟨g0, 0, none⟩), .int .i64 a1, .int .i64 a2, .int .i64 a3, .int .i64 a4] ((Yw.calls k _ l0 a1 a2 a3 a4 aD _ ?aA ?aC A6.out).mono ?_); (case aA => exact zc aG.out); (case aC => exact aH.out); rintro e w7 ⟨rfl, hb⟩; refine ⟨_, rfl, ?_⟩; replace HB := zX hb; (try clear hb)))
 go_ret
 exact ⟨zE, zB⟩
end Go.Proofs.Ytckkfjdkaimmhaa.PX
