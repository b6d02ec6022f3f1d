/- A part of proofs about signs and points: what some functions answer, and that their calls answer so. No condition. -/
import Derived.Test.YtckkfjdkaimmhaaGreatDoorProg
import Derived.Test.YtckkfjdkaimmhaaGreatDoorV1
import Derived.Test.YtckkfjdkaimmhaaGreatDoorBkoscde1
set_option linter.unusedVariables false
set_option linter.unusedSimpArgs false
namespace Go.Proofs.YtckkfjdkaimmhaaGreatDoor.PX
open Go.RowKit Go.Proofs.YtckkfjdkaimmhaaGreatDoor.G Go.Proofs.YtckkfjdkaimmhaaGreatDoorW.PrintWords Go.Proofs.YtckkfjdkaimmhaaGreatDoorW.PrintLast Go.Proofs.YtckkfjdkaimmhaaGreatDoorW.PrintMore
attribute [local go_sem] max2_int min2_int Yv Yx Xm Xl X9 Yb   -- for this text's walks alone
set_option linter.unusedVariables false
set_option linter.unusedSimpArgs false
def Ya.f (k : Nat) (aG : List Int) (aH : Int) (aI : Int) : Option ((List (S48)) × Int × Int) := (Qi.f k aG aH aI).bind fun aA => ((Q5.f aG aA.2.1 aA.2.2 14).bind fun aC => (if aC.1 = 0 then ((Z8.f aG aC.2.1 aC.2.2 (([50, 51, (-51)] : List Int))).bind fun aD => (if 0 < (aA.1.length : Int) then (some ((aA.1.set (0 : Int).toNat (⟨aD.1, (Qp aA.1 0).f1⟩ : S48)), aD.2.1, aD.2.2)) else (none))) else (if aC.1 = 1 then (if 0 < (aA.1.length : Int) then (if aA.1.length < 8796093022208 then (some ((aA.1 ++ [(⟨(Qp aA.1 0).f0, (Qp aA.1 0).f1⟩ : S48)]), aC.2.1, aC.2.2)) else (none)) else (none)) else (some (aA.1, aC.2.1, aC.2.2)))))
theorem Y9 {p q : Prop} (g : p) (h : p → q := by intro zg_; repeat (first | (with_reducible first | exact zg_ | apply Qc.alloc | apply Qc.drewN | apply Qc.drew | apply Qc.set_1 | apply Qc.set_2) | exact zg_)) : q := h g
theorem jAo {p q p0 : Prop} (g : p) (g0 : p0) (h : p → p0 → q := by intro zg_ aA; repeat (first | (with_reducible first | exact zg_ | apply Qv | apply Qr | apply Qo | refine Qf ?_ aA) | exact zg_)) : q := h g g0
theorem Y8 {p q : Prop} (g : p) (h : p → q := by intro zg_; repeat (first | (with_reducible first | exact zg_ | apply Ql.set_ | apply Z5 | apply Zr | apply Z6) | exact zg_)) : q := h g
set_option maxHeartbeats 8000000 in
set_option maxRecDepth 100000 in
theorem Ya.calls (k : Nat) (g : Nat) (aH : List Int) (aX : Int) (aY : Int) (r1 : List (S48)) (r2 : Int) (r3 : Int) (w0 w : World) (hI : Qc w0 w g aH aX aY) (hB : Below w0.heap.size w0 w) (h : Ya.f k aH aX aY = some (r1, r2, r3)) :
  Calls Tryz.prog 54 #[.pointer (some ⟨g, 0, none⟩)] w fun e w' => ∃ dX : Value, e = .returned (dX) ∧ Kd.R k48 48 w' w.heap.size (fun _ => True) dX r1 ∧ Qc w0 w' g aH r2 r3 ∧ Below w0.heap.size w0 w' ∧ Ql w w' g none := by
 have eP := Tryz.underlying48
 have HI0 := Qa.mk hI
 have HK := Qa.mk (Ql.refl w g none)
 have HL := Qa.mk hB.size
 clear hI
 have HW0 := Qa.mk hB.size
 have HB := Qa.mk hB
 clear hB
 have H := h
 unfold Ya.f at H
 clear h
 obtain ⟨⟨aC, aJ, aK⟩, A2, H⟩ := zO H
 dsimp only at H
 obtain ⟨⟨bM, aU, aV⟩, A3, H⟩ := zO H
 dsimp only at H
 replace H := Zc H
 rcases H with ⟨dH, dI, H⟩ | ⟨c4, dH, dI, H⟩
 ·generalize bC : (([50, 51, (-51)] : List Int) : List Int) = bT at H
  have bD := Qa.mk bC.symm
  clear bC
  obtain ⟨⟨aW, dJ, dK⟩, A5, H⟩ := zO H
  dsimp only at H
  replace H := V3 H
  rcases H with ⟨c6, eQ, H⟩ | ⟨c6, H⟩
  ·have eU : decide (0 < aC.length) = true := decide_eq_true (by omega)
   clear c6
   generalize bE : (aC.set (0 : Int).toNat (⟨aW, (Qp aC 0).f1⟩ : S48) : List (S48)) = dL at H
   have bU := Qa.mk bE.symm
   clear bE
   simp only [Option.some.injEq, Prod.mk.injEq] at H
   obtain ⟨rfl, rfl, rfl⟩ := H
   go_enter Tryz.func54, Tryz.ntmps54
   go_wp2_with (first | ((with_reducible refine Qd (f := 85) rfl ?_); refine zD (some 5) Tryz.func85 _ ((Qi.calls k g aH aX aY aC aJ aK w0 _ ?aD ?aG A2.out).mono ?_); (case aD => exact (Y9 HI0.out)); (case aG => exact (jAo HB.out (Qc.ge HI0.out))); rintro e w8 ⟨bV, rfl, ho0, hi, hb, hk⟩; refine ⟨_, rfl, ?_⟩; have aA := Qa.mk (Kd.R_lower ho0 (Jt (w := w) (g := g) (row := none) (Y8 HK.out))); replace HK := Qa.mk (Ql.trans (Y8 HK.out) hk (.inl rfl)); replace HI0 := Qa.mk (hi); replace HB := Qa.mk (hb); (try clear hb); (try clear hk); (try clear hi); (try clear ho0)) | ((with_reducible refine Qd (f := 51) rfl ?_); refine zD (some 7) Tryz.func51 _ ((Q5.calls g aH aJ aK 14 bM aU aV w0 _ ?aD ?aG A3.out).mono ?_); (case aD => exact (Y9 HI0.out)); (case aG => exact (jAo HB.out (Qc.ge HI0.out))); rintro e w9 ⟨rfl, hi, hb, hk⟩; refine ⟨_, rfl, ?_⟩; replace aA := Qa.mk (Kd.R_mono (Kd.R_keep (Qc.apart (show Qc w0 _ g aH aJ aK from (Y9 HI0.out)) (zR aA.out) (by decide)) hk (fun _ h => h.2)) (fun _ h => h.1)); replace HK := Qa.mk (Ql.trans (Y8 HK.out) hk (.inl rfl)); replace HI0 := Qa.mk (hi); replace HB := Qa.mk (hb); (try clear hb); (try clear hk); (try clear hi)) | ((with_reducible refine Qm (N := 12) rfl ?_); refine Kd.R_lit (Kd.int .i64) _ 3 ?hg (N := 12) ?hd (xs := ([50, 51, (-51)] : List Int)) (inner := [.int .i64 50, .int .i64 51, .int .i64 (-51)]) (ok := fun _ => True) (okp := fun _ => True) ?hr ?hp (fun _ hk => hk) trivial (Below.refl _ _) (Nat.le_refl _) (by simp) ?_; (case hd => rfl); (case hg => rfl); (case hr => first | (go_simp; done) | (go_simp; rfl)); (case hp => exact (Z0.one (show Kd.M (Kd.int .i64) _ _ _ 50 [.int .i64 50] from rfl) (Z0.one (show Kd.M (Kd.int .i64) _ _ _ 51 [.int .i64 51] from rfl) (Z0.one (show Kd.M (Kd.int .i64) _ _ _ (-51) [.int .i64 (-51)] from rfl) (Z0.none _ _))))); intro eX fE aZ hb hg_ hnew_; clear hg_ hnew_; (first | rw [← bD.out] at aZ | (simp only [Int.reduceToNat] at aZ; rw [← bD.out] at aZ)); have bW := zW aA.out hb; have bX := Qa.mk (Kd.R_lower aZ (Jt (w := w) (g := g) (row := none) (Y8 HK.out))); have bY := Qa.mk (Qc.below (Y9 HI0.out) hb); have bZ := Qa.mk (Ql.trans (Y8 HK.out) (Ql.of_below hb g none) (.inl rfl)); have dY := Qa.mk (Qg (zG (Qc.ge HI0.out)) hb); clear aA; clear HI0; clear HK; clear HB; have aA := bW; have aI := bX; have HI0 := bY; have HK := bZ; have HB := dY; clear bW bX bY bZ dY; clear hb aZ; obtain ⟨dM, dN, dO⟩ := Kd.R_slice aI.out; subst dO) | ((with_reducible refine Qd (f := 88) rfl ?_); refine zD (some 13) Tryz.func88 #[.pointer (some ⟨g, 0, none⟩), .slice dM bT.length dN] ((Z8.calls g aH aU aV _ _ bT aW dJ dK w0 _ ?aD ?aG ?cB ?cK ?cO A5.out).mono ?_); (case aD => exact (Y9 HI0.out)); (case aG => exact (jAo HB.out (Qc.ge HI0.out))); (case cB => exact zc ((Kd.R_reads' aI.out).2.2)); (case cK => exact (Kd.R_reads' aI.out).2.1); (case cO => exact K5 (Qc.own_ne HI0.out aI.out (by decide))); rintro e bN ⟨rfl, hi, hb, hk⟩; refine ⟨_, rfl, ?_⟩; replace aA := Qa.mk (Kd.R_mono (Kd.R_keep (Qc.apart (show Qc w0 _ g aH aU aV from (Y9 HI0.out)) (zR aA.out) (by decide)) hk (fun _ h => h.2)) (fun _ h => h.1)); replace aI := Qa.mk (Kd.R_mono (Kd.R_keep (Qc.apart (show Qc w0 _ g aH aU aV from (Y9 HI0.out)) (zR aI.out) (by decide)) hk (fun _ h => h.2)) (fun _ h => h.1)); replace HK := Qa.mk (Ql.trans (Y8 HK.out) hk (.inl rfl)); replace HI0 := Qa.mk (hi); replace HB := Qa.mk (hb); (try clear hb); (try clear hk); (try clear hi); have p7 : 0 ≤ (0 : Int) := (by omega); have q7 : (0 : Int) < ((aC.length : Int) : Int) := zA; have fF : (0 < aC.length) = True := eq_true (by omega); obtain ⟨bB, dP, dZ, eB, eY, fG, eD⟩ := Kd.R_form aA.out (by omega); (first | cases dZ | (injection dZ with ea_ en_ ec_; (first | subst ea_ | (injection ea_ with ea_; subst ea_)); subst ec_; clear en_)); have eZ := Qa.mk eB; have fH := Qa.mk eD; clear eB eY eD; obtain ⟨fI, dQ, eF, bO, bP⟩ := Kd.R_elem aA.out z48 (0 : Int) p7 q7; obtain rfl := jCw eF; have bF : bN.cell? ⟨bB, (0 : Int).toNat * 2, none⟩ = some (.int .i64 ((Qp aC 0).f0)) := bO 0 _ rfl; have bG : bN.cell? ⟨bB, (0 : Int).toNat * 2 + 1, none⟩ = some (.int .i64 ((Qp aC 0).f1)) := bO 1 _ rfl; have bH : bN.frozen? ⟨bB, (0 : Int).toNat * 2, none⟩ = false := bP 0; have bI : bN.frozen? ⟨bB, (0 : Int).toNat * 2 + 1, none⟩ = false := bP 1; clear dQ bO bP eF; (try rw [show ((0 : Int)).toNat = 0 from rfl] at bF); (try simp only [Nat.reduceMul, Nat.zero_mul, Nat.zero_add, Nat.reduceAdd] at bF); (try rw [show ((0 : Int)).toNat = 0 from rfl] at bH); (try simp only [Nat.reduceMul, Nat.zero_mul, Nat.zero_add, Nat.reduceAdd] at bH); (try rw [show ((0 : Int)).toNat = 0 from rfl] at bG); (try simp only [Nat.reduceMul, Nat.zero_mul, Nat.zero_add, Nat.reduceAdd] at bG); (try rw [show ((0 : Int)).toNat = 0 from rfl] at bI); (try simp only [Nat.reduceMul, Nat.zero_mul, Nat.zero_add, Nat.reduceAdd] at bI); replace p7 := eq_true p7; replace q7 := eq_true q7; have cZ := Qa.mk (show Kd.R k48 48 bN w.heap.size (fun _ => True) (.slice (some ⟨bB, 0, none⟩) aC.length dP) aC from (zR aA.out)); obtain ⟨fA, bJ, dA, bA, bK⟩ := Kd.R_elem cZ.out z48 (0 : Int) (by omega) (by have h_ : (0 : Int) < ((aC.length : Int) : Int) := zA; first | exact h_ | (have e_ := (Kd.R_reads' aA.out).1; omega) | simpa using h_); obtain rfl := jCw dA; have bQ := Kd.R_seg cZ.out (0 : Int) (by omega) (by have h_ : (0 : Int) < ((aC.length : Int) : Int) := zA; first | exact h_ | (have e_ := (Kd.R_reads' aA.out).1; omega) | simpa using h_) (seg := [.int .i64 aW]) (j := 0) bJ bA (show 1 ≤ 2 from by decide) (x' := (⟨aW, (Qp aC 0).f1⟩ : S48)) (Vh _ _ _ (⟨aW, (Qp aC 0).f1⟩ : S48) ) (fun _ hk => hk); have aQ := bA 0 _ rfl; (try simp only [show (k48).sz = 2 from rfl, Nat.mul_one, Nat.add_zero] at aQ); (try rw [show ((0 : Int)).toNat = 0 from rfl] at aQ); (try simp only [Nat.reduceMul, Nat.zero_mul, Nat.zero_add, Nat.reduceAdd] at aQ); have aT := bK 0; (try simp only [show (k48).sz = 2 from rfl, Nat.mul_one, Nat.add_zero] at aT); (try rw [show ((0 : Int)).toNat = 0 from rfl] at aT); (try simp only [Nat.reduceMul, Nat.zero_mul, Nat.zero_add, Nat.reduceAdd] at aT); clear bJ bA bK dA) | ((with_reducible refine Vq (t := 3) (p := 15) rfl ?_); refine Ve (t := 3) (p := 15) (v := ?dR) (w1 := (bN.setCell ⟨bB, 0, none⟩ (.int .i64 aW))) ?hg ?ho ?hn ?hr ?_; (case ho => rfl); (case hg => rfl); (case hn => rfl); (case hr => first | (go_simp; done) | (go_simp; rfl)); intro dS hw; have hg : bN.grownBy dS (some bB) := (by rw [hw]; exact bQ.2); have hp_ : Kd.R k48 48 dS w.heap.size (fun _ => True) (.slice (some ⟨bB, 0, none⟩) aC.length dP) dL := (by rw [hw, bU.out]; exact bQ.1); clear bQ; replace HI0 := Qa.mk (Qc.grown (Y9 HI0.out) hg (Qc.own_ne HI0.out aA.out (by decide))); replace aI := Qa.mk (Kd.R_over' (v := (.slice (some ⟨bB, 0, none⟩) aC.length dP)) (zR aI.out) (Kd.R_typed aA.out) (by decide) hg); replace HK := Qa.mk (Ql.trans (Y8 HK.out) (Ql.of_grown hg g) (Kd.R_base2 aA.out)); replace aA := Qa.mk (hp_); replace HB := Qa.mk ((by rw [hw]; exact Qf (HB.out) (Nat.le_trans HL.out eZ.out) : Below w0.heap.size w0 dS)); clear hg hw hp_))
   go_ret
   exact ⟨_, zE, zR aA.out, (Y9 HI0.out), zG (Qc.ge HI0.out), (Y8 HK.out)⟩
  exact absurd H (by simp)
 replace H := Zc H
 rcases H with ⟨dB, dC, H⟩ | ⟨c16, dB, dC, H⟩
 ·replace H := V3 H
  rcases H with ⟨c17, eG, H⟩ | ⟨c17, H⟩
  ·have eH : decide (0 < aC.length) = true := decide_eq_true (by omega)
   clear c17
   replace H := X8 H
   rcases H with ⟨c18, H⟩ | ⟨c18, H⟩
   ·have dD := Qa.mk c18
    clear c18
    generalize bL : (aC ++ [(⟨(Qp aC 0).f0, (Qp aC 0).f1⟩ : S48)] : List (S48)) = fB at H
    have dE := Qa.mk bL.symm
    clear bL
    simp only [Option.some.injEq, Prod.mk.injEq] at H
    obtain ⟨rfl, rfl, rfl⟩ := H
    go_enter Tryz.func54, Tryz.ntmps54
    go_wp2_with (first | ((with_reducible refine Qd (f := 85) rfl ?_); refine zD (some 5) Tryz.func85 _ ((Qi.calls k g aH aX aY aC aJ aK w0 _ ?aD ?aG A2.out).mono ?_); (case aD => exact (Y9 HI0.out)); (case aG => exact (jAo HB.out (Qc.ge HI0.out))); rintro e fJ ⟨bV, rfl, ho0, hi, hb, hk⟩; refine ⟨_, rfl, ?_⟩; have aA := Qa.mk (Kd.R_lower ho0 (Jt (w := w) (g := g) (row := none) (Y8 HK.out))); replace HK := Qa.mk (Ql.trans (Y8 HK.out) hk (.inl rfl)); replace HI0 := Qa.mk (hi); replace HB := Qa.mk (hb); (try clear hb); (try clear hk); (try clear hi); (try clear ho0)) | ((with_reducible refine Qd (f := 51) rfl ?_); refine zD (some 7) Tryz.func51 _ ((Q5.calls g aH aJ aK 14 bM aU aV w0 _ ?aD ?aG A3.out).mono ?_); (case aD => exact (Y9 HI0.out)); (case aG => exact (jAo HB.out (Qc.ge HI0.out))); rintro e fK ⟨rfl, hi, hb, hk⟩; refine ⟨_, rfl, ?_⟩; replace aA := Qa.mk (Kd.R_mono (Kd.R_keep (Qc.apart (show Qc w0 _ g aH aJ aK from (Y9 HI0.out)) (zR aA.out) (by decide)) hk (fun _ h => h.2)) (fun _ h => h.1)); replace HK := Qa.mk (Ql.trans (Y8 HK.out) hk (.inl rfl)); replace HI0 := Qa.mk (hi); replace HB := Qa.mk (hb); (try clear hb); (try clear hk); (try clear hi); obtain ⟨fC, dU, dV⟩ := Kd.R_slice aA.out; subst dV; have bR : 0 ≤ (0 : Int) := (by omega); have bS : 0 < (aC.length : Int) := zA; obtain ⟨dF, dW, aM, aN⟩ := Xz (Kd.R_reads' aA.out).2.2 0 bR bS; cases dW; have eO : (0 < aC.length) = True := eq_true (by omega); (try rw [show ((0 : Int)).toNat = 0 from rfl] at aM); (try rw [show 0 * 2 = 0 from rfl] at aM); (try rw [Addr.add_zero'] at aM); (try rw [show ((0 : Int)).toNat = 0 from rfl] at aN); (try rw [show 0 * 2 = 0 from rfl] at aN); (try rw [Addr.add_zero'] at aN); replace bR := eq_true bR; replace bS := eq_true bS) | ((with_reducible refine Zy (b := .append) (xs := #[.tmp 18, .tmp 22]) rfl ?_); at_builtin; refine Kd.R_append k48 w.heap.size rfl (.tmp 18) (.tmp 22) 28 48 (.agg #[(.int .i64 0), (.int .i64 0)]) 16 rfl Tryz.underlying28 jJu rfl (by decide) (by omega) (.slice (some dF) aC.length dU) aC (⟨(Qp aC 0).f0, (Qp aC 0).f1⟩ : S48) [.int .i64 ((Qp aC 0).f0), .int .i64 ((Qp aC 0).f1)] (fun _ => True) (fun _ => False) rfl rfl ?aP (fun _ hk => hk.elim) ?aF ?aO (Below.refl _ _) ?aS ?aL ?_; (case aP => exact Vh _ _ _ (⟨(Qp aC 0).f0, (Qp aC 0).f1⟩ : S48)); (case aF => exact (fun _ _ => trivial)); (case aO => exact (zR aA.out)); (case aS => exact (Jt (w := w) (g := g) (row := none) (Y8 HK.out))); (case aL => have := dD.out; omega); intro fD fM ho hb hg hat; rw [← dE.out] at ho; have bW := Qa.mk (Qc.grown (Y9 HI0.out) hg (Qc.own_ne HI0.out aA.out (by decide))); have bX := Qa.mk (Vk (zG (Qc.ge HI0.out)) HL.out hb); have bY := Qa.mk (Ql.trans (Y8 HK.out) (Ql.of_grown hg g) (Kd.R_base2 aA.out)); have bZ := Qa.mk (ho); clear HI0; clear HB; clear HK; clear aA; have HI0 := bW; have HB := bX; have HK := bY; have dG := bZ; clear bW bX bY bZ; clear ho hb hg hat))
    go_ret
    exact ⟨_, zE, zR dG.out, (Y9 HI0.out), zG (Qc.ge HI0.out), (Y8 HK.out)⟩
   exact absurd H (by simp)
  exact absurd H (by simp)
 simp only [Option.some.injEq, Prod.mk.injEq] at H
 obtain ⟨rfl, rfl, rfl⟩ := H
 go_enter Tryz.func54, Tryz.ntmps54
 go_wp2_with (first | ((with_reducible refine Qd (f := 85) rfl ?_); refine zD (some 5) Tryz.func85 _ ((Qi.calls k g aH aX aY aC aJ aK w0 _ ?aD ?aG A2.out).mono ?_); (case aD => exact (Y9 HI0.out)); (case aG => exact (jAo HB.out (Qc.ge HI0.out))); rintro e fO ⟨bV, rfl, ho0, hi, hb, hk⟩; refine ⟨_, rfl, ?_⟩; have aA := Qa.mk (Kd.R_lower ho0 (Jt (w := w) (g := g) (row := none) (Y8 HK.out))); replace HK := Qa.mk (Ql.trans (Y8 HK.out) hk (.inl rfl)); replace HI0 := Qa.mk (hi); replace HB := Qa.mk (hb); (try clear hb); (try clear hk); (try clear hi); (try clear ho0)) | ((with_reducible refine Qd (f := 51) rfl ?_); refine zD (some 7) Tryz.func51 _ ((Q5.calls g aH aJ aK 14 bM aU aV w0 _ ?aD ?aG A3.out).mono ?_); (case aD => exact (Y9 HI0.out)); (case aG => exact (jAo HB.out (Qc.ge HI0.out))); rintro e fP ⟨rfl, hi, hb, hk⟩; refine ⟨_, rfl, ?_⟩; replace aA := Qa.mk (Kd.R_mono (Kd.R_keep (Qc.apart (show Qc w0 _ g aH aJ aK from (Y9 HI0.out)) (zR aA.out) (by decide)) hk (fun _ h => h.2)) (fun _ h => h.1)); replace HK := Qa.mk (Ql.trans (Y8 HK.out) hk (.inl rfl)); replace HI0 := Qa.mk (hi); replace HB := Qa.mk (hb); (try clear hb); (try clear hk); (try clear hi)))
 go_ret
 exact ⟨_, zE, zR aA.out, (Y9 HI0.out), zG (Qc.ge HI0.out), (Y8 HK.out)⟩
def Xd.f (k : Nat) (l0 : List Int) : Option ((List (S48))) := (J4.f k l0).bind fun aA => ((Ya.f k aA.1 aA.2.1 aA.2.2).bind fun aC => (some aC.1))
theorem jLm {p q : Prop} (g : p) (h : p → q := by intro zg_; repeat (first | (with_reducible first | exact zg_ | apply Qv | apply Qr | apply Qo) | exact zg_)) : q := h g
theorem jLg {p q : Prop} (g : p) (h : p → q := by intro zg_; repeat (first | (with_reducible first | exact zg_ | apply Qc.alloc | apply Qc.drewN | apply Qc.drew | apply Qc.set_1 | apply Qc.set_2) | exact zg_)) : q := h g
theorem jK6 {p q p0 : Prop} (g : p) (g0 : p0) (h : p → p0 → q := by intro zg_ aA; repeat (first | (with_reducible first | exact zg_ | apply Qv | apply Qr | apply Qo | refine Qf ?_ aA) | exact zg_)) : q := h g g0
set_option maxHeartbeats 8000000 in
set_option maxRecDepth 100000 in
theorem Xd.calls (k : Nat) (A0 : Option Addr) (c0 : Nat) (l0 : List Int) (r : List (S48)) (w : World) (hr0 : Kd.C (Kd.int .u8) w A0 l0.length l0) (hc0 : l0.length ≤ c0) (h : Xd.f k l0 = some r) :
  Calls Tryz.prog 7 #[.slice A0 l0.length c0] w fun e w' => ∃ aU : Value, e = .returned (aU) ∧ Kd.R k48 48 w' w.heap.size (fun _ => True) aU r ∧ Below w.heap.size w w' := by
 have aV := Qa.mk hr0
 have aW := Qa.mk hc0
 clear hr0 hc0
 have HB := Qa.mk (Below.refl w.heap.size w)
 have H := h
 unfold Xd.f at H
 clear h
 obtain ⟨⟨aG, aH, aI⟩, A2, H⟩ := zO H
 dsimp only at H
 obtain ⟨⟨aJ, aN, aQ⟩, A3, H⟩ := zO H
 replace H : (some aJ) = some r := H
 obtain rfl := Option.some.inj H
 go_enter Tryz.func7, Tryz.ntmps7
 go_wp2_with (first | ((with_reducible refine Qd (f := 49) rfl ?_); refine zD (some 4) Tryz.func49 #[.slice A0 l0.length c0] ((J4.calls k _ _ l0 aG aH aI w _ ?aC ?aD ?aK A2.out).mono ?_); (case aC => exact (jLm HB.out)); (case aD => exact aV.out); (case aK => exact aW.out); rintro e w4 ⟨aT, rfl, hi, hb, hb2⟩; refine ⟨_, rfl, ?_⟩; have aA := Qa.mk (hi); replace HB := Qa.mk (hb); (try clear hb); (try clear hb2); (try clear hi)) | ((with_reducible refine Qd (f := 54) rfl ?_); refine zD (some 5) Tryz.func54 _ ((Ya.calls k aT aG aH aI aJ aN aQ w _ ?aC ?aD A3.out).mono ?_); (case aC => exact (jLg aA.out)); (case aD => exact (jK6 HB.out (Qc.ge aA.out))); rintro e w5 ⟨aX, rfl, ho0, hi, hb, hk⟩; refine ⟨_, rfl, ?_⟩; have aM := Qa.mk (Kd.R_lower ho0 (Q6 (zG (Qc.ge aA.out)))); replace aA := Qa.mk (hi); replace HB := Qa.mk (hb); (try clear hb); (try clear hk); (try clear hi); (try clear ho0)))
 go_ret
 exact ⟨_, zE, zR aM.out, zG (Qc.ge aA.out)⟩
def cmp_isNaN_int.f (a0 : Int) : Option (Bool) := some (a0 != a0)
set_option maxHeartbeats 8000000 in
set_option maxRecDepth 100000 in
theorem cmp_isNaN_int.calls (a0 : Int) (r : Bool) (w : World) (h : cmp_isNaN_int.f a0 = some r) :
  Calls Tryz.prog 114 #[.int .i64 a0] w fun e w' => e = .returned (.bool r) ∧ Jj w w' := by
 have H := h
 unfold cmp_isNaN_int.f at H
 clear h
 obtain rfl := Option.some.inj H
 go_enter Tryz.func114, Tryz.ntmps114
 go_wp2
 go_ret
 exact ⟨by first | rfl | (simp; done) | (simp [*]; done), by repeat (first | exact Jj.refl _ | apply Jj.step)⟩
def cmp_Compare_int.f (a0 : Int) (a1 : Int) : Option (Int) := (cmp_isNaN_int.f a0).bind fun aC => ((cmp_isNaN_int.f a1).bind fun aA => (if aC = true then (if aA = true then (some 0) else (some (-1))) else (if aA = true then (some 1) else (if a0 < a1 then (some (-1)) else (if a0 > a1 then (some 1) else (some 0))))))
set_option maxHeartbeats 8000000 in
set_option maxRecDepth 100000 in
theorem cmp_Compare_int.calls (a0 : Int) (a1 : Int) (r : Int) (w : World) (h : cmp_Compare_int.f a0 a1 = some r) :
  Calls Tryz.prog 95 #[.int .i64 a0, .int .i64 a1] w fun e w' => e = .returned (.int .i64 r) ∧ Jj w w' := by
 have H := h
 unfold cmp_Compare_int.f at H
 clear h
 obtain ⟨aC, A3, H⟩ := zO H
 obtain ⟨aA, A4, H⟩ := zO H
 by_cases c5 : aC = true
 ·subst c5
  replace H := (if_pos rfl).symm.trans H
  by_cases c6 : aA = true
  ·subst c6
   replace H := (if_pos rfl).symm.trans H
   obtain rfl := Option.some.inj H
   go_enter Tryz.func95, Tryz.ntmps95
   go_wp2_with (first | ((with_reducible refine Qd (f := 114) rfl ?_); refine zD (some 8) Tryz.func114 _ ((cmp_isNaN_int.calls a0 true _ A3.out).mono ?_); rintro e w' ⟨rfl, ⟨nd, rfl⟩⟩; refine ⟨_, rfl, ?_⟩) | ((with_reducible refine Qd (f := 114) rfl ?_); refine zD (some 10) Tryz.func114 _ ((cmp_isNaN_int.calls a1 true _ A4.out).mono ?_); rintro e w' ⟨rfl, ⟨nd, rfl⟩⟩; refine ⟨_, rfl, ?_⟩))
   go_ret
   exact ⟨by first | rfl | (simp; done) | (simp [*]; done), by repeat (first | exact Jj.refl _ | apply Jj.step)⟩
  replace c6 := Bool.eq_false_iff.mpr c6
  subst c6
  replace H := (if_neg zFf).symm.trans H
  obtain rfl := Option.some.inj H
  go_enter Tryz.func95, Tryz.ntmps95
  go_wp2_with (first | ((with_reducible refine Qd (f := 114) rfl ?_); refine zD (some 8) Tryz.func114 _ ((cmp_isNaN_int.calls a0 true _ A3.out).mono ?_); rintro e w' ⟨rfl, ⟨nd, rfl⟩⟩; refine ⟨_, rfl, ?_⟩) | ((with_reducible refine Qd (f := 114) rfl ?_); refine zD (some 10) Tryz.func114 _ ((cmp_isNaN_int.calls a1 false _ A4.out).mono ?_); rintro e w' ⟨rfl, ⟨nd, rfl⟩⟩; refine ⟨_, rfl, ?_⟩))
  go_ret
  exact ⟨by first | rfl | (simp; done) | (simp [*]; done), by repeat (first | exact Jj.refl _ | apply Jj.step)⟩
 replace c5 := Bool.eq_false_iff.mpr c5
 subst c5
 replace H := (if_neg zFf).symm.trans H
 by_cases c7 : aA = true
 ·subst c7
  replace H := (if_pos rfl).symm.trans H
  obtain rfl := Option.some.inj H
  go_enter Tryz.func95, Tryz.ntmps95
  go_wp2_with (first | ((with_reducible refine Qd (f := 114) rfl ?_); refine zD (some 8) Tryz.func114 _ ((cmp_isNaN_int.calls a0 false _ A3.out).mono ?_); rintro e w' ⟨rfl, ⟨nd, rfl⟩⟩; refine ⟨_, rfl, ?_⟩) | ((with_reducible refine Qd (f := 114) rfl ?_); refine zD (some 10) Tryz.func114 _ ((cmp_isNaN_int.calls a1 true _ A4.out).mono ?_); rintro e w' ⟨rfl, ⟨nd, rfl⟩⟩; refine ⟨_, rfl, ?_⟩))
  go_ret
  exact ⟨by first | rfl | (simp; done) | (simp [*]; done), by repeat (first | exact Jj.refl _ | apply Jj.step)⟩
 replace c7 := Bool.eq_false_iff.mpr c7
 subst c7
 replace H := (if_neg zFf).symm.trans H
 replace H := Xr H
 rcases H with ⟨aD, H⟩ | ⟨aD, H⟩
 ·obtain rfl := Option.some.inj H
  go_enter Tryz.func95, Tryz.ntmps95
  go_wp2_with (first | ((with_reducible refine Qd (f := 114) rfl ?_); refine zD (some 8) Tryz.func114 _ ((cmp_isNaN_int.calls a0 false _ A3.out).mono ?_); rintro e w' ⟨rfl, ⟨nd, rfl⟩⟩; refine ⟨_, rfl, ?_⟩) | ((with_reducible refine Qd (f := 114) rfl ?_); refine zD (some 10) Tryz.func114 _ ((cmp_isNaN_int.calls a1 false _ A4.out).mono ?_); rintro e w' ⟨rfl, ⟨nd, rfl⟩⟩; refine ⟨_, rfl, ?_⟩))
  go_ret
  exact ⟨by first | rfl | (simp; done) | (simp [*]; done), by repeat (first | exact Jj.refl _ | apply Jj.step)⟩
 replace H := X8 H
 rcases H with ⟨c9, H⟩ | ⟨c9, H⟩
 ·have aG : decide (a1 < a0) = true := decide_eq_true c9
  clear c9
  obtain rfl := Option.some.inj H
  go_enter Tryz.func95, Tryz.ntmps95
  go_wp2_with (first | ((with_reducible refine Qd (f := 114) rfl ?_); refine zD (some 8) Tryz.func114 _ ((cmp_isNaN_int.calls a0 false _ A3.out).mono ?_); rintro e w' ⟨rfl, ⟨nd, rfl⟩⟩; refine ⟨_, rfl, ?_⟩) | ((with_reducible refine Qd (f := 114) rfl ?_); refine zD (some 10) Tryz.func114 _ ((cmp_isNaN_int.calls a1 false _ A4.out).mono ?_); rintro e w' ⟨rfl, ⟨nd, rfl⟩⟩; refine ⟨_, rfl, ?_⟩))
  go_ret
  exact ⟨by first | rfl | (simp; done) | (simp [*]; done), by repeat (first | exact Jj.refl _ | apply Jj.step)⟩
 have aG : decide (a1 < a0) = false := decide_eq_false c9
 clear c9
 obtain rfl := Option.some.inj H
 go_enter Tryz.func95, Tryz.ntmps95
 go_wp2_with (first | ((with_reducible refine Qd (f := 114) rfl ?_); refine zD (some 8) Tryz.func114 _ ((cmp_isNaN_int.calls a0 false _ A3.out).mono ?_); rintro e w' ⟨rfl, ⟨nd, rfl⟩⟩; refine ⟨_, rfl, ?_⟩) | ((with_reducible refine Qd (f := 114) rfl ?_); refine zD (some 10) Tryz.func114 _ ((cmp_isNaN_int.calls a1 false _ A4.out).mono ?_); rintro e w' ⟨rfl, ⟨nd, rfl⟩⟩; refine ⟨_, rfl, ?_⟩))
 go_ret
 exact ⟨by first | rfl | (simp; done) | (simp [*]; done), by repeat (first | exact Jj.refl _ | apply Jj.step)⟩
def Yw.f (a0 : Int) : Option (Int) := (cmp_Compare_int.f a0 0).bind fun aA => (some aA)
set_option maxHeartbeats 8000000 in
set_option maxRecDepth 100000 in
theorem Yw.calls (a0 : Int) (r : Int) (w : World) (h : Yw.f a0 = some r) :
  Calls Tryz.prog 82 #[.int .i64 a0] w fun e w' => e = .returned (.int .i64 r) ∧ Jj w w' := by
 have H := h
 unfold Yw.f at H
 clear h
 obtain ⟨aA, A2, H⟩ := zO H
 obtain rfl := Option.some.inj H
 go_enter Tryz.func82, Tryz.ntmps82
 go_wp2_with (first | ((with_reducible refine Qd (f := 95) rfl ?_); refine zD (some 4) Tryz.func95 _ ((cmp_Compare_int.calls a0 0 aA _ A2.out).mono ?_); rintro e w' ⟨rfl, ⟨nd, rfl⟩⟩; refine ⟨_, rfl, ?_⟩))
 go_ret
 exact ⟨by first | rfl | (simp; done) | (simp [*]; done), by repeat (first | exact Jj.refl _ | apply Jj.step)⟩
def Y7.f (aA : Int) (aC : Int) (aD : Int) (aG : Int) (aH : Int) (aI : Int) : Option (Int) := some (wrap64 ((wrap64 ((wrap64 (aD - aA)) * (wrap64 (aI - aC)))) - (wrap64 ((wrap64 (aG - aC)) * (wrap64 (aH - aA))))))
set_option maxHeartbeats 8000000 in
set_option maxRecDepth 100000 in
theorem Y7.calls (aQ : Int) (aT : Int) (aU : Int) (aV : Int) (aW : Int) (aX : Int) (r : Int) (w : World) (h : Y7.f aQ aT aU aV aW aX = some r) :
  Calls Tryz.prog 83 #[.agg #[.int .i64 aQ, .int .i64 aT], .agg #[.int .i64 aU, .int .i64 aV], .agg #[.int .i64 aW, .int .i64 aX]] w fun e w' => e = .returned (.int .i64 r) ∧ Below w.heap.size w w' := by
 have bU := Tryz.underlying48
 have HB := Qa.mk (Below.refl w.heap.size w)
 have H := h
 unfold Y7.f at H
 clear h
 obtain rfl := Option.some.inj H
 go_enter Tryz.func83, Tryz.ntmps83
 go_wp2_with (first | ((with_reducible refine Qm (N := 3) rfl ?_); refine zBx (N := 3) #[.int .i64 aQ, .int .i64 aT] 48 ?_; intro bM hg w4 hbox hb; have aA := Qa.mk (hbox); have bN := zS hg; have aC := zS hg; replace HB := zX hb; clear hb hbox hg) | ((with_reducible refine Qm (N := 4) rfl ?_); refine zBx (N := 4) #[.int .i64 aU, .int .i64 aV] 48 ?_; intro bO hg w5 hbox hb; have aD := Qa.mk (hbox); have bP := zSg hg (zG aC.out); have aG := zSg hg (zG aC.out); have aH := zL hg aA.out; have aI := zLg hg aA.out; replace aA := zV aA.out hb; replace HB := zX1 aC.out hb; clear hb hbox hg) | ((with_reducible refine Qm (N := 5) rfl ?_); refine zBx (N := 5) #[.int .i64 aW, .int .i64 aX] 48 ?_; intro bQ hg w6 hbox hb; have aY := Qa.mk (hbox); have bR := zSg hg (zG2 aC.out aG.out); have aZ := zSg hg (zG2 aC.out aG.out); have aJ := zL hg aA.out; have aK := zLg hg aA.out; replace aA := zV aA.out hb; have aM := zL hg aD.out; have aN := zLg hg aD.out; replace aD := zV aD.out hb; replace HB := Qa.mk (Qg (zG2 aC.out aG.out) hb); clear hb hbox hg; have bV := aI.out; have bW := aH.out; have bX := aM.out; have bY := aN.out; obtain ⟨bI, bJ, bK, bL⟩ := zq2 aD.out; have bS := aJ.out; have bT := aK.out; obtain ⟨bA, bB, bC, bD⟩ := zq2 aA.out; obtain ⟨bE, bF, bG, bH⟩ := zq2 aY.out))
 go_ret
 exact ⟨zE, zG3 aC.out aG.out aZ.out⟩
def Xa.f (aA : Int) (aC : Int) (aD : Int) (aG : Int) (aH : Int) (aI : Int) : Option (Int) := (Xi.f 1000 (([(⟨aA, aC⟩ : S48), (⟨aD, aG⟩ : S48), (⟨aH, aI⟩ : S48)] : List (S48)))).bind fun aJ => (if aJ = true then ((Y7.f aA aC aD aG aH aI).bind fun aK => ((Yw.f aK).bind fun aM => (some aM))) else (some 0))
set_option maxHeartbeats 8000000 in
set_option maxRecDepth 100000 in
theorem Xa.calls (aJ : Int) (aK : Int) (aM : Int) (aN : Int) (aQ : Int) (aT : Int) (r : Int) (w : World) (h : Xa.f aJ aK aM aN aQ aT = some r) :
  Calls Tryz.prog 28 #[.agg #[.int .i64 aJ, .int .i64 aK], .agg #[.int .i64 aM, .int .i64 aN], .agg #[.int .i64 aQ, .int .i64 aT]] w fun e w' => e = .returned (.int .i64 r) ∧ Below w.heap.size w w' := by
 have fF := Tryz.underlying48
 have HB := Qa.mk (Below.refl w.heap.size w)
 have H := h
 unfold Xa.f at H
 clear h
 generalize bK : (([(⟨aJ, aK⟩ : S48), (⟨aM, aN⟩ : S48), (⟨aQ, aT⟩ : S48)] : List (S48)) : List (S48)) = bJ at H
 have bB := Qa.mk bK.symm
 clear bK
 obtain ⟨dW, A4, H⟩ := zO H
 by_cases c5 : dW = true
 ·subst c5
  replace H := (if_pos rfl).symm.trans H
  obtain ⟨bL, A6, H⟩ := zO H
  obtain ⟨dX, A7, H⟩ := zO H
  obtain rfl := Option.some.inj H
  go_enter Tryz.func28, Tryz.ntmps28
  go_wp2_with (first | ((with_reducible refine Qm (N := 3) rfl ?_); refine zBx (N := 3) #[.int .i64 aJ, .int .i64 aK] 48 ?_; intro bC hg w8 hbox hb; have aA := Qa.mk (hbox); have bM := zS hg; have aD := zS hg; replace HB := zX hb; clear hb hbox hg) | ((with_reducible refine Qm (N := 4) rfl ?_); refine zBx (N := 4) #[.int .i64 aM, .int .i64 aN] 48 ?_; intro bD hg w9 hbox hb; have aC := Qa.mk (hbox); have bN := zSg hg (zG aD.out); have aG := zSg hg (zG aD.out); have aV := zL hg aA.out; have aW := zLg hg aA.out; replace aA := zV aA.out hb; replace HB := zX1 aD.out hb; clear hb hbox hg) | ((with_reducible refine Qm (N := 5) rfl ?_); refine zBx (N := 5) #[.int .i64 aQ, .int .i64 aT] 48 ?_; intro bE hg fG hbox hb; have aH := Qa.mk (hbox); have bO := zSg hg (zG2 aD.out aG.out); have aU := zSg hg (zG2 aD.out aG.out); have aX := zL hg aA.out; have aY := zLg hg aA.out; replace aA := zV aA.out hb; have aZ := zL hg aC.out; have bA := zLg hg aC.out; replace aC := zV aC.out hb; replace HB := Qa.mk (Qg (zG2 aD.out aG.out) hb); clear hb hbox hg; have eO := aV.out; have eP := aW.out; have eQ := aX.out; have eU := aY.out; obtain ⟨bP, bQ, bR, bS⟩ := zq2 aA.out; have eX := aZ.out; have eY := bA.out; obtain ⟨bT, bU, bV, bW⟩ := zq2 aC.out; obtain ⟨bX, bY, bZ, cB⟩ := zq2 aH.out) | ((with_reducible refine Qm (N := 10) rfl ?_); refine Kd.R_lit k48 _ 48 ?hg (N := 10) ?hd (xs := ([(⟨aJ, aK⟩ : S48), (⟨aM, aN⟩ : S48), (⟨aQ, aT⟩ : S48)] : List (S48))) (inner := [.int .i64 aJ, .int .i64 aK, .int .i64 aM, .int .i64 aN, .int .i64 aQ, .int .i64 aT]) (ok := fun _ => True) (okp := fun _ => True) ?hr ?hp (fun _ hk => hk) trivial (Below.refl _ _) (Nat.le_refl _) (by simp) ?_; (case hd => rfl); (case hg => rfl); (case hr => first | (go_simp; done) | (go_simp; rfl)); (case hp => exact (Z0.c2 (show Kd.M k48 _ _ _ (⟨aJ, aK⟩ : S48) [.int .i64 aJ, .int .i64 aK] from (Vh _ _ _ (⟨aJ, aK⟩ : S48) )) (Z0.c2 (show Kd.M k48 _ _ _ (⟨aM, aN⟩ : S48) [.int .i64 aM, .int .i64 aN] from (Vh _ _ _ (⟨aM, aN⟩ : S48) )) (Z0.c2 (show Kd.M k48 _ _ _ (⟨aQ, aT⟩ : S48) [.int .i64 aQ, .int .i64 aT] from (Vh _ _ _ (⟨aQ, aT⟩ : S48) )) (Z0.none _ _))))); intro dY fH bF hb hg_ hnew_; clear hg_ hnew_; (first | rw [← bB.out] at bF | (simp only [Int.reduceToNat] at bF; rw [← bB.out] at bF)); have aI := Qa.mk (Kd.R_lower (Kd.R_newB (Kd.R_newB (Kd.R_newB bF (g := bC) (o := .cells #[.int .i64 aJ, .int .i64 aK] 48 (0, 0)) (zK aA.out)) (g := bD) (o := .cells #[.int .i64 aM, .int .i64 aN] 48 (0, 0)) (zK aC.out)) (g := bE) (o := .cells #[.int .i64 aQ, .int .i64 aT] 48 (0, 0)) (zK aH.out)) (Q6 (zG3 aD.out aG.out aU.out))); replace aA := zV aA.out hb; replace aC := zV aC.out hb; replace aH := zV aH.out hb; replace HB := Qa.mk (Qg (zG3 aD.out aG.out aU.out) hb); clear hb bF; obtain ⟨dZ, eB, eD⟩ := Kd.R_slice aI.out; subst eD) | ((with_reducible refine Qd (f := 81) rfl ?_); refine zD (some 11) Tryz.func81 #[.int .i64 1000, .slice dZ bJ.length eB] ((Xi.calls 1000 _ _ bJ true _ ?bG ?bH A4.out).mono ?_); (case bG => exact zc ((Kd.R_reads' aI.out).2.2)); (case bH => exact (Kd.R_reads' aI.out).2.1); rintro e fI ⟨rfl, hb⟩; refine ⟨_, rfl, ?_⟩; replace aI := zW aI.out hb; replace aA := zV aA.out hb; replace aC := zV aC.out hb; replace aH := zV aH.out hb; replace HB := Qa.mk (Qg (zG3 aD.out aG.out aU.out) hb); (try clear hb); obtain ⟨cK, cO, cZ, dA⟩ := zq2 aA.out; obtain ⟨dB, dC, dD, dE⟩ := zq2 aC.out; obtain ⟨dF, dG, dH, dI⟩ := zq2 aH.out) | ((with_reducible refine Qd (f := 83) rfl ?_); refine zD (some 16) Tryz.func83 _ ((Y7.calls aJ aK aM aN aQ aT bL _ A6.out).mono ?_); rintro e fJ ⟨rfl, hb⟩; refine ⟨_, rfl, ?_⟩; replace aI := zW aI.out hb; replace aA := zV aA.out hb; replace aC := zV aC.out hb; replace aH := zV aH.out hb; replace HB := Qa.mk (Qg (zG3 aD.out aG.out aU.out) hb); (try clear hb)) | ((with_reducible refine Qd (f := 82) rfl ?_); refine zD (some 17) Tryz.func82 _ ((Yw.calls bL dX _ A7.out).mono ?_); rintro e w' ⟨rfl, ⟨nd, rfl⟩⟩; refine ⟨_, rfl, ?_⟩))
  go_ret
  exact ⟨zE, zG3 aD.out aG.out aU.out⟩
 replace c5 := Bool.eq_false_iff.mpr c5
 subst c5
 replace H := (if_neg zFf).symm.trans H
 obtain rfl := Option.some.inj H
 go_enter Tryz.func28, Tryz.ntmps28
 go_wp2_with (first | ((with_reducible refine Qm (N := 3) rfl ?_); refine zBx (N := 3) #[.int .i64 aJ, .int .i64 aK] 48 ?_; intro bC hg fK hbox hb; have aA := Qa.mk (hbox); have bM := zS hg; have aD := zS hg; replace HB := zX hb; clear hb hbox hg) | ((with_reducible refine Qm (N := 4) rfl ?_); refine zBx (N := 4) #[.int .i64 aM, .int .i64 aN] 48 ?_; intro bD hg fM hbox hb; have aC := Qa.mk (hbox); have bN := zSg hg (zG aD.out); have aG := zSg hg (zG aD.out); have aV := zL hg aA.out; have aW := zLg hg aA.out; replace aA := zV aA.out hb; replace HB := zX1 aD.out hb; clear hb hbox hg) | ((with_reducible refine Qm (N := 5) rfl ?_); refine zBx (N := 5) #[.int .i64 aQ, .int .i64 aT] 48 ?_; intro bE hg fO hbox hb; have aH := Qa.mk (hbox); have bO := zSg hg (zG2 aD.out aG.out); have aU := zSg hg (zG2 aD.out aG.out); have aX := zL hg aA.out; have aY := zLg hg aA.out; replace aA := zV aA.out hb; have aZ := zL hg aC.out; have bA := zLg hg aC.out; replace aC := zV aC.out hb; replace HB := Qa.mk (Qg (zG2 aD.out aG.out) hb); clear hb hbox hg; have eZ := aV.out; have fA := aW.out; have fB := aX.out; have fC := aY.out; obtain ⟨dJ, dK, dL, dM⟩ := zq2 aA.out; have fD := aZ.out; have fE := bA.out; obtain ⟨dN, dO, dP, dQ⟩ := zq2 aC.out; obtain ⟨dR, dS, dU, dV⟩ := zq2 aH.out) | ((with_reducible refine Qm (N := 10) rfl ?_); refine Kd.R_lit k48 _ 48 ?hg (N := 10) ?hd (xs := ([(⟨aJ, aK⟩ : S48), (⟨aM, aN⟩ : S48), (⟨aQ, aT⟩ : S48)] : List (S48))) (inner := [.int .i64 aJ, .int .i64 aK, .int .i64 aM, .int .i64 aN, .int .i64 aQ, .int .i64 aT]) (ok := fun _ => True) (okp := fun _ => True) ?hr ?hp (fun _ hk => hk) trivial (Below.refl _ _) (Nat.le_refl _) (by simp) ?_; (case hd => rfl); (case hg => rfl); (case hr => first | (go_simp; done) | (go_simp; rfl)); (case hp => exact (Z0.c2 (show Kd.M k48 _ _ _ (⟨aJ, aK⟩ : S48) [.int .i64 aJ, .int .i64 aK] from (Vh _ _ _ (⟨aJ, aK⟩ : S48) )) (Z0.c2 (show Kd.M k48 _ _ _ (⟨aM, aN⟩ : S48) [.int .i64 aM, .int .i64 aN] from (Vh _ _ _ (⟨aM, aN⟩ : S48) )) (Z0.c2 (show Kd.M k48 _ _ _ (⟨aQ, aT⟩ : S48) [.int .i64 aQ, .int .i64 aT] from (Vh _ _ _ (⟨aQ, aT⟩ : S48) )) (Z0.none _ _))))); intro dY fP bI hb hg_ hnew_; clear hg_ hnew_; (first | rw [← bB.out] at bI | (simp only [Int.reduceToNat] at bI; rw [← bB.out] at bI)); have aI := Qa.mk (Kd.R_lower (Kd.R_newB (Kd.R_newB (Kd.R_newB bI (g := bC) (o := .cells #[.int .i64 aJ, .int .i64 aK] 48 (0, 0)) (zK aA.out)) (g := bD) (o := .cells #[.int .i64 aM, .int .i64 aN] 48 (0, 0)) (zK aC.out)) (g := bE) (o := .cells #[.int .i64 aQ, .int .i64 aT] 48 (0, 0)) (zK aH.out)) (Q6 (zG3 aD.out aG.out aU.out))); replace aA := zV aA.out hb; replace aC := zV aC.out hb; replace aH := zV aH.out hb; replace HB := Qa.mk (Qg (zG3 aD.out aG.out aU.out) hb); clear hb bI; obtain ⟨eF, eG, eH⟩ := Kd.R_slice aI.out; subst eH) | ((with_reducible refine Qd (f := 81) rfl ?_); refine zD (some 11) Tryz.func81 #[.int .i64 1000, .slice eF bJ.length eG] ((Xi.calls 1000 _ _ bJ false _ ?bG ?bH A4.out).mono ?_); (case bG => exact zc ((Kd.R_reads' aI.out).2.2)); (case bH => exact (Kd.R_reads' aI.out).2.1); rintro e fQ ⟨rfl, hb⟩; refine ⟨_, rfl, ?_⟩; replace aI := zW aI.out hb; replace aA := zV aA.out hb; replace aC := zV aC.out hb; replace aH := zV aH.out hb; replace HB := Qa.mk (Qg (zG3 aD.out aG.out aU.out) hb); (try clear hb)))
 go_ret
 exact ⟨zE, zG3 aD.out aG.out aU.out⟩
def Kg.f (l0 : List Int) : Option (Bool) := some (decide ((l0.length : Int) > 1048576))
set_option maxHeartbeats 8000000 in
set_option maxRecDepth 100000 in
theorem Kg.calls (A0 : Option Addr) (c0 : Nat) (l0 : List Int) (r : Bool) (w : World) (hr0 : Kd.C (Kd.int .u8) w A0 l0.length l0) (hc0 : l0.length ≤ c0) (h : Kg.f l0 = some r) :
  Calls Tryz.prog 5 #[.slice A0 l0.length c0] w fun e w' => e = .returned (.bool r) ∧ Jj w w' := by
 have aA := Qa.mk hr0
 have aC := Qa.mk hc0
 clear hr0 hc0
 have H := h
 unfold Kg.f at H
 clear h
 obtain rfl := Option.some.inj H
 go_enter Tryz.func5, Tryz.ntmps5
 go_wp2
 go_ret
 exact ⟨by first | rfl | (simp; done) | (simp [*]; done), by repeat (first | exact Jj.refl _ | apply Jj.step)⟩
mutual
def Qn.l0 : Nat → Int → List (S77) → Int → Option ((List (S77)))
 | 0, _, _, _ => none
 | k + 1, x0, x3, x4 => if x4 < x0 then (Qn.l1 k x0 x3 x4 (wrap64 (x4 + 1))) else (some x3)
def Qn.l1 : Nat → Int → List (S77) → Int → Int → Option ((List (S77)))
 | 0, _, _, _, _ => none
 | k + 1, x0, x3, x4, x5 => if x5 < x0 then (Qn.l2 k x0 x3 x4 x5 (wrap64 (x5 + 1))) else (Qn.l0 k x0 x3 (wrap64 (x4 + 1)))
def Qn.l2 : Nat → Int → List (S77) → Int → Int → Int → Option ((List (S77)))
 | 0, _, _, _, _, _ => none
 | k + 1, x0, x3, x4, x5, x6 => if x6 < x0 then (if x3.length < 5864062014805 then (Qn.l2 k x0 (x3 ++ [(⟨x4, x5, x6⟩ : S77)]) x4 x5 (wrap64 (x6 + 1))) else (none)) else (Qn.l1 k x0 x3 x4 (wrap64 (x5 + 1)))
end
def Qn.f (k : Nat) (a0 : Int) : Option ((List (S77))) := Qn.l0 k a0 ([] : List (S77)) 0
theorem Qn.mono_l : ∀ k, (∀ y0 y1 y2, LeO (Qn.l0 k y0 y1 y2) (Qn.l0 (k + 1) y0 y1 y2)) ∧ (∀ y0 y1 y2 y3, LeO (Qn.l1 k y0 y1 y2 y3) (Qn.l1 (k + 1) y0 y1 y2 y3)) ∧ (∀ y0 y1 y2 y3 y4, LeO (Qn.l2 k y0 y1 y2 y3 y4) (Qn.l2 (k + 1) y0 y1 y2 y3 y4))
 | 0 => ⟨fun _ _ _ r h => by simp [Qn.l0] at h, fun _ _ _ _ r h => by simp [Qn.l1] at h, fun _ _ _ _ _ r h => by simp [Qn.l2] at h⟩
 | k + 1 => by
  obtain ⟨aA, ih1, ih2⟩ := Qn.mono_l k
  refine ⟨?_, ?_, ?_⟩ <;> intros <;> (first | unfold Qn.l0 | unfold Qn.l1 | unfold Qn.l2) <;> repeat' first
  | (with_reducible first | exact aA .. | exact ih1 .. | exact ih2 .. | exact LeO.refl _ | exact LeO.none _ | refine LeO.ite ?_ ?_ | refine LeO.bind ?_ (fun _ => ?_))
  | exact aA .. | exact ih1 .. | exact ih2 .. | exact LeO.none _ | refine LeO.ite ?_ ?_ | refine LeO.bind ?_ (fun _ => ?_)
theorem Qn.mono : ∀ a0 k, LeO (Qn.f k a0) (Qn.f (k + 1) a0) := by
 intro a0 k
 obtain ⟨aA, ih1, ih2⟩ := Qn.mono_l k
 unfold Qn.f
 repeat' first
   | (with_reducible first | exact aA .. | exact ih1 .. | exact ih2 .. | exact LeO.refl _ | exact LeO.none _ | refine LeO.ite ?_ ?_ | refine LeO.bind ?_ (fun _ => ?_))
   | exact aA .. | exact ih1 .. | exact ih2 .. | exact LeO.none _ | refine LeO.ite ?_ ?_ | refine LeO.bind ?_ (fun _ => ?_)
set_option maxHeartbeats 8000000 in
set_option maxRecDepth 100000 in
theorem Qn.calls (k : Nat) (a0 : Int) (r : List (S77)) (w : World) (h : Qn.f k a0 = some r) :
  Calls Tryz.prog 55 #[.int .i64 a0] w fun e w' => ∃ bA : Value, e = .returned (bA) ∧ Kd.R k77 77 w' w.heap.size (fun _ => True) bA r ∧ Below w.heap.size w w' := by
 have bB := Tryz.underlying77
 have HB := Qa.mk (Below.refl w.heap.size w)
 have H := h
 unfold Qn.f at H
 clear h
 have H' := Qa.mk H; clear H
 go_enter Tryz.func55, Tryz.ntmps55
 go_wp2
 go_loopg [3, 4] k (fun kq v3 v4 w' => ∃ (aJ : List (S77)) (aA : Int), v4 = .int .i64 aA ∧ Qa (Qn.l0 kq a0 aJ aA = some r) ∧ Qa (kq ≤ k) ∧ Qa (Kd.R k77 77 w' w.heap.size (fun _ => True) v3 aJ) ∧ Qa (Below w.heap.size w w'))
 case atStart => exact ⟨(([] : List (S77))), (0), zF, H', ⟨Nat.le_refl _⟩, ⟨by first | exact Kd.R_nil _ _ _ _ _ | exact Kd.N_nil _ _ _ _ _ | exact Kd.V_nil _ _ _ _ _ | exact Kd.Q_nil _ _ _ _ _ | exact Kd.S_nil _ _ _ _ _⟩, ⟨zB⟩⟩
 case round =>
 clear H'
 obtain ⟨aJ, aA, rfl, HA, aN, aD, HB⟩ := hrel
 cases gk with
 | zero => exact absurd HA.out (by simp [Qn.l0])
 | succ k1 =>
 have H := HA.out
 clear HA
 simp only [Qn.l0] at H
 replace H := Xr H
 rcases H with ⟨aM, H⟩ | ⟨aM, H⟩
 ·have H' := Qa.mk H; clear H
  go_wp2
  go_loopg [3, 5] k1 (fun kq v3 v5 w' => ∃ (aI : List (S77)) (aC : Int), v5 = .int .i64 aC ∧ Qa (Qn.l1 kq a0 aI aA aC = some r) ∧ Qa (kq ≤ k1) ∧ Qa (Kd.R k77 77 w' w.heap.size (fun _ => True) v3 aI) ∧ Qa (Below w.heap.size w w'))
  case atStart => exact ⟨(aJ), (wrap64 (aA + 1)), zF, H', ⟨Nat.le_refl _⟩, ⟨zR aD.out⟩, ⟨zB⟩⟩
  case round =>
  clear H'
  try clear c2
  try clear aM
  obtain ⟨aI, aC, rfl, HA, aQ, aD, HB⟩ := hrel
  cases gk with
  | zero => exact absurd HA.out (by simp [Qn.l1])
  | succ k2 =>
  have H := HA.out
  clear HA
  simp only [Qn.l1] at H
  replace H := Xr H
  rcases H with ⟨aT, H⟩ | ⟨aT, H⟩
  ·have H' := Qa.mk H; clear H
   go_wp2
   go_loopg [3, 6] k2 (fun kq v3 v6 w' => ∃ (aH : List (S77)) (aG : Int), v6 = .int .i64 aG ∧ Qa (Qn.l2 kq a0 aH aA aC aG = some r) ∧ Qa (kq ≤ k2) ∧ Qa (Kd.R k77 77 w' w.heap.size (fun _ => True) v3 aH) ∧ Qa (Below w.heap.size w w'))
   case atStart => exact ⟨(aI), (wrap64 (aC + 1)), zF, H', ⟨Nat.le_refl _⟩, ⟨zR aD.out⟩, ⟨zB⟩⟩
   case round =>
   clear H'
   try clear c2
   try clear aM
   try clear c3
   try clear aT
   obtain ⟨aH, aG, rfl, HA, aW, aD, HB⟩ := hrel
   cases gk with
   | zero => exact absurd HA.out (by simp [Qn.l2])
   | succ k3 =>
   have H := HA.out
   clear HA
   simp only [Qn.l2] at H
   replace H := Xr H
   rcases H with ⟨aX, H⟩ | ⟨aX, H⟩
   ·replace H := X8 H
    rcases H with ⟨c5, H⟩ | ⟨c5, H⟩
    ·have aY := Qa.mk c5
     clear c5
     generalize aK : (aH ++ [(⟨aA, aC, aG⟩ : S77)] : List (S77)) = aZ at H
     have aU := Qa.mk aK.symm
     clear aK
     have H' := Qa.mk H; clear H
     go_wp2_with (first | ((with_reducible refine Zy (b := .append) (xs := #[.tmp 26, .tmp 31]) rfl ?_); at_builtin; refine Kd.R_append k77 (w0 := w) w.heap.size rfl (.tmp 26) (.tmp 31) 75 77 (.agg #[(.int .i64 0), (.int .i64 0), (.int .i64 0)]) 24 rfl Tryz.underlying75 jKz rfl (by decide) (by omega) u3 aH (⟨aA, aC, aG⟩ : S77) [.int .i64 aA, .int .i64 aC, .int .i64 aG] (fun _ => True) (fun _ => False) rfl rfl ?aP (fun _ hk => hk.elim) ?aF ?aO ?aB ?aS ?aL ?_; (case aP => exact jKh _ _ _ (⟨aA, aC, aG⟩ : S77)); (case aB => exact zB); (case aF => exact (fun _ _ => trivial)); (case aO => exact (zR aD.out)); (case aS => exact (Q6 zB)); (case aL => have := aY.out; omega); intro bC w6 ho hb hg hat; rw [← aU.out] at ho; have aV := Qa.mk (ho); replace HB := Qa.mk (hb); clear aD; clear ho hb hg hat))
     go_roundg k3
     case measure => have := aN.out; have := aQ.out; have := aW.out; omega
     case rel => exact ⟨(aZ), (wrap64 (aG + 1)), zF, H', ⟨by have := aN.out; have := aQ.out; have := aW.out; omega⟩, ⟨zR aV.out⟩, ⟨zB⟩⟩
    exact absurd H (by simp)
   have H' := Qa.mk H; clear H
   go_wp2
   go_roundg k3
   case measure => have := aN.out; have := aQ.out; have := aW.out; omega
   case rel => exact ⟨(aH), (wrap64 (aC + 1)), zF, H', ⟨by have := aN.out; have := aQ.out; have := aW.out; omega⟩, ⟨zR aD.out⟩, ⟨zB⟩⟩
  have H' := Qa.mk H; clear H
  go_wp2
  go_roundg k2
  case measure => have := aN.out; have := aQ.out; omega
  case rel => exact ⟨(aI), (wrap64 (aA + 1)), zF, H', ⟨by have := aN.out; have := aQ.out; omega⟩, ⟨zR aD.out⟩, ⟨zB⟩⟩
 obtain rfl := Option.some.inj H
 go_wp2
 go_ret
 exact ⟨_, zE, zR aD.out, zB⟩
mutual
def Q3.j0 : Nat → List (S48) → Bool → Option (Bool)
 | 0, _, _ => none
 | k + 1, x0, aC => if aC = true then (some false) else ((Qn.f k (x0.length : Int)).bind fun aA => (Q3.l0 k x0 aA (aA.length : Int) 0))
def Q3.l0 : Nat → List (S48) → List (S77) → Int → Int → Option (Bool)
 | 0, _, _, _, _ => none
 | k + 1, x0, x20, aD, aA => if aA < aD then (if 0 ≤ aA then (if aA < (x20.length : Int) then (if 0 ≤ ((Qb x20 aA).f0) then (if ((Qb x20 aA).f0) < (x0.length : Int) then (if 0 ≤ ((Qb x20 aA).f1) then (if ((Qb x20 aA).f1) < (x0.length : Int) then (if 0 ≤ ((Qb x20 aA).f2) then (if ((Qb x20 aA).f2) < (x0.length : Int) then ((Xa.f ((Qp x0 ((Qb x20 aA).f0)).f0) ((Qp x0 ((Qb x20 aA).f0)).f1) ((Qp x0 ((Qb x20 aA).f1)).f0) ((Qp x0 ((Qb x20 aA).f1)).f1) ((Qp x0 ((Qb x20 aA).f2)).f0) ((Qp x0 ((Qb x20 aA).f2)).f1)).bind fun aC => (if aC = 0 then (some false) else (Q3.l0 k x0 x20 aD (wrap64 (aA + 1))))) else (none)) else (none)) else (none)) else (none)) else (none)) else (none)) else (none)) else (none)) else (some true)
end
def Q3.f (k : Nat) (l0 : List (S48)) : Option (Bool) := if (l0.length : Int) < 3 then (Q3.j0 k l0 true) else (if (l0.length : Int) > 7 then (Q3.j0 k l0 true) else ((Xi.f 50 l0).bind fun aA => (Q3.j0 k l0 (!aA))))
def Q3.T6 : Bool × List (List Nat × List Nat) := (true, [([], []), ([], []), ([1], [1]), ([0, 2], [0, 2]), ([3], [3]), ([], []), ([], []), ([6], [6]), ([5, 7], [5, 7]), ([8], [8]), ([], []), ([], []), ([11], [11]), ([10, 12], [10, 12]), ([13], [13]), ([4, 9, 14], [4, 9, 14]), ([15], [15])])
def Q3.B6 : List Nat := [0, 0, 2, 7, 15, 0, 0, 64, 224, 480, 0, 0, 2048, 7168, 15360, 32767, 65535]
theorem Q3.tab6 : Vv .any (opsOf Tryz.f45 6) = Q3.T6 := by kernel_rfl
theorem Q3.bits6 : Zz Q3.T6.2 Q3.B6 = true := by kernel_rfl
set_option maxHeartbeats 8000000 in
set_option maxRecDepth 100000 in
theorem Q3.calls (k : Nat) (A0 : Option Addr) (c0 : Nat) (l0 : List (S48)) (r : Bool) (w : World) (hr0 : Kd.C k48 w A0 l0.length l0) (hc0 : l0.length ≤ c0) (h : Q3.f k l0 = some r) :
  Calls Tryz.prog 45 #[.slice A0 l0.length c0] w fun e w' => e = .returned (.bool r) ∧ Below w.heap.size w w' := by
 have eX := Tryz.underlying77
 have eY := Tryz.underlying48
 have bS := Qa.mk hr0
 have eZ := Qa.mk hc0
 clear hr0 hc0
 have HB := Qa.mk (Below.refl w.heap.size w)
 have H := h
 unfold Q3.f at H
 clear h
 have dQ := Qa.mk H
 clear H
 go_enter Tryz.func45, Tryz.ntmps45
 go_upto_region 1 with (fail)
 go_cut [17] (fun v17 wc => ∃ (kq : Nat) (bJ : Bool), v17 = .bool bJ ∧ Qa (Q3.j0 kq l0 bJ = some r) ∧ Qa (kq ≤ k) ∧ Qa (Below w.heap.size w wc))
 case first =>
  have H := dQ.out
  clear dQ
  replace H := jEh H
  rcases H with ⟨c3, bK, H⟩ | ⟨c3, bK, H⟩
  ·have dR : decide (l0.length < 3) = true := decide_eq_true (by omega)
   clear c3
   (first | rw [bK] | (simp only [Zj, Zl]; rw [bK]) | skip)
   have H' := Qa.mk H; clear H
   go_wp2
   go_meet
   case rel => exact ⟨_, (true), zF, H', ⟨by first | omega | exact Nat.le_refl _⟩, ⟨zB⟩⟩
  have dR : decide (l0.length < 3) = false := decide_eq_false (by omega)
  clear c3
  (first | rw [bK] | (simp only [Zj, Zl]; rw [bK]) | skip)
  replace H := X8 H
  rcases H with ⟨c4, H⟩ | ⟨c4, H⟩
  ·have dS : decide (7 < (l0.length : Int)) = true := decide_eq_true c4
   have dU : decide (7 < l0.length) = true := decide_eq_true (by omega)
   clear c4
   have H' := Qa.mk H; clear H
   go_wp2
   go_meet
   case rel => exact ⟨_, (true), zF, H', ⟨by first | omega | exact Nat.le_refl _⟩, ⟨zB⟩⟩
  have dS : decide (7 < (l0.length : Int)) = false := decide_eq_false c4
  have dU : decide (7 < l0.length) = false := decide_eq_false (by omega)
  clear c4
  obtain ⟨bY, A5, H⟩ := zO H
  have H' := Qa.mk H; clear H
  go_wp2_with (first | (go_at_call 81; (with_reducible refine (Xi.calls 50 _ _ l0 bY _ ?bZ ?cB A5.out).mono ?_); (case bZ => exact zc (Kd.C_below bS.out HB.out)); (case cB => exact eZ.out); rintro e w6 ⟨rfl, hb⟩; replace HB := zX hb; (try clear hb); (try clear hb2); (try clear hk); (try clear hi)))
  go_meet
  case rel => exact ⟨_, (!bY), zF, H', ⟨by first | omega | exact Nat.le_refl _⟩, ⟨zB⟩⟩
 case rest =>
 clear dQ
 obtain ⟨kq, bJ, rfl, HA, dY, HB⟩ := hcut
 cases kq with
 | zero => exact absurd HA.out (by simp [Q3.j0])
 | succ dV =>
 have H := HA.out
 clear HA
 simp only [Q3.j0] at H
 by_cases c7 : bJ = true
 ·subst c7
  replace H := (if_pos rfl).symm.trans H
  obtain rfl := Option.some.inj H
  go_wp2
  go_ret
  exact ⟨zE, zB⟩
 replace c7 := Bool.eq_false_iff.mpr c7
 subst c7
 replace H := (if_neg zFf).symm.trans H
 obtain ⟨aC, A8, H⟩ := zO H
 have H' := Qa.mk H; clear H
 go_wp2_with (first | ((with_reducible refine Qd (f := 55) rfl ?_); refine zD (some 20) Tryz.func55 _ ((Qn.calls dV (l0.length : Int) aC _ A8.out).mono ?_); rintro e w9 ⟨fA, rfl, ho0, hb⟩; refine ⟨_, rfl, ?_⟩; have bR := Qa.mk (Kd.R_lower ho0 (Q6 zB)); replace HB := zX hb; (try clear hb); (try clear ho0); obtain ⟨dW, bT, dX⟩ := Kd.R_slice bR.out; subst dX))
 go_loopg [22] dV (fun kq v22 w' => ∃ (aA : Int), v22 = .int .i64 aA ∧ Qa (Q3.l0 kq l0 aC (aC.length : Int) aA = some r) ∧ Qa (kq ≤ dV) ∧ Qa (Kd.R k77 77 w' w.heap.size (fun _ => True) (.slice dW aC.length bT) aC) ∧ Qa (Below w.heap.size w w'))
 case atStart => exact ⟨(0), zF, H', ⟨Nat.le_refl _⟩, ⟨zR bR.out⟩, ⟨zB⟩⟩
 case round =>
 clear H'
 try clear c7
 obtain ⟨aA, rfl, HA, dZ, aH, HB⟩ := hrel
 cases gk with
 | zero => exact absurd HA.out (by simp [Q3.l0])
 | succ k2 =>
 have H := HA.out
 clear HA
 simp only [Q3.l0] at H
 replace H := Xr H
 rcases H with ⟨cK, H⟩ | ⟨cK, H⟩
 ·replace H := J5 H
  rcases H with ⟨eB, H⟩ | ⟨c12, H⟩
  ·replace H := J5 H
   rcases H with ⟨eD, H⟩ | ⟨c13, H⟩
   ·replace H := J5 H
    rcases H with ⟨eF, H⟩ | ⟨c14, H⟩
    ·replace H := J5 H
     rcases H with ⟨eG, H⟩ | ⟨c15, H⟩
     ·replace H := J5 H
      rcases H with ⟨eH, H⟩ | ⟨c16, H⟩
      ·replace H := J5 H
       rcases H with ⟨eO, H⟩ | ⟨c17, H⟩
       ·replace H := J5 H
        rcases H with ⟨eP, H⟩ | ⟨c18, H⟩
        ·replace H := J5 H
         rcases H with ⟨eQ, H⟩ | ⟨c19, H⟩
         ·obtain ⟨cO, eU, H⟩ := zO H
          replace H := Zc H
          rcases H with ⟨cZ, dA, H⟩ | ⟨c21, cZ, dA, H⟩
          ·obtain rfl := Option.some.inj H
           have bB : 0 ≤ (aA : Int) := zA
           have bC : aA < (aC.length : Int) := zA
           obtain ⟨bL, e291, bO, bP, bQ⟩ := Ky (Kd.R_reads' aH.out).2.2 aA bB bC
           cases e291
           replace bB := eq_true bB
           replace bC := eq_true bC
           try go_wp2_with (first | ((with_reducible refine Qm (N := 4) rfl ?_); (try (refine Zq (by rfl) ?_; dsimp only)); refine zBx (N := 4) #[.int .i64 0, .int .i64 0, .int .i64 0] 77 ?_; intro aD hg dC hbox hb; replace aH := Qa.mk (Kd.R_below (Kd.R_elderB (zR aH.out) aD (Nat.le_of_eq hg.symm)) hb); have aG := Qa.mk (hbox); have dB := zS hg; have bA := zS hg; replace HB := zX hb; clear hb hbox hg; obtain ⟨dD, dE, dF, dG, dH, dI⟩ := zq3 aG.out))
           have bU : Qa (Kd.R k77 77 (((dC.setCell ⟨aD, 0, none⟩ (.int .i64 ((Qb aC aA).f0))).setCell ⟨aD, 1, none⟩ (.int .i64 ((Qb aC aA).f1))).setCell ⟨aD, 2, none⟩ (.int .i64 ((Qb aC aA).f2))) w.heap.size (fun k_ => k_ ≠ aD) (.slice (some bL) aC.length bT) aC) := ⟨by (with_reducible repeat (first | apply Kd.R_alloc | apply Kd.R_drewN | apply Kd.R_drew)); exact Kd.R_mono (Kd.R_far (p := ⟨aD, 2, none⟩) (Kd.R_far (p := ⟨aD, 1, none⟩) (Kd.R_far (p := ⟨aD, 0, none⟩) (Kd.R_mono aH.out (fun k_ hk => (⟨hk, hk.2⟩ : _ ∧ k_ ≠ aD))) (fun _ hk => hk.2) (.int .i64 ((Qb aC aA).f0))) (fun _ hk => hk.2) (.int .i64 ((Qb aC aA).f1))) (fun _ hk => hk.2) (.int .i64 ((Qb aC aA).f2))) (fun _ hk => hk.1.2)⟩
           have bV : Qa ((((dC.setCell ⟨aD, 0, none⟩ (.int .i64 ((Qb aC aA).f0))).setCell ⟨aD, 1, none⟩ (.int .i64 ((Qb aC aA).f1))).setCell ⟨aD, 2, none⟩ (.int .i64 ((Qb aC aA).f2))).heap[aD]? = some (.cells #[.int .i64 ((Qb aC aA).f0), .int .i64 ((Qb aC aA).f1), .int .i64 ((Qb aC aA).f2)] 77 (0, 0))) := ⟨zk0 aG.out⟩
           have bW : Qa (Below w.heap.size w (((dC.setCell ⟨aD, 0, none⟩ (.int .i64 ((Qb aC aA).f0))).setCell ⟨aD, 1, none⟩ (.int .i64 ((Qb aC aA).f1))).setCell ⟨aD, 2, none⟩ (.int .i64 ((Qb aC aA).f2)))) := ⟨zG bA.out⟩
           (try clear aH)
           (try clear aG)
           (try clear HB)
           generalize (((dC.setCell ⟨aD, 0, none⟩ (.int .i64 ((Qb aC aA).f0))).setCell ⟨aD, 1, none⟩ (.int .i64 ((Qb aC aA).f1))).setCell ⟨aD, 2, none⟩ (.int .i64 ((Qb aC aA).f2))) = fB at bU bV bW ⊢
           have aH := bU
           have aG := bV
           have HB := bW
           clear bU bV bW
           replace aH := Qa.mk (Kd.R_drew aH.out)
           replace aG := Qa.mk (Qk aG.out)
           replace HB := Qa.mk (Qo HB.out)
           have bD : 0 ≤ (((Qb aC aA).f0) : Int) := zA
           have bE : ((Qb aC aA).f0) < (l0.length : Int) := zA
           obtain ⟨aI, bX, aJ, aK⟩ := Xz bS.out ((Qb aC aA).f0) bD bE
           have aU := aK
           have aV := aJ
           cases bX
           replace aJ := (HB.out.cell (World.block_lt_of_cell? w _ aJ)).trans aJ
           replace aK := (HB.out.cell (World.block_lt_of_cell? w _ aK)).trans aK
           replace bD := eq_true bD
           replace bE := eq_true bE
           have bF : 0 ≤ (((Qb aC aA).f1) : Int) := zA
           have bG : ((Qb aC aA).f1) < (l0.length : Int) := zA
           obtain ⟨bM, e294, aM, aN⟩ := Xz bS.out ((Qb aC aA).f1) bF bG
           have aW := aN
           have aX := aM
           obtain rfl : aI = bM := (by injection e294)
           replace aM := (HB.out.cell (World.block_lt_of_cell? w _ aM)).trans aM
           replace aN := (HB.out.cell (World.block_lt_of_cell? w _ aN)).trans aN
           replace bF := eq_true bF
           replace bG := eq_true bG
           have bH : 0 ≤ (((Qb aC aA).f2) : Int) := zA
           have bI : ((Qb aC aA).f2) < (l0.length : Int) := zA
           obtain ⟨bN, e295, aQ, aT⟩ := Xz bS.out ((Qb aC aA).f2) bH bI
           have aY := aT
           have aZ := aQ
           obtain rfl : aI = bN := (by injection e295)
           replace aQ := (HB.out.cell (World.block_lt_of_cell? w _ aQ)).trans aQ
           replace aT := (HB.out.cell (World.block_lt_of_cell? w _ aT)).trans aT
           replace bH := eq_true bH
           replace bI := eq_true bI
           refine Xe (n := 17) (S := fun w' => w'.cell? ⟨aD, 0, none⟩ = some (.int .i64 ((Qb aC aA).f0)) ∧ w'.cell? ⟨aD, 1, none⟩ = some (.int .i64 ((Qb aC aA).f1)) ∧ w'.cell? ⟨aD, 2, none⟩ = some (.int .i64 ((Qb aC aA).f2)) ∧ w'.cell? (aI.add ((((Qb aC aA).f0)).toNat * 2)) = some (.int .i64 ((Qp l0 ((Qb aC aA).f0)).f0)) ∧ w'.cell? ⟨(aI.add ((((Qb aC aA).f0)).toNat * 2)).block, (aI.add ((((Qb aC aA).f0)).toNat * 2)).off + 1, none⟩ = some (.int .i64 ((Qp l0 ((Qb aC aA).f0)).f1)) ∧ w'.cell? (aI.add ((((Qb aC aA).f1)).toNat * 2)) = some (.int .i64 ((Qp l0 ((Qb aC aA).f1)).f0)) ∧ w'.cell? ⟨(aI.add ((((Qb aC aA).f1)).toNat * 2)).block, (aI.add ((((Qb aC aA).f1)).toNat * 2)).off + 1, none⟩ = some (.int .i64 ((Qp l0 ((Qb aC aA).f1)).f1)) ∧ w'.cell? (aI.add ((((Qb aC aA).f2)).toNat * 2)) = some (.int .i64 ((Qp l0 ((Qb aC aA).f2)).f0)) ∧ w'.cell? ⟨(aI.add ((((Qb aC aA).f2)).toNat * 2)).block, (aI.add ((((Qb aC aA).f2)).toNat * 2)).off + 1, none⟩ = some (.int .i64 ((Qp l0 ((Qb aC aA).f2)).f1))) (ds := []) #[false, false, false, false, false, false, false, false, false, false, false, false, false, false, false, false, false] (by kernel_rfl) rfl rfl ⟨(Qj aG.out 0).trans rfl, (Qj aG.out 1).trans rfl, (Qj aG.out 2).trans rfl, ((HB.out.cell (World.block_lt_of_cell? w _ aV)).trans aV), ((HB.out.cell (World.block_lt_of_cell? w _ aU)).trans aU), ((HB.out.cell (World.block_lt_of_cell? w _ aX)).trans aX), ((HB.out.cell (World.block_lt_of_cell? w _ aW)).trans aW), ((HB.out.cell (World.block_lt_of_cell? w _ aZ)).trans aZ), ((HB.out.cell (World.block_lt_of_cell? w _ aY)).trans aY)⟩ (fun hHeld => ?_); refine J6 Q3.tab6 Q3.bits6 (fun HT_ HW_ => ?_)
           generalize fB.drew = fD at aH aG HB aJ aK aM aN aQ aT hHeld ⊢
           refine zP 0 (some 26) rfl rfl ?_
           refine zP 1 (some 27) rfl rfl ?_
           refine zP 5 (some 31) rfl rfl ?_
           refine zP 6 (some 32) rfl rfl ?_
           refine zP 10 (some 36) rfl rfl ?_
           refine zP 11 (some 37) rfl rfl ?_
           refine zY9 2 (some 28) rfl rfl hHeld ?_
           refine zP 3 (some 29) rfl rfl ?_
           refine zY9 4 (some 30) rfl rfl hHeld ?_
           refine zY9 7 (some 33) rfl rfl hHeld ?_
           refine zP 8 (some 34) rfl rfl ?_
           refine zY9 9 (some 35) rfl rfl hHeld ?_
           refine zY9 12 (some 38) rfl rfl hHeld ?_
           refine zP 13 (some 39) rfl rfl ?_
           refine zY9 14 (some 40) rfl rfl hHeld ?_
           refine zU 15 (some 41) rfl rfl (fun K hK => ?_)
           refine X0 Tryz.func28 (by kernel_rfl) rfl #[.agg #[.int .i64 ((Qp l0 ((Qb aC aA).f0)).f0), .int .i64 ((Qp l0 ((Qb aC aA).f0)).f1)], .agg #[.int .i64 ((Qp l0 ((Qb aC aA).f1)).f0), .int .i64 ((Qp l0 ((Qb aC aA).f1)).f1)], .agg #[.int .i64 ((Qp l0 ((Qb aC aA).f2)).f0), .int .i64 ((Qp l0 ((Qb aC aA).f2)).f1)]] (by rfl) rfl rfl zM ?_
           with_reducible refine (Xa.calls ((Qp l0 ((Qb aC aA).f0)).f0) ((Qp l0 ((Qb aC aA).f0)).f1) ((Qp l0 ((Qb aC aA).f1)).f0) ((Qp l0 ((Qb aC aA).f1)).f1) ((Qp l0 ((Qb aC aA).f2)).f0) ((Qp l0 ((Qb aC aA).f2)).f1) cO _ eU.out).mono ?_
           rintro e fE ⟨rfl, hb⟩
           refine ⟨_, rfl, ?_⟩
           replace aH := zW aH.out hb
           replace aG := zV aG.out hb
           replace HB := zX1 bA.out hb
           (try clear hb)
           refine hK.out _ _ ⟨(Qj aG.out 0).trans rfl, (Qj aG.out 1).trans rfl, (Qj aG.out 2).trans rfl, ((HB.out.cell (World.block_lt_of_cell? w _ aV)).trans aV), ((HB.out.cell (World.block_lt_of_cell? w _ aU)).trans aU), ((HB.out.cell (World.block_lt_of_cell? w _ aX)).trans aX), ((HB.out.cell (World.block_lt_of_cell? w _ aW)).trans aW), ((HB.out.cell (World.block_lt_of_cell? w _ aZ)).trans aZ), ((HB.out.cell (World.block_lt_of_cell? w _ aY)).trans aY)⟩ (fun hHeld => ?_)
           clear hK K
           refine zN ?_
           refine zP 16 (some 42) rfl rfl ?_
           refine Yp (Zu HT_.out (by kernel_rfl)) ?_
           try go_wp2
           go_ret
           exact ⟨zE, zG bA.out⟩
          have H' := Qa.mk H; clear H
          have bB : 0 ≤ (aA : Int) := zA
          have bC : aA < (aC.length : Int) := zA
          obtain ⟨bL, e291, bO, bP, bQ⟩ := Ky (Kd.R_reads' aH.out).2.2 aA bB bC
          cases e291
          replace bB := eq_true bB
          replace bC := eq_true bC
          try go_wp2_with (first | ((with_reducible refine Qm (N := 4) rfl ?_); (try (refine Zq (by rfl) ?_; dsimp only)); refine zBx (N := 4) #[.int .i64 0, .int .i64 0, .int .i64 0] 77 ?_; intro aD hg dJ hbox hb; replace aH := Qa.mk (Kd.R_below (Kd.R_elderB (zR aH.out) aD (Nat.le_of_eq hg.symm)) hb); have aG := Qa.mk (hbox); have dB := zS hg; have bA := zS hg; replace HB := zX hb; clear hb hbox hg; obtain ⟨dK, dL, dM, dN, dO, dP⟩ := zq3 aG.out))
          have bU : Qa (Kd.R k77 77 (((dJ.setCell ⟨aD, 0, none⟩ (.int .i64 ((Qb aC aA).f0))).setCell ⟨aD, 1, none⟩ (.int .i64 ((Qb aC aA).f1))).setCell ⟨aD, 2, none⟩ (.int .i64 ((Qb aC aA).f2))) w.heap.size (fun k_ => k_ ≠ aD) (.slice (some bL) aC.length bT) aC) := ⟨by (with_reducible repeat (first | apply Kd.R_alloc | apply Kd.R_drewN | apply Kd.R_drew)); exact Kd.R_mono (Kd.R_far (p := ⟨aD, 2, none⟩) (Kd.R_far (p := ⟨aD, 1, none⟩) (Kd.R_far (p := ⟨aD, 0, none⟩) (Kd.R_mono aH.out (fun k_ hk => (⟨hk, hk.2⟩ : _ ∧ k_ ≠ aD))) (fun _ hk => hk.2) (.int .i64 ((Qb aC aA).f0))) (fun _ hk => hk.2) (.int .i64 ((Qb aC aA).f1))) (fun _ hk => hk.2) (.int .i64 ((Qb aC aA).f2))) (fun _ hk => hk.1.2)⟩
          have bV : Qa ((((dJ.setCell ⟨aD, 0, none⟩ (.int .i64 ((Qb aC aA).f0))).setCell ⟨aD, 1, none⟩ (.int .i64 ((Qb aC aA).f1))).setCell ⟨aD, 2, none⟩ (.int .i64 ((Qb aC aA).f2))).heap[aD]? = some (.cells #[.int .i64 ((Qb aC aA).f0), .int .i64 ((Qb aC aA).f1), .int .i64 ((Qb aC aA).f2)] 77 (0, 0))) := ⟨zk0 aG.out⟩
          have bW : Qa (Below w.heap.size w (((dJ.setCell ⟨aD, 0, none⟩ (.int .i64 ((Qb aC aA).f0))).setCell ⟨aD, 1, none⟩ (.int .i64 ((Qb aC aA).f1))).setCell ⟨aD, 2, none⟩ (.int .i64 ((Qb aC aA).f2)))) := ⟨zG bA.out⟩
          (try clear aH)
          (try clear aG)
          (try clear HB)
          generalize (((dJ.setCell ⟨aD, 0, none⟩ (.int .i64 ((Qb aC aA).f0))).setCell ⟨aD, 1, none⟩ (.int .i64 ((Qb aC aA).f1))).setCell ⟨aD, 2, none⟩ (.int .i64 ((Qb aC aA).f2))) = fC at bU bV bW ⊢
          have aH := bU
          have aG := bV
          have HB := bW
          clear bU bV bW
          replace aH := Qa.mk (Kd.R_drew aH.out)
          replace aG := Qa.mk (Qk aG.out)
          replace HB := Qa.mk (Qo HB.out)
          have bD : 0 ≤ (((Qb aC aA).f0) : Int) := zA
          have bE : ((Qb aC aA).f0) < (l0.length : Int) := zA
          obtain ⟨aI, bX, aJ, aK⟩ := Xz bS.out ((Qb aC aA).f0) bD bE
          have aU := aK
          have aV := aJ
          cases bX
          replace aJ := (HB.out.cell (World.block_lt_of_cell? w _ aJ)).trans aJ
          replace aK := (HB.out.cell (World.block_lt_of_cell? w _ aK)).trans aK
          replace bD := eq_true bD
          replace bE := eq_true bE
          have bF : 0 ≤ (((Qb aC aA).f1) : Int) := zA
          have bG : ((Qb aC aA).f1) < (l0.length : Int) := zA
          obtain ⟨bM, e294, aM, aN⟩ := Xz bS.out ((Qb aC aA).f1) bF bG
          have aW := aN
          have aX := aM
          obtain rfl : aI = bM := (by injection e294)
          replace aM := (HB.out.cell (World.block_lt_of_cell? w _ aM)).trans aM
          replace aN := (HB.out.cell (World.block_lt_of_cell? w _ aN)).trans aN
          replace bF := eq_true bF
          replace bG := eq_true bG
          have bH : 0 ≤ (((Qb aC aA).f2) : Int) := zA
          have bI : ((Qb aC aA).f2) < (l0.length : Int) := zA
          obtain ⟨bN, e295, aQ, aT⟩ := Xz bS.out ((Qb aC aA).f2) bH bI
          have aY := aT
          have aZ := aQ
          obtain rfl : aI = bN := (by injection e295)
          replace aQ := (HB.out.cell (World.block_lt_of_cell? w _ aQ)).trans aQ
          replace aT := (HB.out.cell (World.block_lt_of_cell? w _ aT)).trans aT
          replace bH := eq_true bH
          replace bI := eq_true bI
          refine Xe (n := 17) (S := fun w' => w'.cell? ⟨aD, 0, none⟩ = some (.int .i64 ((Qb aC aA).f0)) ∧ w'.cell? ⟨aD, 1, none⟩ = some (.int .i64 ((Qb aC aA).f1)) ∧ w'.cell? ⟨aD, 2, none⟩ = some (.int .i64 ((Qb aC aA).f2)) ∧ w'.cell? (aI.add ((((Qb aC aA).f0)).toNat * 2)) = some (.int .i64 ((Qp l0 ((Qb aC aA).f0)).f0)) ∧ w'.cell? ⟨(aI.add ((((Qb aC aA).f0)).toNat * 2)).block, (aI.add ((((Qb aC aA).f0)).toNat * 2)).off + 1, none⟩ = some (.int .i64 ((Qp l0 ((Qb aC aA).f0)).f1)) ∧ w'.cell? (aI.add ((((Qb aC aA).f1)).toNat * 2)) = some (.int .i64 ((Qp l0 ((Qb aC aA).f1)).f0)) ∧ w'.cell? ⟨(aI.add ((((Qb aC aA).f1)).toNat * 2)).block, (aI.add ((((Qb aC aA).f1)).toNat * 2)).off + 1, none⟩ = some (.int .i64 ((Qp l0 ((Qb aC aA).f1)).f1)) ∧ w'.cell? (aI.add ((((Qb aC aA).f2)).toNat * 2)) = some (.int .i64 ((Qp l0 ((Qb aC aA).f2)).f0)) ∧ w'.cell? ⟨(aI.add ((((Qb aC aA).f2)).toNat * 2)).block, (aI.add ((((Qb aC aA).f2)).toNat * 2)).off + 1, none⟩ = some (.int .i64 ((Qp l0 ((Qb aC aA).f2)).f1))) (ds := []) #[false, false, false, false, false, false, false, false, false, false, false, false, false, false, false, false, false] (by kernel_rfl) rfl rfl ⟨(Qj aG.out 0).trans rfl, (Qj aG.out 1).trans rfl, (Qj aG.out 2).trans rfl, ((HB.out.cell (World.block_lt_of_cell? w _ aV)).trans aV), ((HB.out.cell (World.block_lt_of_cell? w _ aU)).trans aU), ((HB.out.cell (World.block_lt_of_cell? w _ aX)).trans aX), ((HB.out.cell (World.block_lt_of_cell? w _ aW)).trans aW), ((HB.out.cell (World.block_lt_of_cell? w _ aZ)).trans aZ), ((HB.out.cell (World.block_lt_of_cell? w _ aY)).trans aY)⟩ (fun hHeld => ?_); refine J6 Q3.tab6 Q3.bits6 (fun HT_ HW_ => ?_)
          generalize fC.drew = fF at aH aG HB aJ aK aM aN aQ aT hHeld ⊢
          refine zP 0 (some 26) rfl rfl ?_
          refine zP 1 (some 27) rfl rfl ?_
          refine zP 5 (some 31) rfl rfl ?_
          refine zP 6 (some 32) rfl rfl ?_
          refine zP 10 (some 36) rfl rfl ?_
          refine zP 11 (some 37) rfl rfl ?_
          refine zY9 2 (some 28) rfl rfl hHeld ?_
          refine zP 3 (some 29) rfl rfl ?_
          refine zY9 4 (some 30) rfl rfl hHeld ?_
          refine zY9 7 (some 33) rfl rfl hHeld ?_
          refine zP 8 (some 34) rfl rfl ?_
          refine zY9 9 (some 35) rfl rfl hHeld ?_
          refine zY9 12 (some 38) rfl rfl hHeld ?_
          refine zP 13 (some 39) rfl rfl ?_
          refine zY9 14 (some 40) rfl rfl hHeld ?_
          refine zU 15 (some 41) rfl rfl (fun K hK => ?_)
          refine X0 Tryz.func28 (by kernel_rfl) rfl #[.agg #[.int .i64 ((Qp l0 ((Qb aC aA).f0)).f0), .int .i64 ((Qp l0 ((Qb aC aA).f0)).f1)], .agg #[.int .i64 ((Qp l0 ((Qb aC aA).f1)).f0), .int .i64 ((Qp l0 ((Qb aC aA).f1)).f1)], .agg #[.int .i64 ((Qp l0 ((Qb aC aA).f2)).f0), .int .i64 ((Qp l0 ((Qb aC aA).f2)).f1)]] (by rfl) rfl rfl zM ?_
          with_reducible refine (Xa.calls ((Qp l0 ((Qb aC aA).f0)).f0) ((Qp l0 ((Qb aC aA).f0)).f1) ((Qp l0 ((Qb aC aA).f1)).f0) ((Qp l0 ((Qb aC aA).f1)).f1) ((Qp l0 ((Qb aC aA).f2)).f0) ((Qp l0 ((Qb aC aA).f2)).f1) cO _ eU.out).mono ?_
          rintro e fG ⟨rfl, hb⟩
          refine ⟨_, rfl, ?_⟩
          replace aH := zW aH.out hb
          replace aG := zV aG.out hb
          replace HB := zX1 bA.out hb
          (try clear hb)
          refine hK.out _ _ ⟨(Qj aG.out 0).trans rfl, (Qj aG.out 1).trans rfl, (Qj aG.out 2).trans rfl, ((HB.out.cell (World.block_lt_of_cell? w _ aV)).trans aV), ((HB.out.cell (World.block_lt_of_cell? w _ aU)).trans aU), ((HB.out.cell (World.block_lt_of_cell? w _ aX)).trans aX), ((HB.out.cell (World.block_lt_of_cell? w _ aW)).trans aW), ((HB.out.cell (World.block_lt_of_cell? w _ aZ)).trans aZ), ((HB.out.cell (World.block_lt_of_cell? w _ aY)).trans aY)⟩ (fun hHeld => ?_)
          clear hK K
          refine zN ?_
          refine zP 16 (some 42) rfl rfl ?_
          refine Yp (Zu HT_.out (by kernel_rfl)) ?_
          try go_wp2
          go_roundg k2
          case measure => have := dY.out; have := dZ.out; omega
          case rel => exact ⟨(wrap64 (aA + 1)), zF, H', ⟨by have := dY.out; have := dZ.out; omega⟩, ⟨zR (Kd.R_mono aH.out (fun _ hk => trivial))⟩, ⟨zG bA.out⟩⟩
         exact absurd H (by simp)
        exact absurd H (by simp)
       exact absurd H (by simp)
      exact absurd H (by simp)
     exact absurd H (by simp)
    exact absurd H (by simp)
   exact absurd H (by simp)
  exact absurd H (by simp)
 obtain rfl := Option.some.inj H
 go_wp2
 go_ret
 exact ⟨zE, zB⟩
def Qy.l0 : Nat → List Int → List Int → List (S77) → Int → Int → Option (Int × ByteArray)
 | 0, _, _, _, _, _ => none
 | k + 1, x0, x3, aC, aD, aA => if aA < aD then (if 0 ≤ aA then (if aA < (aC.length : Int) then (if 0 ≤ ((Qb aC aA).f0) then (if ((Qb aC aA).f0) < 7 then (if 0 ≤ ((Qb aC aA).f1) then (if ((Qb aC aA).f1) < 7 then (if 0 ≤ ((Qb aC aA).f2) then (if ((Qb aC aA).f2) < 7 then (if (rd3 x0 ((Qb aC aA).f0) ((Qb aC aA).f1) ((Qb aC aA).f2)) > 0 then (if x3.length < 140737488355328 then (Qy.l0 k x0 (x3 ++ [43]) aC aD (wrap64 (aA + 1))) else (none)) else (if x3.length < 140737488355328 then (Qy.l0 k x0 (x3 ++ [45]) aC aD (wrap64 (aA + 1))) else (none))) else (none)) else (none)) else (none)) else (none)) else (none)) else (none)) else (none)) else (none)) else (some (rd x0 0, strOfNums x3))
def Qy.f (k : Nat) (l0 : List Int) : Option (Int × ByteArray) := (Qn.f k (rd l0 0)).bind fun aA => (Qy.l0 k l0 ([] : List Int) aA (aA.length : Int) 0)
def Qy.T5 : Bool × List (List Nat × List Nat) := (true, [([], []), ([], []), ([1], [1]), ([], []), ([3], [3]), ([], []), ([5], [5]), ([0], [0]), ([7], [7]), ([8, 2], [2, 8]), ([9, 4], [4, 9]), ([10, 6], [6, 10]), ([11], [11]), ([12], [12])])
def Qy.B5 : List Nat := [0, 0, 2, 0, 8, 0, 32, 1, 129, 391, 927, 2047, 4095, 8191]
theorem Qy.tab5 : Vv .any (opsOf Tryz.f57 5) = Qy.T5 := by kernel_rfl
theorem Qy.bits5 : Zz Qy.T5.2 Qy.B5 = true := by kernel_rfl
def Qy.T9 : Bool × List (List Nat × List Nat) := (true, [([], []), ([0], [0]), ([1], [1]), ([2], [2]), ([], []), ([4], [4]), ([3, 5], [3, 5]), ([6, 0, 1, 2, 3, 4, 5, 6], [6])])
def Qy.B9 : List Nat := [0, 1, 3, 7, 0, 16, 63, 127]
theorem Qy.tab9 : Vv .any (opsOf Tryz.f57 9) = Qy.T9 := by kernel_rfl
theorem Qy.bits9 : Zz Qy.T9.2 Qy.B9 = true := by kernel_rfl
set_option maxHeartbeats 8000000 in
set_option maxRecDepth 100000 in
theorem Qy.calls (k : Nat) (g0 : Nat) (l0 : List Int) (r1 : Int) (r2 : ByteArray) (w : World) (hr0 : Kd.C (Kd.int .i64) w (some ⟨g0, 0, none⟩) l0.length l0) (hc0 : l0.length = 344) (h : Qy.f k l0 = some (r1, r2)) :
  Calls Tryz.prog 57 #[.pointer (some ⟨g0, 0, none⟩)] w fun e w' => e = .returned (.agg #[.int .i64 r1, .string r2]) ∧ Below w.heap.size w w' := by
 have fH := Tryz.underlying25
 have fI := Tryz.underlying77
 have fJ := Tryz.underlying74
 have fK := Tryz.underlying72
 have fM := Tryz.underlying71
 have fO := Tryz.underlying70
 have dK := Qa.mk hr0
 have dL := Qa.mk hc0
 clear hr0 hc0
 have HB := Qa.mk (Below.refl w.heap.size w)
 have H := h
 unfold Qy.f at H
 clear h
 obtain ⟨aC, A2, H⟩ := zO H
 have H' := Qa.mk H; clear H
 go_enter Tryz.func57, Tryz.ntmps57
 go_wp2_with (first | ((with_reducible refine Qm (N := 2) rfl ?_); refine zBx (N := 2) #[.int .i64 0, .string (⟨#[]⟩ : ByteArray)] 25 ?_; intro aU hg w3 hbox hb; have aG := Qa.mk (hbox); have eH := zS hg; have aN := zS hg; replace HB := zX hb; clear hb hbox hg; have cO := dL.out; have cZ : decide (0 < (l0.length : Int)) = true := decide_eq_true (by omega); clear cO; have bN : 0 ≤ (0 : Int) := (by omega); have bO : 0 < (l0.length : Int) := zA; obtain ⟨dA, e298, aQ⟩ := Kd.at_int dK.out 0 bN bO; obtain rfl : (⟨g0, 0, none⟩ : Addr) = dA := (by injection e298); (first | simp only [add_plain] at aQ | simp only [Ww] at aQ | simp only [Addr.add, Nat.zero_add] at aQ | skip); have eO : (0 < l0.length) = True := eq_true (by omega); (try rw [show ((0 : Int)).toNat = 0 from rfl] at aQ); (try rw [Addr.add_zero'] at aQ); replace aQ := (HB.out.cell (World.block_lt_of_cell? w _ aQ)).trans aQ; replace bN := eq_true bN; replace bO := eq_true bO; clear cZ) | ((with_reducible refine Qd (f := 55) rfl ?_); refine zD (some 10) Tryz.func55 _ ((Qn.calls k (rd l0 0) aC _ A2.out).mono ?_); rintro e w4 ⟨fP, rfl, ho0, hb⟩; refine ⟨_, rfl, ?_⟩; have bS := Qa.mk (Kd.R_lower ho0 (Q6 (zG aN.out))); replace aG := zV aG.out hb; replace HB := zX1 aN.out hb; (try clear hb); (try clear ho0); obtain ⟨fQ, eB, fT⟩ := Kd.R_slice bS.out; subst fT))
 go_loopg [3, 12] k (fun kq v3 v12 w' => ∃ (bD : List Int) (aA : Int), v12 = .int .i64 aA ∧ Qa (Qy.l0 kq l0 bD aC (aC.length : Int) aA = some (r1, r2)) ∧ Qa (kq ≤ k) ∧ Qa (Kd.R (Kd.int .u8) 5 w' w.heap.size (fun _ => True) v3 bD) ∧ Qa (Kd.R k77 77 w' w.heap.size (fun _ => True) (.slice fQ aC.length eB) aC) ∧ Qa (w'.heap[aU]? = some (.cells #[.int .i64 0, .string (⟨#[]⟩ : ByteArray)] 25 (0, 0))) ∧ Qa (Below w.heap.size w w'))
 case atStart => exact ⟨(([] : List Int)), (0), zF, H', ⟨Nat.le_refl _⟩, ⟨by first | exact Kd.R_nil _ _ _ _ _ | exact Kd.N_nil _ _ _ _ _ | exact Kd.V_nil _ _ _ _ _ | exact Kd.Q_nil _ _ _ _ _ | exact Kd.S_nil _ _ _ _ _⟩, ⟨zR bS.out⟩, ⟨zK aG.out⟩, ⟨zG aN.out⟩⟩
 case round =>
 clear H'
 try clear aQ
 try clear bN
 try clear bO
 obtain ⟨bD, aA, rfl, HA, dM, aM, aJ, aG, HB⟩ := hrel
 cases gk with
 | zero => exact absurd HA.out (by simp [Qy.l0])
 | succ k1 =>
 have H := HA.out
 clear HA
 simp only [Qy.l0] at H
 replace H := Xr H
 rcases H with ⟨eD, H⟩ | ⟨eD, H⟩
 ·replace H := J5 H
  rcases H with ⟨fU, H⟩ | ⟨c7, H⟩
  ·replace H := J5 H
   rcases H with ⟨fV, H⟩ | ⟨c8, H⟩
   ·replace H := J5 H
    rcases H with ⟨fZ, H⟩ | ⟨c9, H⟩
    ·replace H := J5 H
     rcases H with ⟨eP, H⟩ | ⟨c10, H⟩
     ·replace H := J5 H
      rcases H with ⟨eQ, H⟩ | ⟨c11, H⟩
      ·replace H := J5 H
       rcases H with ⟨eU, H⟩ | ⟨c12, H⟩
       ·replace H := J5 H
        rcases H with ⟨eX, H⟩ | ⟨c13, H⟩
        ·replace H := J5 H
         rcases H with ⟨eY, H⟩ | ⟨c14, H⟩
         ·replace H := X8 H
          rcases H with ⟨c15, H⟩ | ⟨c15, H⟩
          ·have dB : decide (0 < (rd3 l0 ((Qb aC aA).f0) ((Qb aC aA).f1) ((Qb aC aA).f2))) = true := decide_eq_true c15
           clear c15
           replace H := X8 H
           rcases H with ⟨c16, H⟩ | ⟨c16, H⟩
           ·have dC := Qa.mk c16
            clear c16
            generalize bT : (bD ++ [43] : List Int) = eF at H
            have dD := Qa.mk bT.symm
            clear bT
            have H' := Qa.mk H; clear H
            have bG : 0 ≤ (aA : Int) := zA
            have bH : aA < (aC.length : Int) := zA
            obtain ⟨bI, e302, bP, bQ, bR⟩ := Ky (Kd.R_reads' aJ.out).2.2 aA bG bH
            cases e302
            replace bG := eq_true bG
            replace bH := eq_true bH
            try go_wp2_with (first | ((with_reducible refine Qm (N := 5) rfl ?_); refine zBx (N := 5) #[.int .i64 0, .int .i64 0, .int .i64 0] 77 ?_; intro aD hg cB hbox hb; replace aM := zW aM.out hb; replace aJ := Qa.mk (Kd.R_below (Kd.R_elderB (zR aJ.out) aD (Nat.le_of_eq hg.symm)) hb); have aI := Qa.mk (hbox); have dE := zSg hg (zG aN.out); have aV := zSg hg (zG aN.out); have aK := zL hg aG.out; have bC := zLg hg aG.out; replace aG := zV aG.out hb; replace HB := zX1 aN.out hb; clear hb hbox hg; have eZ := bC.out; have fA := aK.out; obtain ⟨dN, dO, dP, dQ, dR, dS⟩ := zq3 aI.out))
            have bV : Qa (Kd.R (Kd.int .u8) 5 (((cB.setCell ⟨aD, 0, none⟩ (.int .i64 ((Qb aC aA).f0))).setCell ⟨aD, 1, none⟩ (.int .i64 ((Qb aC aA).f1))).setCell ⟨aD, 2, none⟩ (.int .i64 ((Qb aC aA).f2))) w.heap.size (fun _ => True) u3 bD) := ⟨by (with_reducible repeat (first | apply Kd.R_alloc | apply Kd.R_drewN | apply Kd.R_drew)); exact Kd.R_mono (Kd.R_far (p := ⟨aD, 2, none⟩) (Kd.R_far (p := ⟨aD, 1, none⟩) (Kd.R_far (p := ⟨aD, 0, none⟩) (Kd.R_types aM.out aI.out (by decide)) (fun _ hk => hk.2) (.int .i64 ((Qb aC aA).f0))) (fun _ hk => hk.2) (.int .i64 ((Qb aC aA).f1))) (fun _ hk => hk.2) (.int .i64 ((Qb aC aA).f2))) (fun _ hk => trivial)⟩
            have bW : Qa (Kd.R k77 77 (((cB.setCell ⟨aD, 0, none⟩ (.int .i64 ((Qb aC aA).f0))).setCell ⟨aD, 1, none⟩ (.int .i64 ((Qb aC aA).f1))).setCell ⟨aD, 2, none⟩ (.int .i64 ((Qb aC aA).f2))) w.heap.size (fun k_ => k_ ≠ aD) (.slice (some bI) aC.length eB) aC) := ⟨by (with_reducible repeat (first | apply Kd.R_alloc | apply Kd.R_drewN | apply Kd.R_drew)); exact Kd.R_mono (Kd.R_far (p := ⟨aD, 2, none⟩) (Kd.R_far (p := ⟨aD, 1, none⟩) (Kd.R_far (p := ⟨aD, 0, none⟩) (Kd.R_mono aJ.out (fun k_ hk => (⟨hk, hk.2⟩ : _ ∧ k_ ≠ aD))) (fun _ hk => hk.2) (.int .i64 ((Qb aC aA).f0))) (fun _ hk => hk.2) (.int .i64 ((Qb aC aA).f1))) (fun _ hk => hk.2) (.int .i64 ((Qb aC aA).f2))) (fun _ hk => hk.1.2)⟩
            have bX : Qa ((((cB.setCell ⟨aD, 0, none⟩ (.int .i64 ((Qb aC aA).f0))).setCell ⟨aD, 1, none⟩ (.int .i64 ((Qb aC aA).f1))).setCell ⟨aD, 2, none⟩ (.int .i64 ((Qb aC aA).f2))).heap[aU]? = some (.cells #[.int .i64 0, .string (⟨#[]⟩ : ByteArray)] 25 (0, 0))) := ⟨zk3 aG.out aK.out aK.out aK.out⟩
            have bY : Qa ((((cB.setCell ⟨aD, 0, none⟩ (.int .i64 ((Qb aC aA).f0))).setCell ⟨aD, 1, none⟩ (.int .i64 ((Qb aC aA).f1))).setCell ⟨aD, 2, none⟩ (.int .i64 ((Qb aC aA).f2))).heap[aD]? = some (.cells #[.int .i64 ((Qb aC aA).f0), .int .i64 ((Qb aC aA).f1), .int .i64 ((Qb aC aA).f2)] 77 (0, 0))) := ⟨zk0 aI.out⟩
            have bZ : Qa (Below w.heap.size w (((cB.setCell ⟨aD, 0, none⟩ (.int .i64 ((Qb aC aA).f0))).setCell ⟨aD, 1, none⟩ (.int .i64 ((Qb aC aA).f1))).setCell ⟨aD, 2, none⟩ (.int .i64 ((Qb aC aA).f2)))) := ⟨zG2 aN.out aV.out⟩
            (try clear aM)
            (try clear aJ)
            (try clear aG)
            (try clear aI)
            (try clear HB)
            generalize (((cB.setCell ⟨aD, 0, none⟩ (.int .i64 ((Qb aC aA).f0))).setCell ⟨aD, 1, none⟩ (.int .i64 ((Qb aC aA).f1))).setCell ⟨aD, 2, none⟩ (.int .i64 ((Qb aC aA).f2))) = gB at bV bW bX bY bZ ⊢
            have aM := bV
            have aJ := bW
            have aG := bX
            have aI := bY
            have HB := bZ
            clear bV bW bX bY bZ
            replace aM := Qa.mk (Kd.R_drew aM.out)
            replace aJ := Qa.mk (Kd.R_drew aJ.out)
            replace aG := Qa.mk (Qk aG.out)
            replace aI := Qa.mk (Qk aI.out)
            replace HB := Qa.mk (Qo HB.out)
            have aW : 0 ≤ (((Qb aC aA).f0) : Int) := zA
            have aX : 0 ≤ (((Qb aC aA).f1) : Int) := zA
            have aY : 0 ≤ (((Qb aC aA).f2) : Int) := zA
            have aZ : (((Qb aC aA).f0) : Int) < 7 := zA
            have bA : (((Qb aC aA).f1) : Int) < 7 := zA
            have bB : (((Qb aC aA).f2) : Int) < 7 := zA
            have bJ := dL.out
            have bK : decide (0 ≤ ((1 + ((Qb aC aA).f0) * 49 + ((Qb aC aA).f1) * 7 + ((Qb aC aA).f2)) : Int)) = true := decide_eq_true (by omega)
            have bL : decide ((1 + ((Qb aC aA).f0) * 49 + ((Qb aC aA).f1) * 7 + ((Qb aC aA).f2)) < (l0.length : Int)) = true := decide_eq_true (by omega)
            clear bJ
            have bE : 0 ≤ ((1 + ((Qb aC aA).f0) * 49 + ((Qb aC aA).f1) * 7 + ((Qb aC aA).f2)) : Int) := zA
            have bF : (1 + ((Qb aC aA).f0) * 49 + ((Qb aC aA).f1) * 7 + ((Qb aC aA).f2)) < (l0.length : Int) := zA
            obtain ⟨bM, e304, aH⟩ := Kd.at_int dK.out (1 + ((Qb aC aA).f0) * 49 + ((Qb aC aA).f1) * 7 + ((Qb aC aA).f2)) bE bF
            obtain rfl : (⟨g0, 0, none⟩ : Addr) = bM := (by injection e304)
            (first | simp only [add_plain] at aH | simp only [Ww] at aH | simp only [Addr.add, Nat.zero_add] at aH | skip)
            replace aH := (HB.out.cell (World.block_lt_of_cell? w _ aH)).trans aH
            replace bE := eq_true bE
            replace bF := eq_true bF
            clear bK bL
            clear bE bF
            rw [show ((1 + ((Qb aC aA).f0) * 49 + ((Qb aC aA).f1) * 7 + ((Qb aC aA).f2)) : Int).toNat = 1 + (((Qb aC aA).f0)).toNat * 49 + (((Qb aC aA).f1)).toNat * 7 + (((Qb aC aA).f2)).toNat from by omega] at aH
            change _ = some (Value.int .i64 (rd3 l0 ((Qb aC aA).f0) ((Qb aC aA).f1) ((Qb aC aA).f2))) at aH
            replace aW := eq_true aW
            replace aX := eq_true aX
            replace aY := eq_true aY
            replace aZ := eq_true aZ
            replace bA := eq_true bA
            replace bB := eq_true bB
            refine Xe (n := 14) (S := fun w' => w'.cell? ⟨aD, 0, none⟩ = some (.int .i64 ((Qb aC aA).f0)) ∧ w'.cell? ⟨aD, 1, none⟩ = some (.int .i64 ((Qb aC aA).f1)) ∧ w'.cell? ⟨aD, 2, none⟩ = some (.int .i64 ((Qb aC aA).f2)) ∧ w'.cell? ⟨g0, 1 + ((Qb aC aA).f0).toNat * 49 + ((Qb aC aA).f1).toNat * 7 + ((Qb aC aA).f2).toNat, none⟩ = some (.int .i64 (rd3 l0 ((Qb aC aA).f0) ((Qb aC aA).f1) ((Qb aC aA).f2)))) (ds := []) #[false, false, false, false, false, false, false, false, false, false, false, false, false, false] (by kernel_rfl) rfl rfl ⟨(Qj aI.out 0).trans rfl, (Qj aI.out 1).trans rfl, (Qj aI.out 2).trans rfl, aH⟩ (fun hHeld => ?_); refine J6 Qy.tab5 Qy.bits5 (fun HT_ HW_ => ?_)
            generalize gB.drew = gL at aM aJ aG aI HB aH hHeld ⊢
            refine zP 0 (some 16) rfl rfl ?_
            refine zP 1 (some 17) rfl rfl ?_
            refine zP 3 (some 19) rfl rfl ?_
            refine zP 5 (some 21) rfl rfl ?_
            refine zP 7 (some 23) rfl rfl ?_
            refine zP 8 (some 24) rfl rfl ?_
            refine zY4 2 (some 18) rfl rfl hHeld ?_
            refine zP 9 (some 25) rfl rfl ?_
            refine zY4 4 (some 20) rfl rfl hHeld ?_
            refine zP 10 (some 26) rfl rfl ?_
            refine zY4 6 (some 22) rfl rfl hHeld ?_
            refine zP 11 (some 27) rfl rfl ?_
            refine zY4 12 (some 28) rfl rfl hHeld ?_
            refine zP 13 (some 29) rfl rfl ?_
            refine Yp (Zu HT_.out (by kernel_rfl)) ?_
            try go_wp2_with (first | ((with_reducible refine Zy (b := .append) (xs := #[.tmp 30, .tmp 31]) rfl ?_); at_builtin; refine Kd.R_append (Kd.int .u8) (w0 := w) w.heap.size rfl (.tmp 30) (.tmp 31) 22 5 (.int .u8 0) 1 rfl Tryz.underlying22 info5 rfl (by decide) (by omega) u3 bD 43 [.int .u8 43] (fun _ => True) (fun _ => False) rfl rfl ?aP (fun _ hk => hk.elim) ?aF ?aO ?aB ?aS ?aL ?_; (case aP => exact rfl); (case aB => exact (zG2 aN.out aV.out)); (case aF => exact (fun _ _ => trivial)); (case aO => exact (zR aM.out)); (case aS => exact (Q6 (zG2 aN.out aV.out))); (case aL => have := dC.out; omega); intro gD gM ho hb hg hat; rw [← dD.out] at ho; replace aJ := Qa.mk (Kd.R_over' (zR aJ.out) (Kd.R_typed (zR aM.out)) (by decide) hg); replace aG := Qa.mk (Vl (g := aU) (o := .cells #[.int .i64 0, .string (⟨#[]⟩ : ByteArray)] 25 (0, 0)) (zK aG.out) hg (Kd.R_ne aM.out aG.out (by decide))); replace aI := Qa.mk (Vl (g := aD) (o := .cells #[.int .i64 ((Qb aC aA).f0), .int .i64 ((Qb aC aA).f1), .int .i64 ((Qb aC aA).f2)] 77 (0, 0)) (zK aI.out) hg (Kd.R_ne aM.out aI.out (by decide))); have dF := Qa.mk (ho); replace HB := Qa.mk (hb); clear aM; clear ho hb hg hat))
            refine Handed.intro k1 ?measure ?_
            rotate_left
            go_step
            (repeat apply Exists.intro)
            refine ⟨?rel, ?fr⟩
            case fr => with_reducible rfl
            case measure => have := dM.out; omega
            case rel => exact ⟨(eF), (wrap64 (aA + 1)), zF, H', ⟨by have := dM.out; omega⟩, ⟨zR dF.out⟩, ⟨zR (Kd.R_mono aJ.out (fun _ hk => trivial))⟩, ⟨zK aG.out⟩, ⟨zG2 aN.out aV.out⟩⟩
           exact absurd H (by simp)
          have dB : decide (0 < (rd3 l0 ((Qb aC aA).f0) ((Qb aC aA).f1) ((Qb aC aA).f2))) = false := decide_eq_false c15
          clear c15
          replace H := X8 H
          rcases H with ⟨c23, H⟩ | ⟨c23, H⟩
          ·have dG := Qa.mk c23
           clear c23
           generalize bU : (bD ++ [45] : List Int) = eG at H
           have dH := Qa.mk bU.symm
           clear bU
           have H' := Qa.mk H; clear H
           have bG : 0 ≤ (aA : Int) := zA
           have bH : aA < (aC.length : Int) := zA
           obtain ⟨bI, e302, bP, bQ, bR⟩ := Ky (Kd.R_reads' aJ.out).2.2 aA bG bH
           cases e302
           replace bG := eq_true bG
           replace bH := eq_true bH
           try go_wp2_with (first | ((with_reducible refine Qm (N := 5) rfl ?_); refine zBx (N := 5) #[.int .i64 0, .int .i64 0, .int .i64 0] 77 ?_; intro aD hg cK hbox hb; replace aM := zW aM.out hb; replace aJ := Qa.mk (Kd.R_below (Kd.R_elderB (zR aJ.out) aD (Nat.le_of_eq hg.symm)) hb); have aI := Qa.mk (hbox); have dE := zSg hg (zG aN.out); have aV := zSg hg (zG aN.out); have aK := zL hg aG.out; have bC := zLg hg aG.out; replace aG := zV aG.out hb; replace HB := zX1 aN.out hb; clear hb hbox hg; have fB := bC.out; have fC := aK.out; obtain ⟨dU, dV, dW, dX, dY, dZ⟩ := zq3 aI.out))
           have bV : Qa (Kd.R (Kd.int .u8) 5 (((cK.setCell ⟨aD, 0, none⟩ (.int .i64 ((Qb aC aA).f0))).setCell ⟨aD, 1, none⟩ (.int .i64 ((Qb aC aA).f1))).setCell ⟨aD, 2, none⟩ (.int .i64 ((Qb aC aA).f2))) w.heap.size (fun _ => True) u3 bD) := ⟨by (with_reducible repeat (first | apply Kd.R_alloc | apply Kd.R_drewN | apply Kd.R_drew)); exact Kd.R_mono (Kd.R_far (p := ⟨aD, 2, none⟩) (Kd.R_far (p := ⟨aD, 1, none⟩) (Kd.R_far (p := ⟨aD, 0, none⟩) (Kd.R_types aM.out aI.out (by decide)) (fun _ hk => hk.2) (.int .i64 ((Qb aC aA).f0))) (fun _ hk => hk.2) (.int .i64 ((Qb aC aA).f1))) (fun _ hk => hk.2) (.int .i64 ((Qb aC aA).f2))) (fun _ hk => trivial)⟩
           have bW : Qa (Kd.R k77 77 (((cK.setCell ⟨aD, 0, none⟩ (.int .i64 ((Qb aC aA).f0))).setCell ⟨aD, 1, none⟩ (.int .i64 ((Qb aC aA).f1))).setCell ⟨aD, 2, none⟩ (.int .i64 ((Qb aC aA).f2))) w.heap.size (fun k_ => k_ ≠ aD) (.slice (some bI) aC.length eB) aC) := ⟨by (with_reducible repeat (first | apply Kd.R_alloc | apply Kd.R_drewN | apply Kd.R_drew)); exact Kd.R_mono (Kd.R_far (p := ⟨aD, 2, none⟩) (Kd.R_far (p := ⟨aD, 1, none⟩) (Kd.R_far (p := ⟨aD, 0, none⟩) (Kd.R_mono aJ.out (fun k_ hk => (⟨hk, hk.2⟩ : _ ∧ k_ ≠ aD))) (fun _ hk => hk.2) (.int .i64 ((Qb aC aA).f0))) (fun _ hk => hk.2) (.int .i64 ((Qb aC aA).f1))) (fun _ hk => hk.2) (.int .i64 ((Qb aC aA).f2))) (fun _ hk => hk.1.2)⟩
           have bX : Qa ((((cK.setCell ⟨aD, 0, none⟩ (.int .i64 ((Qb aC aA).f0))).setCell ⟨aD, 1, none⟩ (.int .i64 ((Qb aC aA).f1))).setCell ⟨aD, 2, none⟩ (.int .i64 ((Qb aC aA).f2))).heap[aU]? = some (.cells #[.int .i64 0, .string (⟨#[]⟩ : ByteArray)] 25 (0, 0))) := ⟨zk3 aG.out aK.out aK.out aK.out⟩
           have bY : Qa ((((cK.setCell ⟨aD, 0, none⟩ (.int .i64 ((Qb aC aA).f0))).setCell ⟨aD, 1, none⟩ (.int .i64 ((Qb aC aA).f1))).setCell ⟨aD, 2, none⟩ (.int .i64 ((Qb aC aA).f2))).heap[aD]? = some (.cells #[.int .i64 ((Qb aC aA).f0), .int .i64 ((Qb aC aA).f1), .int .i64 ((Qb aC aA).f2)] 77 (0, 0))) := ⟨zk0 aI.out⟩
           have bZ : Qa (Below w.heap.size w (((cK.setCell ⟨aD, 0, none⟩ (.int .i64 ((Qb aC aA).f0))).setCell ⟨aD, 1, none⟩ (.int .i64 ((Qb aC aA).f1))).setCell ⟨aD, 2, none⟩ (.int .i64 ((Qb aC aA).f2)))) := ⟨zG2 aN.out aV.out⟩
           (try clear aM)
           (try clear aJ)
           (try clear aG)
           (try clear aI)
           (try clear HB)
           generalize (((cK.setCell ⟨aD, 0, none⟩ (.int .i64 ((Qb aC aA).f0))).setCell ⟨aD, 1, none⟩ (.int .i64 ((Qb aC aA).f1))).setCell ⟨aD, 2, none⟩ (.int .i64 ((Qb aC aA).f2))) = gF at bV bW bX bY bZ ⊢
           have aM := bV
           have aJ := bW
           have aG := bX
           have aI := bY
           have HB := bZ
           clear bV bW bX bY bZ
           replace aM := Qa.mk (Kd.R_drew aM.out)
           replace aJ := Qa.mk (Kd.R_drew aJ.out)
           replace aG := Qa.mk (Qk aG.out)
           replace aI := Qa.mk (Qk aI.out)
           replace HB := Qa.mk (Qo HB.out)
           have aW : 0 ≤ (((Qb aC aA).f0) : Int) := zA
           have aX : 0 ≤ (((Qb aC aA).f1) : Int) := zA
           have aY : 0 ≤ (((Qb aC aA).f2) : Int) := zA
           have aZ : (((Qb aC aA).f0) : Int) < 7 := zA
           have bA : (((Qb aC aA).f1) : Int) < 7 := zA
           have bB : (((Qb aC aA).f2) : Int) < 7 := zA
           have bJ := dL.out
           have bK : decide (0 ≤ ((1 + ((Qb aC aA).f0) * 49 + ((Qb aC aA).f1) * 7 + ((Qb aC aA).f2)) : Int)) = true := decide_eq_true (by omega)
           have bL : decide ((1 + ((Qb aC aA).f0) * 49 + ((Qb aC aA).f1) * 7 + ((Qb aC aA).f2)) < (l0.length : Int)) = true := decide_eq_true (by omega)
           clear bJ
           have bE : 0 ≤ ((1 + ((Qb aC aA).f0) * 49 + ((Qb aC aA).f1) * 7 + ((Qb aC aA).f2)) : Int) := zA
           have bF : (1 + ((Qb aC aA).f0) * 49 + ((Qb aC aA).f1) * 7 + ((Qb aC aA).f2)) < (l0.length : Int) := zA
           obtain ⟨bM, e304, aH⟩ := Kd.at_int dK.out (1 + ((Qb aC aA).f0) * 49 + ((Qb aC aA).f1) * 7 + ((Qb aC aA).f2)) bE bF
           obtain rfl : (⟨g0, 0, none⟩ : Addr) = bM := (by injection e304)
           (first | simp only [add_plain] at aH | simp only [Ww] at aH | simp only [Addr.add, Nat.zero_add] at aH | skip)
           replace aH := (HB.out.cell (World.block_lt_of_cell? w _ aH)).trans aH
           replace bE := eq_true bE
           replace bF := eq_true bF
           clear bK bL
           clear bE bF
           rw [show ((1 + ((Qb aC aA).f0) * 49 + ((Qb aC aA).f1) * 7 + ((Qb aC aA).f2)) : Int).toNat = 1 + (((Qb aC aA).f0)).toNat * 49 + (((Qb aC aA).f1)).toNat * 7 + (((Qb aC aA).f2)).toNat from by omega] at aH
           change _ = some (Value.int .i64 (rd3 l0 ((Qb aC aA).f0) ((Qb aC aA).f1) ((Qb aC aA).f2))) at aH
           replace aW := eq_true aW
           replace aX := eq_true aX
           replace aY := eq_true aY
           replace aZ := eq_true aZ
           replace bA := eq_true bA
           replace bB := eq_true bB
           refine Xe (n := 14) (S := fun w' => w'.cell? ⟨aD, 0, none⟩ = some (.int .i64 ((Qb aC aA).f0)) ∧ w'.cell? ⟨aD, 1, none⟩ = some (.int .i64 ((Qb aC aA).f1)) ∧ w'.cell? ⟨aD, 2, none⟩ = some (.int .i64 ((Qb aC aA).f2)) ∧ w'.cell? ⟨g0, 1 + ((Qb aC aA).f0).toNat * 49 + ((Qb aC aA).f1).toNat * 7 + ((Qb aC aA).f2).toNat, none⟩ = some (.int .i64 (rd3 l0 ((Qb aC aA).f0) ((Qb aC aA).f1) ((Qb aC aA).f2)))) (ds := []) #[false, false, false, false, false, false, false, false, false, false, false, false, false, false] (by kernel_rfl) rfl rfl ⟨(Qj aI.out 0).trans rfl, (Qj aI.out 1).trans rfl, (Qj aI.out 2).trans rfl, aH⟩ (fun hHeld => ?_); refine J6 Qy.tab5 Qy.bits5 (fun HT_ HW_ => ?_)
           generalize gF.drew = gN at aM aJ aG aI HB aH hHeld ⊢
           refine zP 0 (some 16) rfl rfl ?_
           refine zP 1 (some 17) rfl rfl ?_
           refine zP 3 (some 19) rfl rfl ?_
           refine zP 5 (some 21) rfl rfl ?_
           refine zP 7 (some 23) rfl rfl ?_
           refine zP 8 (some 24) rfl rfl ?_
           refine zY4 2 (some 18) rfl rfl hHeld ?_
           refine zP 9 (some 25) rfl rfl ?_
           refine zY4 4 (some 20) rfl rfl hHeld ?_
           refine zP 10 (some 26) rfl rfl ?_
           refine zY4 6 (some 22) rfl rfl hHeld ?_
           refine zP 11 (some 27) rfl rfl ?_
           refine zY4 12 (some 28) rfl rfl hHeld ?_
           refine zP 13 (some 29) rfl rfl ?_
           refine Yp (Zu HT_.out (by kernel_rfl)) ?_
           try go_wp2_with (first | ((with_reducible refine Zy (b := .append) (xs := #[.tmp 33, .tmp 34]) rfl ?_); at_builtin; refine Kd.R_append (Kd.int .u8) (w0 := w) w.heap.size rfl (.tmp 33) (.tmp 34) 22 5 (.int .u8 0) 1 rfl Tryz.underlying22 info5 rfl (by decide) (by omega) u3 bD 45 [.int .u8 45] (fun _ => True) (fun _ => False) rfl rfl ?aP (fun _ hk => hk.elim) ?aF ?aO ?aB ?aS ?aL ?_; (case aP => exact rfl); (case aB => exact (zG2 aN.out aV.out)); (case aF => exact (fun _ _ => trivial)); (case aO => exact (zR aM.out)); (case aS => exact (Q6 (zG2 aN.out aV.out))); (case aL => have := dG.out; omega); intro gG gP ho hb hg hat; rw [← dH.out] at ho; replace aJ := Qa.mk (Kd.R_over' (zR aJ.out) (Kd.R_typed (zR aM.out)) (by decide) hg); replace aG := Qa.mk (Vl (g := aU) (o := .cells #[.int .i64 0, .string (⟨#[]⟩ : ByteArray)] 25 (0, 0)) (zK aG.out) hg (Kd.R_ne aM.out aG.out (by decide))); replace aI := Qa.mk (Vl (g := aD) (o := .cells #[.int .i64 ((Qb aC aA).f0), .int .i64 ((Qb aC aA).f1), .int .i64 ((Qb aC aA).f2)] 77 (0, 0)) (zK aI.out) hg (Kd.R_ne aM.out aI.out (by decide))); have dI := Qa.mk (ho); replace HB := Qa.mk (hb); clear aM; clear ho hb hg hat))
           refine Handed.intro k1 ?measure ?_
           rotate_left
           go_step
           (repeat apply Exists.intro)
           refine ⟨?rel, ?fr⟩
           case fr => with_reducible rfl
           case measure => have := dM.out; omega
           case rel => exact ⟨(eG), (wrap64 (aA + 1)), zF, H', ⟨by have := dM.out; omega⟩, ⟨zR dI.out⟩, ⟨zR (Kd.R_mono aJ.out (fun _ hk => trivial))⟩, ⟨zK aG.out⟩, ⟨zG2 aN.out aV.out⟩⟩
          exact absurd H (by simp)
         exact absurd H (by simp)
        exact absurd H (by simp)
       exact absurd H (by simp)
      exact absurd H (by simp)
     exact absurd H (by simp)
    exact absurd H (by simp)
   exact absurd H (by simp)
  exact absurd H (by simp)
 simp only [Option.some.injEq, Prod.mk.injEq] at H
 obtain ⟨rfl, rfl⟩ := H
 try go_wp2
 replace aM := Qa.mk (Kd.R_drew aM.out)
 replace aJ := Qa.mk (Kd.R_drew aJ.out)
 replace aG := Qa.mk (Qk aG.out)
 replace HB := Qa.mk (Qo HB.out)
 obtain ⟨gH, gI, fD, aT⟩ := zC0 dK.out dL.out
 have hlt_ := World.block_lt_of_cell? w _ aT
 replace aT := (HB.out.cell (World.block_lt_of_cell? w _ aT)).trans aT
 have dJ := Um (P := Tryz.prog) Tryz.underlying22 Tryz.underlying5 Tryz.underlying9 (Kd.own_of_R aM.out)
 refine Xe (n := 8) (S := fun w' => w'.cell? ⟨g0, 0, none⟩ = some (.int .i64 (rd l0 0)) ∧ (convert 22 9 u3).run Tryz.prog w' = .ok (.string (strOfNums bD)) w') (ds := []) #[false, false, false, false, false, false, false, false] (by kernel_rfl) rfl rfl ⟨aT, dJ⟩ (fun hHeld => ?_); refine J6 Qy.tab9 Qy.bits9 (fun HT_ HW_ => ?_)
 generalize wr.drew = fE at aM aJ aG HB aT hHeld ⊢
 refine zP 0 (some 37) rfl rfl ?_
 refine zP 1 (some 38) rfl rfl ?_
 refine zP 2 (some 39) rfl rfl ?_
 refine zP 4 (some 41) rfl rfl ?_
 refine zY2 5 (some 42) rfl rfl hHeld ?_
 refine zY2 3 (some 40) rfl rfl hHeld ?_
 refine zP 6 (some 43) rfl rfl ?_
 refine zU 7 none rfl rfl (fun K hK => ?_)
 have gJ : fE.cell? ⟨aU, 0, none⟩ = some (.int .i64 0) := (Qj aG.out 0).trans rfl
 have fF := J8 aG.out 0
 have gK : fE.cell? ⟨aU, 1, none⟩ = some (.string (⟨#[]⟩ : ByteArray)) := (Qj aG.out 1).trans rfl
 have fG := J8 aG.out 1
 refine jA2 (w1 := ?_) (by rfl) rfl ?_ ?_
 rotate_left
 ·go_simp
  rfl
 have hne_ : ∀ q_ : Nat, ¬ (⟨aU, q_, none⟩ : Addr) = ⟨g0, 0, none⟩ := fun q_ e_ => by
  have gQ := aN.out
  have gT : aU = g0 := congrArg Addr.block e_
  have gU : g0 < w.heap.size := hlt_
  omega
 refine hK.out _ _ ⟨by rw [World.cell?_setCell_other _ _ _ _ (hne_ _), World.cell?_setCell_other _ _ _ _ (hne_ _)]; exact aT, Um (P := Tryz.prog) Tryz.underlying22 Tryz.underlying5 Tryz.underlying9 (Kd.own_of_R (Kd.R_far (p := ⟨aU, 1, none⟩) (Kd.R_far (p := ⟨aU, 0, none⟩) (Kd.R_types aM.out aG.out (by decide)) (fun _ hk => hk.2) _) (fun _ hk => hk.2) _))⟩ (fun hHeld => ?_)
 clear hK K
 refine Yp (Zu HT_.out (by kernel_rfl)) ?_
 try go_wp2
 refine bodyPost_ret (results_cell_row rfl _ _ aU 25 #[.int .i64 (rd l0 0), .string (strOfNums bD)] (0, 0) _ rfl (zk0 aG.out) Tryz.underlying25 rfl (by kernel_rfl)) rfl ?_
 exact ⟨zE, zG aN.out⟩
def Js.l0 : Nat → List (S48) → List Int → List (S77) → Int → Int → Option (Int × ByteArray × Bool)
 | 0, _, _, _, _, _ => none
 | k + 1, x0, x4, aC, x20, aA => if aA < x20 then (if 0 ≤ aA then (if aA < (aC.length : Int) then (if 0 ≤ ((Qb aC aA).f0) then (if ((Qb aC aA).f0) < (x0.length : Int) then (if 0 ≤ ((Qb aC aA).f1) then (if ((Qb aC aA).f1) < (x0.length : Int) then (if 0 ≤ ((Qb aC aA).f2) then (if ((Qb aC aA).f2) < (x0.length : Int) then ((Xa.f ((Qp x0 ((Qb aC aA).f0)).f0) ((Qp x0 ((Qb aC aA).f0)).f1) ((Qp x0 ((Qb aC aA).f1)).f0) ((Qp x0 ((Qb aC aA).f1)).f1) ((Qp x0 ((Qb aC aA).f2)).f0) ((Qp x0 ((Qb aC aA).f2)).f1)).bind fun aG => (if x4.length = 344 then ((Jd.f x4 ((Qb aC aA).f0) ((Qb aC aA).f1) ((Qb aC aA).f2) aG).bind fun aH => (Js.l0 k x0 aH aC x20 (wrap64 (aA + 1)))) else (none))) else (none)) else (none)) else (none)) else (none)) else (none)) else (none)) else (none)) else (none)) else (if x4.length = 344 then ((Qy.f k x4).bind fun aD => (some (aD.1, aD.2, true))) else (none))
def Js.f (k : Nat) (l0 : List (S48)) : Option (Int × ByteArray × Bool) := (Q3.f k l0).bind fun aD => (if aD = true then ((some ((l0.length : Int) :: List.replicate 343 (0 : Int) : List Int)).bind fun aA => (if aA.length = 344 then ((Qn.f k (rd aA 0)).bind fun aC => (Js.l0 k l0 aA aC (aC.length : Int) 0)) else (none))) else (some (0, (⟨#[]⟩ : ByteArray), false)))
def Js.T7 : Bool × List (List Nat × List Nat) := (true, [([], []), ([], []), ([1], [1]), ([], []), ([3], [3]), ([], []), ([5], [5]), ([], []), ([], []), ([8], [8]), ([7, 9], [7, 9]), ([10], [10]), ([], []), ([], []), ([13], [13]), ([12, 14], [12, 14]), ([15], [15]), ([], []), ([], []), ([18], [18]), ([17, 19], [17, 19]), ([20], [20]), ([11, 16, 21], [11, 16, 21]), ([0, 2, 4, 6, 22, 22], [0, 2, 4, 6, 22])])
def Js.B7 : List Nat := [0, 0, 2, 0, 8, 0, 32, 0, 0, 256, 896, 1920, 0, 0, 8192, 28672, 61440, 0, 0, 262144, 917504, 1966080, 4194176, 8388607]
theorem Js.tab7 : Vv .any (opsOf Tryz.f8 7) = Js.T7 := by kernel_rfl
theorem Js.bits7 : Zz Js.T7.2 Js.B7 = true := by kernel_rfl
theorem jLk {p q p0 p1 : Prop} (g : p) (g0 : p0) (g1 : p1) (h : p → p0 → p1 → q := by intro zg_ aA aC; repeat (first | (with_reducible first | exact zg_ | apply Qv | apply Qr | apply Qo | refine Qf ?_ aA | refine Qf ?_ aC) | exact zg_)) : q := h g g0 g1
set_option maxHeartbeats 8000000 in
set_option maxRecDepth 100000 in
theorem Js.calls (k : Nat) (A0 : Option Addr) (c0 : Nat) (l0 : List (S48)) (r1 : Int) (r2 : ByteArray) (r3 : Bool) (w : World) (hr0 : Kd.C k48 w A0 l0.length l0) (hc0 : l0.length ≤ c0) (h : Js.f k l0 = some (r1, r2, r3)) :
  Calls Tryz.prog 8 #[.slice A0 l0.length c0] w fun e w' => e = .returned (.tuple #[.agg #[.int .i64 r1, .string r2], .bool r3]) ∧ Below w.heap.size w w' := by
 have gK := Tryz.underlying25
 have gL := Tryz.underlying77
 have gM := Tryz.underlying48
 have gN := Tryz.underlying74
 have dA := Qa.mk hr0
 have fF := Qa.mk hc0
 clear hr0 hc0
 have HB := Qa.mk (Below.refl w.heap.size w)
 have H := h
 unfold Js.f at H
 clear h
 obtain ⟨eO, A2, H⟩ := zO H
 by_cases c3 : eO = true
 ·subst c3
  replace H := (if_pos rfl).symm.trans H
  obtain ⟨bJ, dB, H⟩ := zs H
  replace H := Xt H
  rcases H with ⟨eP, eQ, H⟩ | ⟨c4, H⟩
  ·obtain ⟨aC, A5, H⟩ := zO H
   have H' := Qa.mk H; clear H
   go_enter Tryz.func8, Tryz.ntmps8
   go_wp2_with (first | ((with_reducible refine Qm (N := 2) rfl ?_); refine zBx (N := 2) #[.int .i64 0, .string (⟨#[]⟩ : ByteArray)] 25 ?_; intro bK hg w6 hbox hb; have aD := Qa.mk (hbox); have dC := zS hg; have aI := zS hg; replace HB := zX hb; clear hb hbox hg) | ((with_reducible refine Qd (f := 45) rfl ?_); refine zD (some 8) Tryz.func45 #[.slice A0 l0.length c0] ((Q3.calls k _ _ l0 true _ ?bG ?bH A2.out).mono ?_); (case bG => exact zc (Kd.C_below dA.out HB.out)); (case bH => exact fF.out); rintro e w7 ⟨rfl, hb⟩; refine ⟨_, rfl, ?_⟩; replace aD := zV aD.out hb; replace HB := zX1 aI.out hb; (try clear hb)) | ((with_reducible refine Qm (N := 13) rfl ?_); refine Vu (T := 74) (s := 12) (n := (l0.length : Int)) rfl rfl ?hx jAf ?_; (case hx => first | rfl | (go_simp; done) | (go_simp; rfl))) | ((with_reducible refine Qm (N := 14) rfl ?_); refine Kn (n := (l0.length : Int)) (T := 74) (N := 14) ?hg ?hd ?hr w.heap.size ?hs ?_; (case hd => rfl); (case hg => rfl); (case hr => first | (go_simp; done) | (go_simp; rfl)); (case hs => exact (Q6 (zG aI.out))); intro gP w8 ho hb; rw [← dB.out] at ho; replace aD := zV aD.out hb; have bL := Qa.mk (ho); replace HB := zX1 aI.out hb; clear hb ho; obtain ⟨bR, dM, fG, fH, gQ, gY, fI⟩ := Kd.R_form bL.out (by have hl_ := Nat.le_of_eq (Eq.symm (zA : bJ.length = 344)); omega); (first | cases fG | (injection fG with ea_ en_ ec_; (first | subst ea_ | (injection ea_ with ea_; subst ea_)); subst ec_; clear en_)); have gZ := Qa.mk fH; have iA := Qa.mk fI; clear fH gQ fI; have dD := (zA : bJ.length = 344); have dE : decide (0 < (bJ.length : Int)) = true := decide_eq_true (by omega); clear dD; have bO : 0 ≤ (0 : Int) := (by omega); have bP : 0 < (bJ.length : Int) := zA; obtain ⟨dF, e317, aN⟩ := Kd.at_int (Kd.R_reads' bL.out).2.2 0 bO bP; obtain rfl : (⟨bR, 0, none⟩ : Addr) = dF := (by injection e317); (first | simp only [add_plain] at aN | simp only [Ww] at aN | simp only [Addr.add, Nat.zero_add] at aN | skip); have fJ : (0 < bJ.length) = True := eq_true (by omega); (try rw [show ((0 : Int)).toNat = 0 from rfl] at aN); (try rw [Addr.add_zero'] at aN); replace bO := eq_true bO; replace bP := eq_true bP; clear dE) | ((with_reducible refine Qd (f := 55) rfl ?_); refine zD (some 19) Tryz.func55 _ ((Qn.calls k (rd bJ 0) aC _ A5.out).mono ?_); rintro e iB ⟨gT, rfl, ho0, hb⟩; refine ⟨_, rfl, ?_⟩; replace bL := zW bL.out hb; have bQ := Qa.mk (Kd.R_lower ho0 (Q6 (zG aI.out))); replace aD := zV aD.out hb; replace HB := zX1 aI.out hb; (try clear hb); (try clear ho0); obtain ⟨eU, dG, eX⟩ := Kd.R_slice bQ.out; subst eX))
   go_loopg [21] k (fun kq v21 w' => ∃ (bI : List Int) (aA : Int), v21 = .int .i64 aA ∧ Qa (Js.l0 kq l0 bI aC (aC.length : Int) aA = some (r1, r2, r3)) ∧ Qa (kq ≤ k) ∧ Qa (Kd.R (Kd.int .i64) 74 w' w.heap.size (fun _ => True) (.slice (some ⟨bR, 0, none⟩) bJ.length dM) bI) ∧ Qa (Kd.R k77 77 w' w.heap.size (fun _ => True) (.slice eU aC.length dG) aC) ∧ Qa (w'.heap[bK]? = some (.cells #[.int .i64 0, .string (⟨#[]⟩ : ByteArray)] 25 (0, 0))) ∧ Qa (Below w.heap.size w w'))
   case atStart => exact ⟨(bJ), (0), zF, H', ⟨Nat.le_refl _⟩, ⟨zR bL.out⟩, ⟨zR bQ.out⟩, ⟨zK aD.out⟩, ⟨zG aI.out⟩⟩
   case round =>
   clear H'
   try clear c3
   try clear c4
   try clear eP
   try clear eQ
   try clear aN
   try clear bO
   try clear bP
   obtain ⟨bI, aA, rfl, HA, fK, aK, aJ, aD, HB⟩ := hrel
   have bF := (Kd.R_reads' aK.out).1
   rw [bF] at aK
   (try simp only [bF])
   (try simp only [bF] at aD)
   (try simp only [bF] at aJ)
   cases gk with
   | zero => exact absurd HA.out (by simp [Js.l0])
   | succ k1 =>
   have H := HA.out
   clear HA
   simp only [Js.l0] at H
   replace H := Xr H
   rcases H with ⟨dH, H⟩ | ⟨dH, H⟩
   ·replace H := J5 H
    rcases H with ⟨fM, H⟩ | ⟨c13, H⟩
    ·replace H := J5 H
     rcases H with ⟨fO, H⟩ | ⟨c14, H⟩
     ·replace H := J5 H
      rcases H with ⟨fP, H⟩ | ⟨c15, H⟩
      ·replace H := J5 H
       rcases H with ⟨fQ, H⟩ | ⟨c16, H⟩
       ·replace H := J5 H
        rcases H with ⟨fT, H⟩ | ⟨c17, H⟩
        ·replace H := J5 H
         rcases H with ⟨fU, H⟩ | ⟨c18, H⟩
         ·replace H := J5 H
          rcases H with ⟨fV, H⟩ | ⟨c19, H⟩
          ·replace H := J5 H
           rcases H with ⟨fZ, H⟩ | ⟨c20, H⟩
           ·obtain ⟨bS, gU, H⟩ := zO H
            replace H := Xt H
            rcases H with ⟨gB, gD, H⟩ | ⟨iC, H⟩
            ·obtain ⟨dI, gV, H⟩ := zO H
             have H' := Qa.mk H; clear H
             have bT : 0 ≤ (aA : Int) := zA
             have bU : aA < (aC.length : Int) := zA
             obtain ⟨dJ, e321, dN, dO, dP⟩ := Ky (Kd.R_reads' aJ.out).2.2 aA bT bU
             cases e321
             replace bT := eq_true bT
             replace bU := eq_true bU
             try go_wp2_with (first | ((with_reducible refine Qm (N := 6) rfl ?_); refine zBx (N := 6) #[.int .i64 0, .int .i64 0, .int .i64 0] 77 ?_; intro aG hg cZ hbox hb; replace aK := zW aK.out hb; replace aJ := Qa.mk (Kd.R_below (Kd.R_elderB (zR aJ.out) aG (Nat.le_of_eq hg.symm)) hb); have aH := Qa.mk (hbox); have gF := zSg hg (zG aI.out); have bM := zSg hg (zG aI.out); have aQ := zL hg aD.out; have bN := zLg hg aD.out; replace aD := zV aD.out hb; replace HB := zX1 aI.out hb; clear hb hbox hg; have gG := bN.out; have gH := aQ.out; obtain ⟨dQ, dR, dS, dU, dV, dW⟩ := zq3 aH.out))
             have eY : Qa (Kd.R (Kd.int .i64) 74 (((cZ.setCell ⟨aG, 0, none⟩ (.int .i64 ((Qb aC aA).f0))).setCell ⟨aG, 1, none⟩ (.int .i64 ((Qb aC aA).f1))).setCell ⟨aG, 2, none⟩ (.int .i64 ((Qb aC aA).f2))) w.heap.size (fun _ => True) (.slice (some ⟨bR, 0, none⟩) bI.length dM) bI) := ⟨by (with_reducible repeat (first | apply Kd.R_alloc | apply Kd.R_drewN | apply Kd.R_drew)); exact Kd.R_mono (Kd.R_far (p := ⟨aG, 2, none⟩) (Kd.R_far (p := ⟨aG, 1, none⟩) (Kd.R_far (p := ⟨aG, 0, none⟩) (Kd.R_types aK.out aH.out (by decide)) (fun _ hk => hk.2) (.int .i64 ((Qb aC aA).f0))) (fun _ hk => hk.2) (.int .i64 ((Qb aC aA).f1))) (fun _ hk => hk.2) (.int .i64 ((Qb aC aA).f2))) (fun _ hk => trivial)⟩
             have eZ : Qa (Kd.R k77 77 (((cZ.setCell ⟨aG, 0, none⟩ (.int .i64 ((Qb aC aA).f0))).setCell ⟨aG, 1, none⟩ (.int .i64 ((Qb aC aA).f1))).setCell ⟨aG, 2, none⟩ (.int .i64 ((Qb aC aA).f2))) w.heap.size (fun k_ => k_ ≠ aG) (.slice (some dJ) aC.length dG) aC) := ⟨by (with_reducible repeat (first | apply Kd.R_alloc | apply Kd.R_drewN | apply Kd.R_drew)); exact Kd.R_mono (Kd.R_far (p := ⟨aG, 2, none⟩) (Kd.R_far (p := ⟨aG, 1, none⟩) (Kd.R_far (p := ⟨aG, 0, none⟩) (Kd.R_mono aJ.out (fun k_ hk => (⟨hk, hk.2⟩ : _ ∧ k_ ≠ aG))) (fun _ hk => hk.2) (.int .i64 ((Qb aC aA).f0))) (fun _ hk => hk.2) (.int .i64 ((Qb aC aA).f1))) (fun _ hk => hk.2) (.int .i64 ((Qb aC aA).f2))) (fun _ hk => hk.1.2)⟩
             have fA : Qa ((((cZ.setCell ⟨aG, 0, none⟩ (.int .i64 ((Qb aC aA).f0))).setCell ⟨aG, 1, none⟩ (.int .i64 ((Qb aC aA).f1))).setCell ⟨aG, 2, none⟩ (.int .i64 ((Qb aC aA).f2))).heap[bK]? = some (.cells #[.int .i64 0, .string (⟨#[]⟩ : ByteArray)] 25 (0, 0))) := ⟨zk3 aD.out aQ.out aQ.out aQ.out⟩
             have fB : Qa ((((cZ.setCell ⟨aG, 0, none⟩ (.int .i64 ((Qb aC aA).f0))).setCell ⟨aG, 1, none⟩ (.int .i64 ((Qb aC aA).f1))).setCell ⟨aG, 2, none⟩ (.int .i64 ((Qb aC aA).f2))).heap[aG]? = some (.cells #[.int .i64 ((Qb aC aA).f0), .int .i64 ((Qb aC aA).f1), .int .i64 ((Qb aC aA).f2)] 77 (0, 0))) := ⟨zk0 aH.out⟩
             have fC : Qa (Below w.heap.size w (((cZ.setCell ⟨aG, 0, none⟩ (.int .i64 ((Qb aC aA).f0))).setCell ⟨aG, 1, none⟩ (.int .i64 ((Qb aC aA).f1))).setCell ⟨aG, 2, none⟩ (.int .i64 ((Qb aC aA).f2)))) := ⟨zG2 aI.out bM.out⟩
             (try clear aK)
             (try clear aJ)
             (try clear aD)
             (try clear aH)
             (try clear HB)
             generalize (((cZ.setCell ⟨aG, 0, none⟩ (.int .i64 ((Qb aC aA).f0))).setCell ⟨aG, 1, none⟩ (.int .i64 ((Qb aC aA).f1))).setCell ⟨aG, 2, none⟩ (.int .i64 ((Qb aC aA).f2))) = gW at eY eZ fA fB fC ⊢
             have aK := eY
             have aJ := eZ
             have aD := fA
             have aH := fB
             have HB := fC
             clear eY eZ fA fB fC
             replace aK := Qa.mk (Kd.R_drew aK.out)
             replace aJ := Qa.mk (Kd.R_drew aJ.out)
             replace aD := Qa.mk (Qk aD.out)
             replace aH := Qa.mk (Qk aH.out)
             replace HB := Qa.mk (Qo HB.out)
             have bV : 0 ≤ (((Qb aC aA).f0) : Int) := zA
             have bW : ((Qb aC aA).f0) < (l0.length : Int) := zA
             obtain ⟨aM, e323, aZ, bA⟩ := Xz dA.out ((Qb aC aA).f0) bV bW
             have aT := bA
             have aU := aZ
             cases e323
             replace aZ := (HB.out.cell (World.block_lt_of_cell? w _ aZ)).trans aZ
             replace bA := (HB.out.cell (World.block_lt_of_cell? w _ bA)).trans bA
             replace bV := eq_true bV
             replace bW := eq_true bW
             have bX : 0 ≤ (((Qb aC aA).f1) : Int) := zA
             have bY : ((Qb aC aA).f1) < (l0.length : Int) := zA
             obtain ⟨dK, fD, bB, bC⟩ := Xz dA.out ((Qb aC aA).f1) bX bY
             have aV := bC
             have aW := bB
             obtain rfl : aM = dK := (by injection fD)
             replace bB := (HB.out.cell (World.block_lt_of_cell? w _ bB)).trans bB
             replace bC := (HB.out.cell (World.block_lt_of_cell? w _ bC)).trans bC
             replace bX := eq_true bX
             replace bY := eq_true bY
             have bZ : 0 ≤ (((Qb aC aA).f2) : Int) := zA
             have cB : ((Qb aC aA).f2) < (l0.length : Int) := zA
             obtain ⟨dL, fE, bD, bE⟩ := Xz dA.out ((Qb aC aA).f2) bZ cB
             have aX := bE
             have aY := bD
             obtain rfl : aM = dL := (by injection fE)
             replace bD := (HB.out.cell (World.block_lt_of_cell? w _ bD)).trans bD
             replace bE := (HB.out.cell (World.block_lt_of_cell? w _ bE)).trans bE
             replace bZ := eq_true bZ
             replace cB := eq_true cB
             refine Xe (n := 24) (S := fun w' => w'.cell? ⟨aG, 0, none⟩ = some (.int .i64 ((Qb aC aA).f0)) ∧ w'.cell? ⟨aG, 1, none⟩ = some (.int .i64 ((Qb aC aA).f1)) ∧ w'.cell? ⟨aG, 2, none⟩ = some (.int .i64 ((Qb aC aA).f2)) ∧ w'.cell? (aM.add ((((Qb aC aA).f0)).toNat * 2)) = some (.int .i64 ((Qp l0 ((Qb aC aA).f0)).f0)) ∧ w'.cell? ⟨(aM.add ((((Qb aC aA).f0)).toNat * 2)).block, (aM.add ((((Qb aC aA).f0)).toNat * 2)).off + 1, none⟩ = some (.int .i64 ((Qp l0 ((Qb aC aA).f0)).f1)) ∧ w'.cell? (aM.add ((((Qb aC aA).f1)).toNat * 2)) = some (.int .i64 ((Qp l0 ((Qb aC aA).f1)).f0)) ∧ w'.cell? ⟨(aM.add ((((Qb aC aA).f1)).toNat * 2)).block, (aM.add ((((Qb aC aA).f1)).toNat * 2)).off + 1, none⟩ = some (.int .i64 ((Qp l0 ((Qb aC aA).f1)).f1)) ∧ w'.cell? (aM.add ((((Qb aC aA).f2)).toNat * 2)) = some (.int .i64 ((Qp l0 ((Qb aC aA).f2)).f0)) ∧ w'.cell? ⟨(aM.add ((((Qb aC aA).f2)).toNat * 2)).block, (aM.add ((((Qb aC aA).f2)).toNat * 2)).off + 1, none⟩ = some (.int .i64 ((Qp l0 ((Qb aC aA).f2)).f1))) (ds := []) #[false, false, false, false, false, false, false, false, false, false, false, false, false, false, false, false, false, false, false, false, false, false, false, false] (by kernel_rfl) rfl rfl ⟨(Qj aH.out 0).trans rfl, (Qj aH.out 1).trans rfl, (Qj aH.out 2).trans rfl, ((HB.out.cell (World.block_lt_of_cell? w _ aU)).trans aU), ((HB.out.cell (World.block_lt_of_cell? w _ aT)).trans aT), ((HB.out.cell (World.block_lt_of_cell? w _ aW)).trans aW), ((HB.out.cell (World.block_lt_of_cell? w _ aV)).trans aV), ((HB.out.cell (World.block_lt_of_cell? w _ aY)).trans aY), ((HB.out.cell (World.block_lt_of_cell? w _ aX)).trans aX)⟩ (fun hHeld => ?_); refine J6 Js.tab7 Js.bits7 (fun HT_ HW_ => ?_)
             generalize gW.drew = iD at aK aJ aD aH HB aZ bA bB bC bD bE hHeld ⊢
             refine zP 0 (some 25) rfl rfl ?_
             refine zP 1 (some 26) rfl rfl ?_
             refine zP 3 (some 28) rfl rfl ?_
             refine zP 5 (some 30) rfl rfl ?_
             refine zP 7 (some 32) rfl rfl ?_
             refine zP 8 (some 33) rfl rfl ?_
             refine zP 12 (some 37) rfl rfl ?_
             refine zP 13 (some 38) rfl rfl ?_
             refine zP 17 (some 42) rfl rfl ?_
             refine zP 18 (some 43) rfl rfl ?_
             refine zY9 2 (some 27) rfl rfl hHeld ?_
             refine zY9 4 (some 29) rfl rfl hHeld ?_
             refine zY9 6 (some 31) rfl rfl hHeld ?_
             refine zY9 9 (some 34) rfl rfl hHeld ?_
             refine zP 10 (some 35) rfl rfl ?_
             refine zY9 11 (some 36) rfl rfl hHeld ?_
             refine zY9 14 (some 39) rfl rfl hHeld ?_
             refine zP 15 (some 40) rfl rfl ?_
             refine zY9 16 (some 41) rfl rfl hHeld ?_
             refine zY9 19 (some 44) rfl rfl hHeld ?_
             refine zP 20 (some 45) rfl rfl ?_
             refine zY9 21 (some 46) rfl rfl hHeld ?_
             refine zU 22 (some 47) rfl rfl (fun K hK => ?_)
             refine X0 Tryz.func28 (by kernel_rfl) rfl #[.agg #[.int .i64 ((Qp l0 ((Qb aC aA).f0)).f0), .int .i64 ((Qp l0 ((Qb aC aA).f0)).f1)], .agg #[.int .i64 ((Qp l0 ((Qb aC aA).f1)).f0), .int .i64 ((Qp l0 ((Qb aC aA).f1)).f1)], .agg #[.int .i64 ((Qp l0 ((Qb aC aA).f2)).f0), .int .i64 ((Qp l0 ((Qb aC aA).f2)).f1)]] (by rfl) rfl rfl zM ?_
             with_reducible refine (Xa.calls ((Qp l0 ((Qb aC aA).f0)).f0) ((Qp l0 ((Qb aC aA).f0)).f1) ((Qp l0 ((Qb aC aA).f1)).f0) ((Qp l0 ((Qb aC aA).f1)).f1) ((Qp l0 ((Qb aC aA).f2)).f0) ((Qp l0 ((Qb aC aA).f2)).f1) bS _ gU.out).mono ?_
             rintro e iE ⟨rfl, hb⟩
             refine ⟨_, rfl, ?_⟩
             replace aK := zW aK.out hb
             replace aJ := zW aJ.out hb
             replace aD := zV aD.out hb
             replace aH := zV aH.out hb
             replace HB := Qa.mk (Qg (zG2 aI.out bM.out) hb)
             (try clear hb)
             refine hK.out _ _ ⟨(Qj aH.out 0).trans rfl, (Qj aH.out 1).trans rfl, (Qj aH.out 2).trans rfl, ((HB.out.cell (World.block_lt_of_cell? w _ aU)).trans aU), ((HB.out.cell (World.block_lt_of_cell? w _ aT)).trans aT), ((HB.out.cell (World.block_lt_of_cell? w _ aW)).trans aW), ((HB.out.cell (World.block_lt_of_cell? w _ aV)).trans aV), ((HB.out.cell (World.block_lt_of_cell? w _ aY)).trans aY), ((HB.out.cell (World.block_lt_of_cell? w _ aX)).trans aX)⟩ (fun hHeld => ?_)
             clear hK K
             refine zN ?_
             refine zU 23 (some 48) rfl rfl (fun K hK => ?_)
             refine X0 Tryz.func56 (by kernel_rfl) rfl #[.pointer (some ⟨bR, 0, none⟩), .int .i64 ((Qb aC aA).f0), .int .i64 ((Qb aC aA).f1), .int .i64 ((Qb aC aA).f2), .int .i64 bS] (by rfl) rfl rfl zM ?_
             with_reducible refine (Jd.calls (fun k_ => some k_ = (.slice (some ⟨bR, 0, none⟩) bI.length dM : Value).ownBlock) (.slice (some ⟨bR, 0, none⟩) bI.length dM) bI ((Qb aC aA).f0) ((Qb aC aA).f1) ((Qb aC aA).f2) bS dI w _ ?bG ?bH gV.out).mono ?_
             (case bG => exact (jLk HB.out aI.out bM.out))
             (case bH => exact Kd.R_tight rfl aK.out)
             rintro e iF ⟨rfl, hy0, hb, hkp⟩
             refine ⟨_, rfl, ?_⟩
             replace aJ := Qa.mk (Kd.R_mono (ok' := fun k_ => k_ ≠ aG) (Kd.R_keptB ((Kd.R_apart' aJ.out (Kd.R_typed aK.out) (by decide))) hkp (fun k_ hk_ hs_ => (hk_.2) hs_)) (fun k_ hk_ => hk_.1.1))
             replace aD := Qa.mk (V4 (zK aD.out) hkp (fun hs_ => (fun e_ => (Kd.R_ne aK.out aD.out (by decide)) e_) hs_))
             replace aH := Qa.mk (V4 (zK aH.out) hkp (fun hs_ => (fun e_ => (Kd.R_ne aK.out aH.out (by decide)) e_) hs_))
             replace aK := Qa.mk (Kd.R_reok rfl hy0 (fun k_ e_ => aK.out.1 k_ e_))
             replace HB := Qa.mk (hb)
             (try clear hb)
             (try clear hkp)
             (try clear hy0)
             refine hK.out _ _ ⟨(Qj aH.out 0).trans rfl, (Qj aH.out 1).trans rfl, (Qj aH.out 2).trans rfl, ((HB.out.cell (World.block_lt_of_cell? w _ aU)).trans aU), ((HB.out.cell (World.block_lt_of_cell? w _ aT)).trans aT), ((HB.out.cell (World.block_lt_of_cell? w _ aW)).trans aW), ((HB.out.cell (World.block_lt_of_cell? w _ aV)).trans aV), ((HB.out.cell (World.block_lt_of_cell? w _ aY)).trans aY), ((HB.out.cell (World.block_lt_of_cell? w _ aX)).trans aX)⟩ (fun hHeld => ?_)
             clear hK K
             refine zN ?_
             refine Yp (Zu HT_.out (by kernel_rfl)) ?_
             try go_wp2
             (try simp only [← bF])
             go_roundg k1
             case measure => have := fK.out; omega
             case rel => exact ⟨(dI), (wrap64 (aA + 1)), zF, H', ⟨by have := fK.out; omega⟩, ⟨by (try simp only [bF]); (with_reducible repeat (first | apply Kd.R_alloc | apply Kd.R_drewN | apply Kd.R_drew)); exact aK.out⟩, ⟨by (try simp only [bF]); (with_reducible repeat (first | apply Kd.R_alloc | apply Kd.R_drewN | apply Kd.R_drew)); exact Kd.R_mono aJ.out (fun _ hk => trivial)⟩, ⟨by (try simp only [bF]); (with_reducible repeat (first | refine Yr ?_ _ | refine Qk ?_ | refine Yt ?_ _)); exact aD.out⟩, ⟨zG2 aI.out bM.out⟩⟩
            exact absurd H (by simp)
           exact absurd H (by simp)
          exact absurd H (by simp)
         exact absurd H (by simp)
        exact absurd H (by simp)
       exact absurd H (by simp)
      exact absurd H (by simp)
     exact absurd H (by simp)
    exact absurd H (by simp)
   replace H := Xt H
   rcases H with ⟨gI, gJ, H⟩ | ⟨c32, H⟩
   ·obtain ⟨⟨cK, cO⟩, gX, H⟩ := zO H
    replace H : (some (cK, cO, true)) = some (r1, r2, r3) := H
    simp only [Option.some.injEq, Prod.mk.injEq] at H
    obtain ⟨rfl, rfl, rfl⟩ := H
    go_wp2_with (first | ((with_reducible refine Qd (f := 57) rfl ?_); refine zD (some 51) Tryz.func57 #[.pointer (some ⟨bR, 0, none⟩)] ((Qy.calls k1 _ bI cK cO _ ?bG ?bH gX.out).mono ?_); (case bG => exact zc ((Kd.R_reads' aK.out).2.2)); (case bH => exact (zA : bI.length = 344)); rintro e iG ⟨rfl, hb⟩; refine ⟨_, rfl, ?_⟩; replace aK := zW aK.out hb; replace aJ := zW aJ.out hb; replace aD := zV aD.out hb; replace HB := zX1 aI.out hb; (try clear hb); obtain ⟨dX, dY, dZ, eB⟩ := zq2 aD.out))
    refine bodyPost_ret (J7 rfl _ _ bK 25 #[.int .i64 cK, .string cO] (0, 0) _ rfl (zk0 aD.out) Tryz.underlying25 rfl (by kernel_rfl)) rfl ?_
    exact ⟨zE, zG aI.out⟩
   exact absurd H (by simp)
  exact absurd H (by simp)
 replace c3 := Bool.eq_false_iff.mpr c3
 subst c3
 replace H := (if_neg zFf).symm.trans H
 simp only [Option.some.injEq, Prod.mk.injEq] at H
 obtain ⟨rfl, rfl, rfl⟩ := H
 go_enter Tryz.func8, Tryz.ntmps8
 go_wp2_with (first | ((with_reducible refine Qm (N := 2) rfl ?_); refine zBx (N := 2) #[.int .i64 0, .string (⟨#[]⟩ : ByteArray)] 25 ?_; intro bK hg iH hbox hb; have aD := Qa.mk (hbox); have dC := zS hg; have aI := zS hg; replace HB := zX hb; clear hb hbox hg) | ((with_reducible refine Qd (f := 45) rfl ?_); refine zD (some 8) Tryz.func45 #[.slice A0 l0.length c0] ((Q3.calls k _ _ l0 false _ ?bG ?bH A2.out).mono ?_); (case bG => exact zc (Kd.C_below dA.out HB.out)); (case bH => exact fF.out); rintro e iI ⟨rfl, hb⟩; refine ⟨_, rfl, ?_⟩; replace aD := zV aD.out hb; replace HB := zX1 aI.out hb; (try clear hb); obtain ⟨eD, eF, eG, eH⟩ := zq2 aD.out))
 refine bodyPost_ret (J7 rfl _ _ bK 25 #[.int .i64 0, .string (⟨#[]⟩ : ByteArray)] (0, 0) _ rfl (zk0 aD.out) Tryz.underlying25 rfl (by kernel_rfl)) rfl ?_
 exact ⟨zE, zG aI.out⟩
def Zk.f (k : Nat) (l0 : List Int) : Option (Int × ByteArray) := (J4.f k l0).bind fun aA => ((Jz.f k aA.1 aA.2.1 aA.2.2).bind fun aC => (some (aC.1, aC.2.1)))
theorem jLv {p q p0 : Prop} (g : p) (g0 : p0) (h : p → p0 → q := by intro zg_ aA; repeat (first | (with_reducible first | exact zg_ | apply Qv | apply Qr | apply Qo | refine Qf ?_ aA) | exact zg_)) : q := h g g0
theorem jL4 {p q p0 : Prop} (g : p) (g0 : p0) (h : p → p0 → q := by intro zg_ aA; repeat (first | (with_reducible first | exact zg_ | apply Qc.alloc | apply Qc.drewN | apply Qc.drew | apply Qc.set_1 | apply Qc.set_2 | refine Qc.far ?_ aA _) | exact zg_)) : q := h g g0
theorem jK7 {p q p0 p1 : Prop} (g : p) (g0 : p0) (g1 : p1) (h : p → p0 → p1 → q := by intro zg_ aA aC; repeat (first | (with_reducible first | exact zg_ | apply Qv | apply Qr | apply Qo | refine Qf ?_ aA | refine Qf ?_ aC) | exact zg_)) : q := h g g0 g1
set_option maxHeartbeats 8000000 in
set_option maxRecDepth 100000 in
theorem Zk.calls (k : Nat) (A0 : Option Addr) (c0 : Nat) (l0 : List Int) (r1 : Int) (r2 : ByteArray) (w : World) (hr0 : Kd.C (Kd.int .u8) w A0 l0.length l0) (hc0 : l0.length ≤ c0) (h : Zk.f k l0 = some (r1, r2)) :
  Calls Tryz.prog 10 #[.slice A0 l0.length c0] w fun e w' => e = .returned (.agg #[.int .i64 r1, .string r2]) ∧ Below w.heap.size w w' := by
 have bE := Tryz.underlying25
 have bF := Qa.mk hr0
 have bG := Qa.mk hc0
 clear hr0 hc0
 have HB := Qa.mk (Below.refl w.heap.size w)
 have H := h
 unfold Zk.f at H
 clear h
 obtain ⟨⟨aQ, aT, aU⟩, A2, H⟩ := zO H
 dsimp only at H
 obtain ⟨⟨aM, aN, aW, aX⟩, A3, H⟩ := zO H
 replace H : (some (aM, aN)) = some (r1, r2) := H
 simp only [Option.some.injEq, Prod.mk.injEq] at H
 obtain ⟨rfl, rfl⟩ := H
 go_enter Tryz.func10, Tryz.ntmps10
 go_wp2_with (first | ((with_reducible refine Qm (N := 2) rfl ?_); refine zBx (N := 2) #[.int .i64 0, .string (⟨#[]⟩ : ByteArray)] 25 ?_; intro aG hg w4 hbox hb; have aA := Qa.mk (hbox); have bD := zS hg; have aI := zS hg; replace HB := zX hb; clear hb hbox hg) | ((with_reducible refine Qd (f := 49) rfl ?_); refine zD (some 4) Tryz.func49 #[.slice A0 l0.length c0] ((J4.calls k _ _ l0 aQ aT aU w _ ?aJ ?aK ?aV A2.out).mono ?_); (case aJ => exact (jLv HB.out aI.out)); (case aK => exact bF.out); (case aV => exact bG.out); rintro e w5 ⟨aY, rfl, hi, hb, hb2⟩; refine ⟨_, rfl, ?_⟩; have aH := Qa.mk (hi); have aC := Qa.mk (Qc.ne_blk hi (Qh (g := aG) (o := .cells #[.int .i64 0, .string (⟨#[]⟩ : ByteArray)] 25 (0, 0)) (zK aA.out) hb2) (by decide)); have aD := Qa.mk (Ne.symm (Qc.ne_blk hi (Qh (g := aG) (o := .cells #[.int .i64 0, .string (⟨#[]⟩ : ByteArray)] 25 (0, 0)) (zK aA.out) hb2) (by decide))); replace aA := Qa.mk (Qh (g := aG) (o := .cells #[.int .i64 0, .string (⟨#[]⟩ : ByteArray)] 25 (0, 0)) (zK aA.out) hb2); replace HB := Qa.mk (hb); (try clear hb); (try clear hb2); (try clear hi)) | ((with_reducible refine Qd (f := 50) rfl ?_); refine zD (some 5) Tryz.func50 _ ((Jz.calls k aY aQ aT aU aM aN aW aX w _ ?aJ ?aK A3.out).mono ?_); (case aJ => exact (jL4 aH.out aC.out)); (case aK => exact (jK7 HB.out (Qc.ge aH.out) aI.out)); rintro e w6 ⟨rfl, hi, hb, hk⟩; refine ⟨_, rfl, ?_⟩; replace aA := zKB hk aA.out aD.out; replace aH := Qa.mk (hi); replace HB := Qa.mk (hb); (try clear hb); (try clear hk); (try clear hi); have bH := aD.out; have bI := aC.out; obtain ⟨aZ, bA, bB, bC⟩ := zq2 aA.out))
 refine bodyPost_ret (results_cell_row rfl _ _ aG 25 #[.int .i64 aM, .string aN] (0, 0) _ rfl (zk0 aA.out) Tryz.underlying25 rfl (by kernel_rfl)) rfl ?_
 exact ⟨zE, zG2 (Qc.ge aH.out) aI.out⟩
def Jk.f (k : Nat) (aA : Int) (aC : ByteArray) : Option (Int × ByteArray × Bool) := (Qw.f k aA aC).bind fun aD => (if aD = true then ((Yc.f aC).bind fun aG => (some (aA, aG, true))) else (some (0, (⟨#[]⟩ : ByteArray), false)))
def Jk.T3 : Bool × List (List Nat × List Nat) := (true, [([], []), ([0], [0]), ([], []), ([2], [2]), ([3], [3]), ([1, 4], [1, 4]), ([5, 4, 0, 1, 2, 3, 4, 5], [5]), ([6, 0, 1, 2, 3, 4, 5, 6], [])])
def Jk.B3 : List Nat := [0, 1, 0, 4, 12, 31, 63, 127]
theorem Jk.tab3 : Vv .any (opsOf Tryz.f11 3) = Jk.T3 := by kernel_rfl
theorem Jk.bits3 : Zz Jk.T3.2 Jk.B3 = true := by kernel_rfl
set_option maxHeartbeats 8000000 in
set_option maxRecDepth 100000 in
theorem Jk.calls (k : Nat) (aM : Int) (aK : ByteArray) (r1 : Int) (r2 : ByteArray) (r3 : Bool) (w : World) (h : Jk.f k aM aK = some (r1, r2, r3)) :
  Calls Tryz.prog 11 #[.agg #[.int .i64 aM, .string aK]] w fun e w' => e = .returned (.tuple #[.agg #[.int .i64 r1, .string r2], .bool r3]) ∧ Below w.heap.size w w' := by
 have bR := Tryz.underlying25
 have HB := Qa.mk (Below.refl w.heap.size w)
 have H := h
 unfold Jk.f at H
 clear h
 obtain ⟨bH, A2, H⟩ := zO H
 by_cases c3 : bH = true
 ·subst c3
  replace H := (if_pos rfl).symm.trans H
  obtain ⟨aQ, A4, H⟩ := zO H
  simp only [Option.some.injEq, Prod.mk.injEq] at H
  obtain ⟨rfl, rfl, rfl⟩ := H
  go_enter Tryz.func11, Tryz.ntmps11
  try go_wp2_with (first | ((with_reducible refine Qm (N := 1) rfl ?_); refine zBx (N := 1) #[.int .i64 aM, .string aK] 25 ?_; intro aN hg w5 hbox hb; have aA := Qa.mk (hbox); have aT := zS hg; have aH := zS hg; replace HB := zX hb; clear hb hbox hg) | ((with_reducible refine Qm (N := 2) rfl ?_); refine zBx (N := 2) #[.int .i64 0, .string (⟨#[]⟩ : ByteArray)] 25 ?_; intro aI hg w6 hbox hb; have aD := Qa.mk (hbox); have aU := zSg hg (zG aH.out); have aJ := zSg hg (zG aH.out); have aC := zL hg aA.out; have aG := zLg hg aA.out; replace aA := zV aA.out hb; replace HB := zX1 aH.out hb; clear hb hbox hg; have bS := aC.out; have bT := aG.out; obtain ⟨bI, bJ, bK, bL⟩ := zq2 aA.out) | ((with_reducible refine Qd (f := 24) rfl ?_); refine zD (some 5) Tryz.func24 _ ((Qw.calls k aM aK true _ A2.out).mono ?_); rintro e w9 ⟨rfl, hb⟩; refine ⟨_, rfl, ?_⟩; replace aA := zV aA.out hb; replace aD := zV aD.out hb; replace HB := Qa.mk (Qg (zG2 aH.out aJ.out) hb); (try clear hb)))
  replace aA := Qa.mk (Qk aA.out)
  replace aD := Qa.mk (Qk aD.out)
  replace HB := Qa.mk (Qo HB.out)
  refine Xe (n := 8) (S := fun w' => w'.cell? ⟨aN, 0, none⟩ = some (.int .i64 aM) ∧ w'.cell? ⟨aN, 1, none⟩ = some (.string aK)) (ds := []) #[false, false, false, false, false, false, false, false] (by kernel_rfl) rfl rfl ⟨(Qj aA.out 0).trans rfl, (Qj aA.out 1).trans rfl⟩ (fun hHeld => ?_); refine J6 Jk.tab3 Jk.bits3 (fun HT_ HW_ => ?_)
  generalize w9.drew = bW at aA aD HB hHeld ⊢
  refine zP 0 (some 8) rfl rfl ?_
  refine zP 2 (some 10) rfl rfl ?_
  refine zY2 1 (some 9) rfl rfl hHeld ?_
  refine zY2 3 (some 11) rfl rfl hHeld ?_
  refine zU 4 (some 12) rfl rfl (fun K hK => ?_)
  refine X0 Tryz.func60 (by kernel_rfl) rfl #[.string aK] (by rfl) rfl rfl zM ?_
  with_reducible refine (Yc.calls aK aQ _ A4.out).mono ?_
  rintro e bM ⟨rfl, hb⟩
  refine ⟨_, rfl, ?_⟩
  replace aA := zV aA.out hb
  replace aD := zV aD.out hb
  replace HB := Qa.mk (Qg (zG2 aH.out aJ.out) hb)
  (try clear hb)
  refine hK.out _ _ (zh2 aA.out) (fun hHeld => ?_)
  clear hK K
  refine zN ?_
  refine zP 5 (some 13) rfl rfl ?_
  refine zU 6 none rfl rfl (fun K hK => ?_)
  have bU : bM.cell? ⟨aI, 0, none⟩ = some (.int .i64 0) := (Qj aD.out 0).trans rfl
  have bN := J8 aD.out 0
  have aV := aC.out
  have aW := aG.out
  have bV : bM.cell? ⟨aI, 1, none⟩ = some (.string (⟨#[]⟩ : ByteArray)) := (Qj aD.out 1).trans rfl
  have bO := J8 aD.out 1
  have aX := aC.out
  have aY := aG.out
  refine jA2 (w1 := ?_) (by rfl) rfl ?_ ?_
  rotate_left
  ·go_simp
   rfl
  refine hK.out _ _ ⟨((cell_far (p := ⟨aI, _, none⟩) aC.out _).trans (((cell_far (p := ⟨aI, _, none⟩) aC.out _).trans (hHeld.1)))), ((cell_far (p := ⟨aI, _, none⟩) aC.out _).trans (((cell_far (p := ⟨aI, _, none⟩) aC.out _).trans (hHeld.2))))⟩ (fun hHeld => ?_)
  clear hK K
  refine zP 7 (some 3) rfl rfl ?_
  refine Yp (Zu HT_.out (by kernel_rfl)) ?_
  try go_wp2
  refine bodyPost_ret (J7 rfl _ _ aI 25 #[.int .i64 aM, .string aQ] (0, 0) _ rfl (zk0 aD.out) Tryz.underlying25 rfl (by kernel_rfl)) rfl ?_
  exact ⟨zE, zG2 aH.out aJ.out⟩
 replace c3 := Bool.eq_false_iff.mpr c3
 subst c3
 replace H := (if_neg zFf).symm.trans H
 simp only [Option.some.injEq, Prod.mk.injEq] at H
 obtain ⟨rfl, rfl, rfl⟩ := H
 go_enter Tryz.func11, Tryz.ntmps11
 go_wp2_with (first | ((with_reducible refine Qm (N := 1) rfl ?_); refine zBx (N := 1) #[.int .i64 aM, .string aK] 25 ?_; intro aN hg bX hbox hb; have aA := Qa.mk (hbox); have aT := zS hg; have aH := zS hg; replace HB := zX hb; clear hb hbox hg) | ((with_reducible refine Qm (N := 2) rfl ?_); refine zBx (N := 2) #[.int .i64 0, .string (⟨#[]⟩ : ByteArray)] 25 ?_; intro aI hg bY hbox hb; have aD := Qa.mk (hbox); have aU := zSg hg (zG aH.out); have aJ := zSg hg (zG aH.out); have aC := zL hg aA.out; have aG := zLg hg aA.out; replace aA := zV aA.out hb; replace HB := zX1 aH.out hb; clear hb hbox hg; have bP := aC.out; have bQ := aG.out; obtain ⟨aZ, bA, bB, bC⟩ := zq2 aA.out) | ((with_reducible refine Qd (f := 24) rfl ?_); refine zD (some 5) Tryz.func24 _ ((Qw.calls k aM aK false _ A2.out).mono ?_); rintro e bZ ⟨rfl, hb⟩; refine ⟨_, rfl, ?_⟩; replace aA := zV aA.out hb; replace aD := zV aD.out hb; replace HB := Qa.mk (Qg (zG2 aH.out aJ.out) hb); (try clear hb); obtain ⟨bD, bE, bF, bG⟩ := zq2 aD.out))
 refine bodyPost_ret (J7 rfl _ _ aI 25 #[.int .i64 0, .string (⟨#[]⟩ : ByteArray)] (0, 0) _ rfl (zk0 aD.out) Tryz.underlying25 rfl (by kernel_rfl)) rfl ?_
 exact ⟨zE, zG2 aH.out aJ.out⟩
mutual
def Qu.j0 : Nat → Bool → Int → ByteArray → Option (Bool)
 | 0, _, _, _ => none
 | k + 1, x24, aA, aC => if x24 = true then (some false) else (Qu.l0 k 0 aA aC)
def Qu.l0 : Nat → Int → Int → ByteArray → Option (Bool)
 | 0, _, _, _ => none
 | k + 1, x3, aC, aA => if x3 < (aA.size : Int) then (if 0 ≤ x3 then (if (bt aA x3) = 43 then (Qu.l0 k (wrap64 (x3 + 1)) aC aA) else (if (bt aA x3) = 45 then (Qu.l0 k (wrap64 (x3 + 1)) aC aA) else (some false))) else (none)) else (some true)
end
def Qu.f (k : Nat) (aA : Int) (aC : ByteArray) : Option (Bool) := (Jh.f aA 3 7).bind fun aD => (if aD = true then (Qu.j0 k ((aC.size : Int) != (wrap64 (Int.tdiv (wrap64 ((wrap64 (aA * (wrap64 (aA - 1)))) * (wrap64 (aA - 2)))) 6))) aA aC) else (Qu.j0 k true aA aC))
set_option maxHeartbeats 8000000 in
set_option maxRecDepth 100000 in
theorem Qu.calls (k : Nat) (aH : Int) (aD : ByteArray) (r : Bool) (w : World) (h : Qu.f k aH aD = some r) :
  Calls Tryz.prog 25 #[.agg #[.int .i64 aH, .string aD]] w fun e w' => e = .returned (.bool r) ∧ Below w.heap.size w w' := by
 have dB := Tryz.underlying25
 have HB := Qa.mk (Below.refl w.heap.size w)
 have H := h
 unfold Qu.f at H
 clear h
 have bQ := Qa.mk H
 clear H
 go_enter Tryz.func25, Tryz.ntmps25
 go_upto_region 1 with (first | ((with_reducible refine Qm (N := 1) rfl ?_); (try (refine Zq (by rfl) ?_; dsimp only)); refine zBx (N := 1) #[.int .i64 aH, .string aD] 25 ?_; intro aJ hg w3 hbox hb; have aA := Qa.mk (hbox); have cO := zS hg; have aG := zS hg; replace HB := zX hb; clear hb hbox hg))
 (try simp only [Act.put, List.setIfInBounds_toArray, List.set_cons_zero, List.set_cons_succ])
 go_cut [24] (fun v24 wc => ∃ (kq : Nat) (aI : Bool), v24 = .bool aI ∧ Qa (Qu.j0 kq aI aH aD = some r) ∧ Qa (kq ≤ k) ∧ Qa (wc.heap[aJ]? = some (.cells #[.int .i64 aH, .string aD] 25 (0, 0))) ∧ Qa (Below w.heap.size w wc))
 case first =>
  have H := bQ.out
  clear bQ
  obtain ⟨bR, A4, H⟩ := zO H
  by_cases c5 : bR = true
  ·subst c5
   replace H := (if_pos rfl).symm.trans H
   have H' := Qa.mk H; clear H
   obtain ⟨bS, bT, bU, bV⟩ := zq2 aA.out
   go_wp2_with (first | ((with_reducible refine Qd (f := 70) rfl ?_); refine zD (some 6) Tryz.func70 _ ((Jh.calls aH 3 7 true _ A4.out).mono ?_); rintro e w' ⟨rfl, ⟨nd, rfl⟩⟩; refine ⟨_, rfl, ?_⟩))
   go_meet
   case rel => exact ⟨_, (((aD.size : Int) != (wrap64 (Int.tdiv (wrap64 ((wrap64 (aH * (wrap64 (aH - 1)))) * (wrap64 (aH - 2)))) 6)))), zF, H', ⟨by first | omega | exact Nat.le_refl _⟩, ⟨zK aA.out⟩, ⟨zG aG.out⟩⟩
  replace c5 := Bool.eq_false_iff.mpr c5
  subst c5
  replace H := (if_neg zFf).symm.trans H
  have H' := Qa.mk H; clear H
  obtain ⟨bW, bX, bY, bZ⟩ := zq2 aA.out
  go_wp2_with (first | ((with_reducible refine Qd (f := 70) rfl ?_); refine zD (some 6) Tryz.func70 _ ((Jh.calls aH 3 7 false _ A4.out).mono ?_); rintro e w' ⟨rfl, ⟨nd, rfl⟩⟩; refine ⟨_, rfl, ?_⟩))
  go_meet
  case rel => exact ⟨_, (true), zF, H', ⟨by first | omega | exact Nat.le_refl _⟩, ⟨zK aA.out⟩, ⟨zG aG.out⟩⟩
 case rest =>
 clear bQ
 obtain ⟨kq, aI, rfl, HA, aY, aA, HB⟩ := hcut
 cases kq with
 | zero => exact absurd HA.out (by simp [Qu.j0])
 | succ cZ =>
 have H := HA.out
 clear HA
 simp only [Qu.j0] at H
 by_cases c8 : aI = true
 ·subst c8
  replace H := (if_pos rfl).symm.trans H
  obtain rfl := Option.some.inj H
  go_wp2
  go_ret
  exact ⟨zE, zG aG.out⟩
 replace c8 := Bool.eq_false_iff.mpr c8
 subst c8
 replace H := (if_neg zFf).symm.trans H
 have H' := Qa.mk H; clear H
 go_wp2
 go_loopg [3] cZ (fun kq v3 w' => ∃ (aC : Int), v3 = .int .i64 aC ∧ Qa (Qu.l0 kq aC aH aD = some r) ∧ Qa (kq ≤ cZ) ∧ Qa (w'.heap[aJ]? = some (.cells #[.int .i64 aH, .string aD] 25 (0, 0))) ∧ Qa (Below w.heap.size w w'))
 case atStart => exact ⟨(0), zF, H', ⟨Nat.le_refl _⟩, ⟨zK aA.out⟩, ⟨zG aG.out⟩⟩
 case round =>
 clear H'
 try clear c8
 obtain ⟨aC, rfl, HA, aZ, aA, HB⟩ := hrel
 cases gk with
 | zero => exact absurd HA.out (by simp [Qu.l0])
 | succ k2 =>
 have H := HA.out
 clear HA
 simp only [Qu.l0] at H
 replace H := Xr H
 rcases H with ⟨cB, H⟩ | ⟨cB, H⟩
 ·replace H := J5 H
  rcases H with ⟨dA, H⟩ | ⟨c10, H⟩
  ·replace H := Zc H
   rcases H with ⟨aN, aQ, H⟩ | ⟨c12, aN, aQ, H⟩
   ·have H' := Qa.mk H; clear H
    obtain ⟨bA, bB, bC, bD⟩ := zq2 aA.out
    have aK : 0 ≤ (aC : Int) := zA
    have aM : aC < (aD.size : Int) := zA
    have aT := Yh aD aC
    replace aK := eq_true aK
    replace aM := eq_true aM
    go_wp2
    go_roundg k2
    case measure => have := aY.out; have := aZ.out; omega
    case rel => exact ⟨(wrap64 (aC + 1)), zF, H', ⟨by have := aY.out; have := aZ.out; omega⟩, ⟨zK aA.out⟩, ⟨zG aG.out⟩⟩
   replace H := Zc H
   rcases H with ⟨aU, aV, H⟩ | ⟨c15, aU, aV, H⟩
   ·have H' := Qa.mk H; clear H
    obtain ⟨bE, bF, bG, bH⟩ := zq2 aA.out
    have aK : 0 ≤ (aC : Int) := zA
    have aM : aC < (aD.size : Int) := zA
    have aT := Yh aD aC
    replace aK := eq_true aK
    replace aM := eq_true aM
    have aW : 0 ≤ (aC : Int) := zA
    have aX : aC < (aD.size : Int) := zA
    have cK := Yh aD aC
    replace aW := eq_true aW
    replace aX := eq_true aX
    go_wp2
    go_roundg k2
    case measure => have := aY.out; have := aZ.out; omega
    case rel => exact ⟨(wrap64 (aC + 1)), zF, H', ⟨by have := aY.out; have := aZ.out; omega⟩, ⟨zK aA.out⟩, ⟨zG aG.out⟩⟩
   obtain rfl := Option.some.inj H
   obtain ⟨bI, bJ, bK, bL⟩ := zq2 aA.out
   have aK : 0 ≤ (aC : Int) := zA
   have aM : aC < (aD.size : Int) := zA
   have aT := Yh aD aC
   replace aK := eq_true aK
   replace aM := eq_true aM
   have aW : 0 ≤ (aC : Int) := zA
   have aX : aC < (aD.size : Int) := zA
   have cK := Yh aD aC
   replace aW := eq_true aW
   replace aX := eq_true aX
   go_wp2
   go_ret
   exact ⟨zE, zG aG.out⟩
  exact absurd H (by simp)
 obtain rfl := Option.some.inj H
 obtain ⟨bM, bN, bO, bP⟩ := zq2 aA.out
 go_wp2
 go_ret
 exact ⟨zE, zG aG.out⟩
def Q8.l0 : Nat → Int → Int → ByteArray → Int → ByteArray → Option (Int × ByteArray × Bool)
 | 0, _, _, _, _, _ => none
 | k + 1, x5, aG, aA, aD, aC => if x5 < (aA.size : Int) then (if 0 ≤ x5 then ((X5.f ((bt aA x5) == 45)).bind fun aI => ((Xb.f aI).bind fun aH => (if aC.size + aH.size ≤ 9223372036854775807 then (Q8.l0 k (wrap64 (x5 + 1)) aG aA aD (aC ++ aH)) else (none)))) else (none)) else (some (aD, aC, true))
def Q8.f (k : Nat) (aA : Int) (aC : ByteArray) : Option (Int × ByteArray × Bool) := (Qu.f k aA aC).bind fun aD => (if aD = true then (Q8.l0 k 0 aA aC aA (⟨#[]⟩ : ByteArray)) else (some (0, (⟨#[]⟩ : ByteArray), false)))
def Q8.T7 : Bool × List (List Nat × List Nat) := (true, [([], []), ([0], [0]), ([], []), ([2], [2]), ([], []), ([3, 4], [3, 4]), ([5], [5]), ([6], [6]), ([7, 7], [7]), ([1, 8], [1, 8]), ([0, 1, 2, 3, 4, 5, 6, 7, 8, 9], []), ([10, 9, 8, 0, 1, 2, 3, 4, 5, 6, 7, 8, 9], [9, 10])])
def Q8.B7 : List Nat := [0, 1, 0, 4, 0, 28, 60, 124, 252, 511, 1023, 2047]
theorem Q8.tab7 : Vv .any (opsOf Tryz.f12 7) = Q8.T7 := by kernel_rfl
theorem Q8.bits7 : Zz Q8.T7.2 Q8.B7 = true := by kernel_rfl
set_option maxHeartbeats 8000000 in
set_option maxRecDepth 100000 in
theorem Q8.calls (k : Nat) (aT : Int) (aU : ByteArray) (r1 : Int) (r2 : ByteArray) (r3 : Bool) (w : World) (h : Q8.f k aT aU = some (r1, r2, r3)) :
  Calls Tryz.prog 12 #[.agg #[.int .i64 aT, .string aU]] w fun e w' => e = .returned (.tuple #[.agg #[.int .i64 r1, .string r2], .bool r3]) ∧ Below w.heap.size w w' := by
 have fD := Tryz.underlying25
 have HB := Qa.mk (Below.refl w.heap.size w)
 have H := h
 unfold Q8.f at H
 clear h
 obtain ⟨dQ, A2, H⟩ := zO H
 by_cases c3 : dQ = true
 ·subst c3
  replace H := (if_pos rfl).symm.trans H
  have H' := Qa.mk H; clear H
  go_enter Tryz.func12, Tryz.ntmps12
  go_wp2_with (first | ((with_reducible refine Qm (N := 1) rfl ?_); refine zBx (N := 1) #[.int .i64 aT, .string aU] 25 ?_; intro aX hg w4 hbox hb; have aA := Qa.mk (hbox); have bP := zS hg; have aH := zS hg; replace HB := zX hb; clear hb hbox hg) | ((with_reducible refine Qm (N := 2) rfl ?_); refine zBx (N := 2) #[.int .i64 0, .string (⟨#[]⟩ : ByteArray)] 25 ?_; intro aY hg w5 hbox hb; have aD := Qa.mk (hbox); have bQ := zSg hg (zG aH.out); have aQ := zSg hg (zG aH.out); have aK := zL hg aA.out; have aM := zLg hg aA.out; replace aA := zV aA.out hb; replace HB := zX1 aH.out hb; clear hb hbox hg; have fE := aK.out; have fF := aM.out; obtain ⟨bF, bG, bH, bI⟩ := zq2 aA.out) | ((with_reducible refine Qd (f := 25) rfl ?_); refine zD (some 7) Tryz.func25 _ ((Qu.calls k aT aU true _ A2.out).mono ?_); rintro e w8 ⟨rfl, hb⟩; refine ⟨_, rfl, ?_⟩; replace aA := zV aA.out hb; replace aD := zV aD.out hb; replace HB := Qa.mk (Qg (zG2 aH.out aQ.out) hb); (try clear hb); obtain ⟨bJ, bK, bL, bM⟩ := zq2 aA.out) | ((with_reducible refine Qm (N := 4) rfl ?_); refine zBx (N := 4) #[.int .i64 0, .string (⟨#[]⟩ : ByteArray)] 25 ?_; intro aZ hg fK hbox hb; have aJ := Qa.mk (hbox); have dR := zSg hg (zG2 aH.out aQ.out); have bA := zSg hg (zG2 aH.out aQ.out); have aG := zL hg aA.out; have aN := zLg hg aA.out; replace aA := zV aA.out hb; have aI := zL hg aD.out; have aV := zLg hg aD.out; replace aD := zV aD.out hb; replace HB := Qa.mk (Qg (zG2 aH.out aQ.out) hb); clear hb hbox hg; have dS := aN.out; have dU := aG.out; have dV := aV.out; have dW := aI.out; obtain ⟨bB, bC, bD, bE⟩ := zq2 aJ.out))
  go_loopg [5] k (fun kq v5 w' => ∃ (aW : Int) (aC : ByteArray), v5 = .int .i64 aW ∧ Qa (Q8.l0 kq aW aT aU aT aC = some (r1, r2, r3)) ∧ Qa (kq ≤ k) ∧ Qa (w'.heap[aX]? = some (.cells #[.int .i64 aT, .string aU] 25 (0, 0))) ∧ Qa (w'.heap[aY]? = some (.cells #[.int .i64 0, .string (⟨#[]⟩ : ByteArray)] 25 (0, 0))) ∧ Qa (w'.heap[aZ]? = some (.cells #[.int .i64 aT, .string aC] 25 (0, 0))) ∧ Qa (Below w.heap.size w w'))
  case atStart => exact ⟨(0), ((⟨#[]⟩ : ByteArray)), zF, H', ⟨Nat.le_refl _⟩, ⟨zk2 aA.out aG.out aG.out⟩, ⟨zk2 aD.out aI.out aI.out⟩, ⟨zk0 aJ.out⟩, ⟨zG3 aH.out aQ.out bA.out⟩⟩
  case round =>
  clear H'
  try clear c3
  try clear bB
  try clear bC
  try clear bF
  try clear bG
  try clear bJ
  try clear bK
  try clear bD
  try clear bE
  try clear bH
  try clear bI
  try clear bL
  try clear bM
  obtain ⟨aW, aC, rfl, HA, dX, aA, aD, aJ, HB⟩ := hrel
  cases gk with
  | zero => exact absurd HA.out (by simp [Q8.l0])
  | succ k1 =>
  have H := HA.out
  clear HA
  simp only [Q8.l0] at H
  replace H := Xr H
  rcases H with ⟨bR, H⟩ | ⟨bR, H⟩
  ·replace H := J5 H
   rcases H with ⟨dY, H⟩ | ⟨c15, H⟩
   ·obtain ⟨bN, fG, H⟩ := zO H
    obtain ⟨bO, fH, H⟩ := zO H
    replace H := Yj H
    rcases H with ⟨c19, dZ, eB, H⟩ | ⟨c19, H⟩
    ·try have eD : (9223372036854775807 < aC.size + bO.size) = False := eq_false (Nat.not_lt.2 c19)
     have H' := Qa.mk H; clear H
     have eF := aK.out
     have eG := aM.out
     have eH := aG.out
     have eO := aN.out
     obtain ⟨bS, bT, bU, bV⟩ := zq2 aA.out
     try go_wp2
     replace aA := Qa.mk (Qk aA.out)
     replace aD := Qa.mk (Qk aD.out)
     replace aJ := Qa.mk (Qk aJ.out)
     replace HB := Qa.mk (Qo HB.out)
     have p16 : 0 ≤ (aW : Int) := zA
     have q16 : aW < (aU.size : Int) := zA
     have hx16 := Yh aU aW
     replace p16 := eq_true p16
     replace q16 := eq_true q16
     refine Xe (n := 12) (S := fun w' => w'.cell? ⟨aZ, 0, none⟩ = some (.int .i64 aT) ∧ w'.cell? ⟨aZ, 1, none⟩ = some (.string aC) ∧ w'.cell? ⟨aX, 0, none⟩ = some (.int .i64 aT) ∧ w'.cell? ⟨aX, 1, none⟩ = some (.string aU)) (ds := [11]) #[false, false, false, false, false, false, false, false, false, false, false, false] (by kernel_rfl) rfl rfl ⟨(Qj aJ.out 0).trans rfl, (Qj aJ.out 1).trans rfl, (Qj aA.out 0).trans rfl, (Qj aA.out 1).trans rfl⟩ (fun hHeld => ?_); refine J6 Q8.tab7 Q8.bits7 (fun HT_ HW_ => ?_)
     generalize wr.drew = fI at aA aD aJ HB hHeld ⊢
     refine zP 0 (some 20) rfl rfl ?_
     refine zP 2 (some 22) rfl rfl ?_
     refine zP 4 (some 24) rfl rfl ?_
     refine zY4 1 (some 21) rfl rfl hHeld ?_
     refine zY4 3 (some 23) rfl rfl hHeld ?_
     refine zY4 5 (some 25) rfl rfl hHeld ?_
     refine zP 6 (some 26) rfl rfl ?_
     refine zU 7 (some 27) rfl rfl (fun K hK => ?_)
     refine X0 Tryz.func52 (by kernel_rfl) rfl #[.bool ((bt aU aW) == 45)] (by rfl) rfl rfl zM ?_
     with_reducible refine (X5.calls ((bt aU aW) == 45) bN _ fG.out).mono ?_
     rintro e w' ⟨rfl, ⟨nd, rfl⟩⟩
     refine ⟨_, rfl, ?_⟩
     refine hK.out _ _ (zh aJ.out (zh2 aA.out)) (fun hHeld => ?_)
     clear hK K
     refine zN ?_
     refine zU 8 (some 28) rfl rfl (fun K hK => ?_)
     refine X0 Tryz.func58 (by kernel_rfl) rfl #[.int .i64 bN] (by rfl) rfl rfl zM ?_
     with_reducible refine (Xb.calls bN bO _ fH.out).mono ?_
     rintro e w' ⟨rfl, ⟨nd, rfl⟩⟩
     refine ⟨_, rfl, ?_⟩
     refine hK.out _ _ (zh aJ.out (zh2 aA.out)) (fun hHeld => ?_)
     clear hK K
     refine zN ?_
     refine zP 9 (some 29) rfl rfl ?_
     refine zP 10 (some 30) rfl rfl ?_
     refine jFn (i := 11) (N := none) #[true, true, true, true, true, true, true, true, true, true, true, true] rfl rfl (jAm HT_.out (by kernel_rfl)) (by decide) (fun K hK => ?_)
     have fJ : fI.cell? ⟨aZ, 1, none⟩ = some (.string aC) := (Qj aJ.out 1).trans rfl
     have eP := J8 aJ.out 1
     have bW := aG.out
     have bX := aI.out
     have bY := aN.out
     have bZ := aV.out
     refine jA2 (w1 := ?_) (by rfl) rfl ?_ ?_
     rotate_left
     ·go_simp
      rfl
     refine hK.out _ _ ?_
     clear hK K
     refine Yp (Zu HT_.out (by kernel_rfl)) ?_
     try go_wp2
     go_roundg k1
     case measure => have := dX.out; omega
     case rel => exact ⟨(wrap64 (aW + 1)), (aC ++ bO), zF, H', ⟨by have := dX.out; omega⟩, ⟨zk1 aA.out aG.out⟩, ⟨zk1 aD.out aI.out⟩, ⟨zk0 aJ.out⟩, ⟨zG3 aH.out aQ.out bA.out⟩⟩
    exact absurd H (by simp)
   exact absurd H (by simp)
  simp only [Option.some.injEq, Prod.mk.injEq] at H
  obtain ⟨rfl, rfl, rfl⟩ := H
  have eQ := aK.out
  have eU := aM.out
  have eX := aG.out
  have eY := aN.out
  obtain ⟨cB, cK, cO, cZ⟩ := zq2 aA.out
  have eZ := aV.out
  have fA := aI.out
  obtain ⟨dA, dB, dC, dD⟩ := zq2 aJ.out
  obtain ⟨dE, dF, dG, dH⟩ := zq2 aD.out
  go_wp2
  refine bodyPost_ret (J7 rfl _ _ aY 25 #[.int .i64 aT, .string aC] (0, 0) _ rfl (zk0 aD.out) Tryz.underlying25 rfl (by kernel_rfl)) rfl ?_
  exact ⟨zE, zG3 aH.out aQ.out bA.out⟩
 replace c3 := Bool.eq_false_iff.mpr c3
 subst c3
 replace H := (if_neg zFf).symm.trans H
 simp only [Option.some.injEq, Prod.mk.injEq] at H
 obtain ⟨rfl, rfl, rfl⟩ := H
 go_enter Tryz.func12, Tryz.ntmps12
 go_wp2_with (first | ((with_reducible refine Qm (N := 1) rfl ?_); refine zBx (N := 1) #[.int .i64 aT, .string aU] 25 ?_; intro aX hg fM hbox hb; have aA := Qa.mk (hbox); have bP := zS hg; have aH := zS hg; replace HB := zX hb; clear hb hbox hg) | ((with_reducible refine Qm (N := 2) rfl ?_); refine zBx (N := 2) #[.int .i64 0, .string (⟨#[]⟩ : ByteArray)] 25 ?_; intro aY hg w32 hbox hb; have aD := Qa.mk (hbox); have bQ := zSg hg (zG aH.out); have aQ := zSg hg (zG aH.out); have aK := zL hg aA.out; have aM := zLg hg aA.out; replace aA := zV aA.out hb; replace HB := zX1 aH.out hb; clear hb hbox hg; have fB := aK.out; have fC := aM.out; obtain ⟨dI, dJ, dK, dL⟩ := zq2 aA.out) | ((with_reducible refine Qd (f := 25) rfl ?_); refine zD (some 7) Tryz.func25 _ ((Qu.calls k aT aU false _ A2.out).mono ?_); rintro e fO ⟨rfl, hb⟩; refine ⟨_, rfl, ?_⟩; replace aA := zV aA.out hb; replace aD := zV aD.out hb; replace HB := Qa.mk (Qg (zG2 aH.out aQ.out) hb); (try clear hb); obtain ⟨dM, dN, dO, dP⟩ := zq2 aD.out))
 refine bodyPost_ret (J7 rfl _ _ aY 25 #[.int .i64 0, .string (⟨#[]⟩ : ByteArray)] (0, 0) _ rfl (zk0 aD.out) Tryz.underlying25 rfl (by kernel_rfl)) rfl ?_
 exact ⟨zE, zG2 aH.out aQ.out⟩
def Zg.l0 : Nat → Int → List Int → Int → List Int → Int → Int → Option (List Int × Int × Int)
 | 0, _, _, _, _, _, _ => none
 | k + 1, x1, x5, x6, x1000, aC, aD => if x6 < x1 then ((Q5.f x1000 aC aD (wrap64 ((x5.length : Int) + 1))).bind fun aA => ((some (([] : List Int) : List Int)).bind fun aG => (if 0 ≤ aA.1 then (if aA.1 ≤ (x5.length : Int) then ((some (x5.drop (aA.1 : Int).toNat : List Int)).bind fun aH => (if aG.length + aH.length < 17592186044416 then ((some (aG ++ aH : List Int)).bind fun aI => ((some (x5.take (aA.1 : Int).toNat : List Int)).bind fun aJ => (if aJ.length < 17592186044416 then ((some (aJ ++ [x6] : List Int)).bind fun aK => (if aK.length + aI.length < 17592186044416 then (Zg.l0 k x1 (aK ++ aI) (wrap64 (x6 + 1)) x1000 aA.2.1 aA.2.2) else (none))) else (none)))) else (none))) else (none)) else (none)))) else (some (x5, aC, aD))
def Zg.f (k : Nat) (aA : List Int) (aC : Int) (aD : Int) (a1 : Int) : Option (List Int × Int × Int) := Zg.l0 k a1 (([] : List Int)) 0 aA aC aD
theorem V5 {p q : Prop} (g : p) (h : p → q := by intro zg_; repeat (first | (with_reducible first | exact zg_ | apply Ql.set_ | apply Z5 | apply Zr | apply Z6) | exact zg_)) : q := h g
theorem Ut {p q : Prop} (g : p) (h : p → q := by intro zg_; repeat (first | (with_reducible first | exact zg_ | apply Qc.alloc | apply Qc.drewN | apply Qc.drew | apply Qc.set_1 | apply Qc.set_2) | exact zg_)) : q := h g
theorem jLf {p q p0 : Prop} (g : p) (g0 : p0) (h : p → p0 → q := by intro zg_ aA; repeat (first | (with_reducible first | exact zg_ | apply Qv | apply Qr | apply Qo | refine Qf ?_ aA) | exact zg_)) : q := h g g0
set_option maxHeartbeats 8000000 in
set_option maxRecDepth 100000 in
theorem Zg.calls (k : Nat) (g : Nat) (aN : List Int) (bR : Int) (bS : Int) (a1 : Int) (r1 : List Int) (r2 : Int) (r3 : Int) (w0 w : World) (hI : Qc w0 w g aN bR bS) (hB : Below w0.heap.size w0 w) (h : Zg.f k aN bR bS a1 = some (r1, r2, r3)) :
  Calls Tryz.prog 61 #[.pointer (some ⟨g, 0, none⟩), .int .i64 a1] w fun e w' => ∃ eD : Value, e = .returned (eD) ∧ Kd.R (Kd.int .i64) 3 w' w.heap.size (fun _ => True) eD r1 ∧ Qc w0 w' g aN r2 r3 ∧ Below w0.heap.size w0 w' ∧ Ql w w' g none := by
 have HI0 := Qa.mk hI
 have HK := Qa.mk (Ql.refl w g none)
 have HL := Qa.mk hB.size
 clear hI
 have HW0 := Qa.mk hB.size
 have HB := Qa.mk hB
 clear hB
 have H := h
 unfold Zg.f at H
 clear h
 generalize bJ : (([] : List Int) : List Int) = dJ at H
 have bK := Qa.mk bJ.symm
 clear bJ
 have H' := Qa.mk H; clear H
 go_enter Tryz.func61, Tryz.ntmps61
 go_wp2_with (first | ((with_reducible refine Qm (N := 9) rfl ?_); refine Kd.R_lit (Kd.int .i64) _ 3 ?hg (N := 9) ?hd (xs := ([] : List Int)) (inner := []) (ok := fun _ => True) (okp := fun _ => True) ?hr ?hp (fun _ hk => hk) trivial (Below.refl _ _) (Nat.le_refl _) (by simp) ?_; (case hd => rfl); (case hg => rfl); (case hr => first | (go_simp; done) | (go_simp; rfl)); (case hp => exact (Z0.none _ _)); intro eQ w3 bX hb hg_ hnew_; clear hg_ hnew_; (first | rw [← bK.out] at bX | (simp only [Int.reduceToNat] at bX; rw [← bK.out] at bX)); have aT := Qa.mk (Kd.R_lower bX (Jt (w := w) (g := g) (row := none) (V5 HK.out))); have aU := Qa.mk (Qc.below (Ut HI0.out) hb); have aV := Qa.mk (Ql.trans (V5 HK.out) (Ql.of_below hb g none) (.inl rfl)); have aW := Qa.mk (Qg (zG (Qc.ge HI0.out)) hb); clear HI0; clear HK; clear HB; have bY := aT; have HI0 := aU; have HK := aV; have HB := aW; clear aT aU aV aW; clear hb bX))
 go_loopg [5, 6] k (fun kq v5 v6 w' => ∃ (aD : List Int) (bB : Int) (aH : Int) (aI : Int), v6 = .int .i64 bB ∧ Qa (Zg.l0 kq a1 aD bB aN aH aI = some (r1, r2, r3)) ∧ Qa (kq ≤ k) ∧ Qa (Kd.R (Kd.int .i64) 3 w' w.heap.size (fun _ => True) v5 aD) ∧ Qa (Qc w0 w' g aN aH aI) ∧ Qa (Ql w w' g none) ∧ Qa (Below w0.heap.size w0 w'))
 case atStart => exact ⟨(dJ), (0), (bR), (bS), zF, H', ⟨Nat.le_refl _⟩, ⟨zR bY.out⟩, ⟨(Ut HI0.out)⟩, ⟨(V5 HK.out)⟩, ⟨zG (Qc.ge HI0.out)⟩⟩
 case round =>
 clear H'
 obtain ⟨aD, bB, aH, aI, rfl, HA, eF, aA, HI0, HK, HB⟩ := hrel
 cases gk with
 | zero => exact absurd HA.out (by simp [Zg.l0])
 | succ k1 =>
 have H := HA.out
 clear HA
 simp only [Zg.l0] at H
 replace H := Xr H
 rcases H with ⟨dK, H⟩ | ⟨dK, H⟩
 ·obtain ⟨⟨aC, bZ, cB⟩, A6, H⟩ := zO H
  dsimp only at H
  obtain ⟨dL, bL, H⟩ := zs H
  replace H := Xt H
  rcases H with ⟨eU, eX, H⟩ | ⟨c7, H⟩
  ·replace H := Xt H
   rcases H with ⟨eY, eZ, H⟩ | ⟨c8, H⟩
   ·obtain ⟨aM, bD, H⟩ := zs H
    replace H := X8 H
    rcases H with ⟨c9, H⟩ | ⟨c9, H⟩
    ·have dM := Qa.mk c9
     clear c9
     obtain ⟨bT, cK, H⟩ := zs H
     have eG := eq_true (zA : aC ≤ (aD.length : Int))
     obtain ⟨bU, bM, H⟩ := zs H
     replace H := X8 H
     rcases H with ⟨c11, H⟩ | ⟨c11, H⟩
     ·have cO := Qa.mk c11
      clear c11
      obtain ⟨cZ, dA, H⟩ := zs H
      replace H := X8 H
      rcases H with ⟨c12, H⟩ | ⟨c12, H⟩
      ·have dB := Qa.mk c12
       clear c12
       generalize bN : (cZ ++ bT : List Int) = dN at H
       have dC := Qa.mk bN.symm
       clear bN
       have H' := Qa.mk H; clear H
       obtain ⟨aQ, aJ, dO⟩ := Kd.R_slice aA.out
       subst dO
       go_wp2_with (first | ((with_reducible refine Qd (f := 51) rfl ?_); refine zD (some 19) Tryz.func51 _ ((Q5.calls g aN aH aI (wrap64 ((aD.length : Int) + 1)) aC bZ cB w0 _ ?dD ?dE A6.out).mono ?_); (case dD => exact (Ut HI0.out)); (case dE => exact (jLf HB.out (Qc.ge HI0.out))); rintro e fF ⟨rfl, hi, hb, hk⟩; refine ⟨_, rfl, ?_⟩; replace aA := Qa.mk (Kd.R_mono (Kd.R_keep (Qc.apart (show Qc w0 _ g aN aH aI from (Ut HI0.out)) (zR aA.out) (by decide)) hk (fun _ h => h.2)) (fun _ h => h.1)); replace HK := Qa.mk (Ql.trans (V5 HK.out) hk (.inl rfl)); replace HI0 := Qa.mk (hi); replace HB := Qa.mk (hb); (try clear hb); (try clear hk); (try clear hi)) | ((with_reducible refine Qm (N := 20) rfl ?_); refine Kd.R_lit (Kd.int .i64) _ 3 ?hg (N := 20) ?hd (xs := ([] : List Int)) (inner := []) (ok := fun _ => True) (okp := fun _ => True) ?hr ?hp (fun _ hk => hk) trivial (Below.refl _ _) (Nat.le_refl _) (by simp) ?_; (case hd => rfl); (case hg => rfl); (case hr => first | (go_simp; done) | (go_simp; rfl)); (case hp => exact (Z0.none _ _)); intro dP fG bC hb hg_ hnew_; clear hg_ hnew_; (first | rw [← bL.out] at bC | (simp only [Int.reduceToNat] at bC; rw [← bL.out] at bC)); have aT := Qa.mk (Kd.R_elder' (zR aA.out) (Kd.R_base bC) hb); have aU := Qa.mk (Kd.R_lower (Kd.R_new' bC (Kd.R_lt (zR aA.out))) (Jt (w := w) (g := g) (row := none) (V5 HK.out))); have aV := Qa.mk (Qc.below (Ut HI0.out) hb); have aW := Qa.mk (Ql.trans (V5 HK.out) (Ql.of_below hb g none) (.inl rfl)); have bE := Qa.mk (Qg (zG (Qc.ge HI0.out)) hb); clear aA; clear HI0; clear HK; clear HB; have aA := aT; have aX := aU; have HI0 := aV; have HK := aW; have HB := bE; clear aT aU aV aW bE; clear hb bC; have dQ : (aC : Int) ≤ ((aD.length : Int) : Int) := zA; obtain ⟨fA, bO, _, bP, _⟩ := info_parts info3; have aK : aD.length ≤ aJ := (Kd.R_reads' aA.out).2.1; have dF : Kd.C (Kd.int .i64) _ aQ aD.length aD := (Kd.R_reads' aA.out).2.2; have dR : (0 : Int) ≤ (aC : Int) := zA; have bV := jIx (P := Tryz.prog) 34 3 .i64 Tryz.underlying34 bO 1 bP aQ aD.length aJ aC dR dQ; have bF := Kd.C_drop (m := (aC : Int).toNat) (c := aJ) dF (by omega) aK; obtain ⟨eH, bG⟩ : ∃ A1, A1 = (if aJ = (aC : Int).toNat then aQ else (aQ : Option Addr).map (·.add ((aC : Int).toNat * 1))) := ⟨_, rfl⟩; obtain ⟨c17, hc17⟩ : ∃ c1, c1 = aJ - (aC : Int).toNat := ⟨_, rfl⟩; have bH : aM.length = aD.length - (aC : Int).toNat := (by rw [bD.out, List.length_drop] <;> omega); rw [show (aD).drop (aC : Int).toNat = aM from bD.out.symm] at bF; replace bF : Kd.C (Kd.int .i64) _ eH aM.length aM := (by rw [bG]; exact bF); rw [← bH, ← bG, ← hc17] at bV; have aY := Qa.mk bF; have eO := Qa.mk (show aM.length ≤ c17 from by rw [bH, hc17]; exact Nat.sub_le_sub_right aK _); clear bF dF aK bO bP hc17; have fB := Qa.mk bH; have dS := Qa.mk bG; clear bH bG; have dU := Qa.mk (show (aC : Int).toNat ≤ aD.length from by omega); replace dQ := eq_true dQ) | ((with_reducible refine Zy (b := .append) (xs := #[.tmp 20, .tmp 23]) rfl ?_); at_builtin; refine Kd.R_append_rows (Kd.int .i64) w.heap.size rfl (.tmp 20) (.tmp 23) 34 3 (.int .i64 0) 8 rfl Tryz.underlying34 info3 rfl (by decide) (by omega) dP dL aM _ _ _ (fun k_ => some k_ ≠ (.slice aQ aD.length aJ : Value).ownBlock) (fun _ => False) rfl rfl ?aO ?aR (fun _ _ h => h) (fun _ h => h.elim) ?aF (Below.refl _ _) ?aS ?aL ?_; (case aR => repeat (first | exact (by repeat (first | (with_reducible exact aY.out) | (with_reducible refine Kd.C_alloc ?_ _) | (with_reducible refine Kd.C_drewN ?_ _) | (with_reducible refine Kd.C_drew ?_) | exact aY.out)) | (with_reducible refine Kd.C_alloc ?_ _) | (with_reducible refine Kd.C_drewN ?_ _) | (with_reducible refine Kd.C_drew ?_))); (case aF => exact (fun k_ hk => Kd.fresh' (Kd.R_lt (zR aA.out)) k_ hk)); (case aO => exact (zR (Kd.R_mono aX.out (fun _ hk => hk.2)))); (case aS => exact (Jt (w := w) (g := g) (row := none) (V5 HK.out))); (case aL => have := dM.out; omega); intro dV fC ho hb hg hat; rw [← cK.out] at ho; have aT := Qa.mk (Kd.R_after (ok := (fun _ => True)) (zR aA.out) hg hat); have aU := Qa.mk (Qc.grown (Ut HI0.out) hg (Qc.own_ne HI0.out aX.out (by decide))); have aV := Qa.mk (Vk (zG (Qc.ge HI0.out)) HL.out hb); have aW := Qa.mk (Ql.trans (V5 HK.out) (Ql.of_grown hg g) (Kd.R_base2 aX.out)); have bE := Qa.mk ((show Kd.C (Kd.int .i64) fC eH aM.length aM from by rw [bD.out, dS.out]; exact Kd.C_drop (m := (aC : Int).toNat) (c := aJ) ((Kd.R_reads' (Kd.R_after (ok := (fun _ => True)) (zR aA.out) hg hat)).2.2) dU.out ((Kd.R_reads' (Kd.R_after (ok := (fun _ => True)) (zR aA.out) hg hat)).2.1))); have eP := Qa.mk (ho); clear aA; clear HI0; clear HB; clear HK; clear aY; clear aX; have aA := aT; have HI0 := aU; have HB := aV; have HK := aW; have aY := bE; have aG := eP; clear aT aU aV aW bE eP; clear ho hb hg hat; have dW : (aC : Int) ≤ ((aD.length : Int) : Int) := zA; obtain ⟨fD, bQ, _, dG, _⟩ := info_parts info3; have bW := jK5 (P := Tryz.prog) 34 3 .i64 Tryz.underlying34 bQ aQ aD.length aJ aC (zA) dW (Kd.R_reads' aA.out).2.1; have bI := Kd.R_take (m := (aC : Int).toNat) aA.out (by omega); have dH : bU.length = (aC : Int).toNat := (by rw [bM.out, List.length_take]; omega); rw [← bM.out] at bI; rw [← dH] at bI bW; clear dH bQ dG aA; have aZ := Qa.mk bI; clear bI; replace dW := eq_true dW) | ((with_reducible refine Zy (b := .append) (xs := #[.tmp 27, .tmp 29]) rfl ?_); at_builtin; refine Kd.R_append (Kd.int .i64) w.heap.size rfl (.tmp 27) (.tmp 29) 34 3 (.int .i64 0) 8 rfl Tryz.underlying34 info3 rfl (by decide) (by omega) (.slice aQ bU.length aJ) bU bB [.int .i64 bB] (fun k_ => some k_ ≠ (dV : Value).ownBlock) (fun _ => False) rfl rfl ?aP (fun _ hk => hk.elim) ?aF ?aO (Below.refl _ _) ?aS ?aL ?_; (case aP => exact rfl); (case aF => exact (fun k_ hk => Kd.fresh' (Kd.R_lt (zR aG.out)) k_ hk)); (case aO => exact (zR (Kd.R_mono aZ.out (fun _ hk => hk.2)))); (case aS => exact (Jt (w := w) (g := g) (row := none) (V5 HK.out))); (case aL => have := cO.out; omega); intro dX fH ho hb hg hat; rw [← dA.out] at ho; have aT := Qa.mk (Qc.grown (Ut HI0.out) hg (Qc.own_ne HI0.out aZ.out (by decide))); have aU := Qa.mk (Kd.R_after (ok := (fun _ => True)) (by (with_reducible repeat (first | apply Kd.R_alloc | apply Kd.R_drewN | apply Kd.R_drew)); exact Kd.R_mono aG.out (fun _ hk => ⟨trivial, by first | exact hk | exact fun e_ => hk (e_.trans (jJa _ _ _ _ _))⟩)) hg hat); have aV := Qa.mk (Vk (zG (Qc.ge HI0.out)) HL.out hb); have aW := Qa.mk (Ql.trans (V5 HK.out) (Ql.of_grown hg g) (Kd.R_base2 aZ.out)); have bE := Qa.mk (ho); clear HI0; clear aG; clear HB; clear HK; clear aZ; have HI0 := aT; have aG := aU; have HB := aV; have HK := aW; have bA := bE; clear aT aU aV aW bE; clear ho hb hg hat; obtain ⟨dY, dZ, eB⟩ := Kd.R_slice aG.out; subst eB) | ((with_reducible refine Zy (b := .append) (xs := #[.tmp 30, .tmp 31]) rfl ?_); at_builtin; refine Kd.R_append_rows (Kd.int .i64) w.heap.size rfl (.tmp 30) (.tmp 31) 34 3 (.int .i64 0) 8 rfl Tryz.underlying34 info3 rfl (by decide) (by omega) dX cZ bT _ _ _ (fun k_ => some k_ ≠ (.slice dY bT.length dZ : Value).ownBlock) (fun _ => False) rfl rfl ?aO ?aR (fun _ _ h => h) (fun _ h => h.elim) ?aF (Below.refl _ _) ?aS ?aL ?_; (case aR => repeat (first | exact (Kd.R_reads' aG.out).2.2 | (with_reducible refine Kd.C_alloc ?_ _) | (with_reducible refine Kd.C_drewN ?_ _) | (with_reducible refine Kd.C_drew ?_))); (case aF => exact (fun k_ hk => Kd.fresh' (Kd.R_lt (zR aG.out)) k_ hk)); (case aO => exact (zR bA.out)); (case aS => exact (Jt (w := w) (g := g) (row := none) (V5 HK.out))); (case aL => have := dB.out; omega); intro fE fI ho hb hg hat; rw [← dC.out] at ho; have aT := Qa.mk (Qc.grown (Ut HI0.out) hg (Qc.own_ne HI0.out bA.out (by decide))); have aU := Qa.mk (Kd.R_after (ok := (fun _ => True)) (zR aG.out) hg hat); have aV := Qa.mk (Vk (zG (Qc.ge HI0.out)) HL.out hb); have aW := Qa.mk (Ql.trans (V5 HK.out) (Ql.of_grown hg g) (Kd.R_base2 bA.out)); have bE := Qa.mk (ho); clear HI0; clear aG; clear HB; clear HK; clear bA; have HI0 := aT; have aG := aU; have HB := aV; have HK := aW; have dI := bE; clear aT aU aV aW bE; clear ho hb hg hat))
       go_roundg k1
       case measure => have := eF.out; omega
       case rel => exact ⟨(dN), (wrap64 (bB + 1)), (bZ), (cB), zF, H', ⟨by have := eF.out; omega⟩, ⟨zR (Kd.R_mono dI.out (fun _ hk => trivial))⟩, ⟨(Ut HI0.out)⟩, ⟨(V5 HK.out)⟩, ⟨zG (Qc.ge HI0.out)⟩⟩
      exact absurd H (by simp)
     exact absurd H (by simp)
    exact absurd H (by simp)
   exact absurd H (by simp)
  exact absurd H (by simp)
 simp only [Option.some.injEq, Prod.mk.injEq] at H
 obtain ⟨rfl, rfl, rfl⟩ := H
 go_wp2
 go_ret
 exact ⟨_, zE, zR aA.out, (Ut HI0.out), zG (Qc.ge HI0.out), (V5 HK.out)⟩
def Zp.f (k : Nat) (l0 : List Int) : Option (Int × ByteArray × List Int) := (J4.f k l0).bind fun aC => ((Jz.f k aC.1 aC.2.1 aC.2.2).bind fun aA => ((Zg.f k aC.1 aA.2.2.1 aA.2.2.2 aA.1).bind fun aD => ((Zw.f aC.1 aD.2.1 aD.2.2 12).bind fun aG => (if aG.1 = true then ((Q5.f aC.1 aG.2.1 aG.2.2 9).bind fun aH => (if 0 < (aD.1.length : Int) then (some (aA.1, aA.2.1, (aD.1.set (0 : Int).toNat (wrap64 (aH.1 - 1))))) else (none))) else (some (aA.1, aA.2.1, aD.1))))))
theorem jJk {p q p0 : Prop} (g : p) (g0 : p0) (h : p → p0 → q := by intro zg_ aA; repeat (first | (with_reducible first | exact zg_ | apply Qv | apply Qr | apply Qo | refine Qf ?_ aA) | exact zg_)) : q := h g g0
theorem Wx {p q p0 : Prop} (g : p) (g0 : p0) (h : p → p0 → q := by intro zg_ aA; repeat (first | (with_reducible first | exact zg_ | apply Qc.alloc | apply Qc.drewN | apply Qc.drew | apply Qc.set_1 | apply Qc.set_2 | refine Qc.far ?_ aA _) | exact zg_)) : q := h g g0
theorem jJv {p q p0 p1 : Prop} (g : p) (g0 : p0) (g1 : p1) (h : p → p0 → p1 → q := by intro zg_ aA aC; repeat (first | (with_reducible first | exact zg_ | apply Qv | apply Qr | apply Qo | refine Qf ?_ aA | refine Qf ?_ aC) | exact zg_)) : q := h g g0 g1
theorem U8 {p q p0 p1 : Prop} (g : p) (g0 : p0) (g1 : p1) (h : p → p0 → p1 → q := by intro zg_ aA aC; repeat (first | (with_reducible first | exact zg_ | apply Qc.alloc | apply Qc.drewN | apply Qc.drew | apply Qc.set_1 | apply Qc.set_2 | refine Qc.far ?_ aA _ | refine Qc.far ?_ aC _) | exact zg_)) : q := h g g0 g1
theorem jDj {p q p0 p1 p2 : Prop} (g : p) (g0 : p0) (g1 : p1) (g2 : p2) (h : p → p0 → p1 → p2 → q := by intro zg_ aA aC aD; repeat (first | (with_reducible first | exact zg_ | apply Qv | apply Qr | apply Qo | refine Qf ?_ aA | refine Qf ?_ aC | refine Qf ?_ aD) | exact zg_)) : q := h g g0 g1 g2
set_option maxHeartbeats 8000000 in
set_option maxRecDepth 100000 in
theorem Zp.calls (k : Nat) (A0 : Option Addr) (c0 : Nat) (l0 : List Int) (r1 : Int) (r2 : ByteArray) (r3 : List Int) (w : World) (hr0 : Kd.C (Kd.int .u8) w A0 l0.length l0) (hc0 : l0.length ≤ c0) (h : Zp.f k l0 = some (r1, r2, r3)) :
  Calls Tryz.prog 13 #[.slice A0 l0.length c0] w fun e w' => ∃ eX : Value, e = .returned (.tuple #[.agg #[.int .i64 r1, .string r2], eX]) ∧ Kd.R (Kd.int .i64) 3 w' w.heap.size (fun _ => True) eX r3 ∧ Below w.heap.size w w' := by
 have fU := Tryz.underlying25
 have eY := Qa.mk hr0
 have eZ := Qa.mk hc0
 clear hr0 hc0
 have HB := Qa.mk (Below.refl w.heap.size w)
 have H := h
 unfold Zp.f at H
 clear h
 obtain ⟨⟨aW, bI, bJ⟩, A2, H⟩ := zO H
 dsimp only at H
 obtain ⟨⟨bA, bB, bC, bD⟩, A3, H⟩ := zO H
 dsimp only at H
 obtain ⟨⟨bE, bF, bG⟩, A4, H⟩ := zO H
 dsimp only at H
 obtain ⟨⟨eD, bK, bL⟩, A5, H⟩ := zO H
 dsimp only at H
 by_cases c6 : eD = true
 ·subst c6
  replace H := (if_pos rfl).symm.trans H
  obtain ⟨⟨bM, eF, eG⟩, A7, H⟩ := zO H
  dsimp only at H
  replace H := V3 H
  rcases H with ⟨c8, fV, H⟩ | ⟨c8, H⟩
  ·have fZ : decide (0 < bE.length) = true := decide_eq_true (by omega)
   clear c8
   generalize bN : (bE.set (0 : Int).toNat (wrap64 (bM - 1)) : List Int) = eH at H
   have bT := Qa.mk bN.symm
   clear bN
   simp only [Option.some.injEq, Prod.mk.injEq] at H
   obtain ⟨rfl, rfl, rfl⟩ := H
   go_enter Tryz.func13, Tryz.ntmps13
   go_wp2_with (first | ((with_reducible refine Qm (N := 2) rfl ?_); refine zBx (N := 2) #[.int .i64 0, .string (⟨#[]⟩ : ByteArray)] 25 ?_; intro aU hg gG hbox hb; have aD := Qa.mk (hbox); have bU := zS hg; have aI := zS hg; replace HB := zX hb; clear hb hbox hg) | ((with_reducible refine Qd (f := 49) rfl ?_); refine zD (some 8) Tryz.func49 #[.slice A0 l0.length c0] ((J4.calls k _ _ l0 aW bI bJ w _ ?aN ?aQ ?bH A2.out).mono ?_); (case aN => exact (jJk HB.out aI.out)); (case aQ => exact eY.out); (case bH => exact eZ.out); rintro e gH ⟨aV, rfl, hi, hb, hb2⟩; refine ⟨_, rfl, ?_⟩; have aA := Qa.mk (hi); have aC := Qa.mk (Qc.ne_blk hi (Qh (g := aU) (o := .cells #[.int .i64 0, .string (⟨#[]⟩ : ByteArray)] 25 (0, 0)) (zK aD.out) hb2) (by decide)); have aH := Qa.mk (Ne.symm (Qc.ne_blk hi (Qh (g := aU) (o := .cells #[.int .i64 0, .string (⟨#[]⟩ : ByteArray)] 25 (0, 0)) (zK aD.out) hb2) (by decide))); replace aD := Qa.mk (Qh (g := aU) (o := .cells #[.int .i64 0, .string (⟨#[]⟩ : ByteArray)] 25 (0, 0)) (zK aD.out) hb2); replace HB := Qa.mk (hb); (try clear hb); (try clear hb2); (try clear hi)) | ((with_reducible refine Qd (f := 50) rfl ?_); refine zD (some 10) Tryz.func50 _ ((Jz.calls k aV aW bI bJ bA bB bC bD w _ ?aN ?aQ A3.out).mono ?_); (case aN => exact (Wx aA.out aC.out)); (case aQ => exact (jJv HB.out (Qc.ge aA.out) aI.out)); rintro e gI ⟨rfl, hi, hb, hk⟩; refine ⟨_, rfl, ?_⟩; replace aD := zKB hk aD.out aH.out; replace aA := Qa.mk (hi); replace HB := Qa.mk (hb); (try clear hb); (try clear hk); (try clear hi)) | ((with_reducible refine Qm (N := 5) rfl ?_); refine zBx (N := 5) #[.int .i64 0, .string (⟨#[]⟩ : ByteArray)] 25 ?_; intro aZ hg gJ hbox hb; have bV := zV aD.out hb; have bW := Qa.mk (Qc.below (Wx aA.out aC.out) hb); have bX := Qa.mk (Qg (zG2 (Qc.ge aA.out) aI.out) hb); have bY := Qa.mk (hbox); have bZ := zSg hg (zG2 (Qc.ge aA.out) aI.out); have cB := zSg hg (zG2 (Qc.ge aA.out) aI.out); have cK := zL hg aD.out; have cO := zLg hg aD.out; have cZ := Qa.mk ((by rw [hg]; exact Nat.ne_of_lt (Qc.lt (show Qc w _ aV aW bC bD from (Wx aA.out aC.out))) : aV ≠ aZ)); have dA := Qa.mk ((by rw [hg]; exact Nat.ne_of_gt (Qc.lt (show Qc w _ aV aW bC bD from (Wx aA.out aC.out))) : aZ ≠ aV)); clear aD; clear aA; clear HB; have aD := bV; have aA := bW; have HB := bX; have aK := bY; have dB := bZ; have aX := cB; have aM := cK; have aY := cO; have aG := cZ; have aJ := dA; clear bV bW bX bY bZ cB cK cO cZ dA; clear hb hbox hg; have fA := aY.out; have fB := aM.out; have fC := aJ.out; have fD := aG.out; obtain ⟨dC, dD, dE, dF⟩ := zq2 aK.out) | ((with_reducible refine Qd (f := 61) rfl ?_); refine zD (some 14) Tryz.func61 _ ((Zg.calls k aV aW bC bD bA bE bF bG w _ ?aN ?aQ A4.out).mono ?_); (case aN => exact (U8 aA.out aC.out aG.out)); (case aQ => exact (jDj HB.out (Qc.ge aA.out) aI.out aX.out)); rintro e gK ⟨eO, rfl, ho0, hi, hb, hk⟩; refine ⟨_, rfl, ?_⟩; replace aD := Qa.mk (Ql.blk hk (g' := aU) (o := .cells #[.int .i64 0, .string (⟨#[]⟩ : ByteArray)] 25 (0, 0)) (zk2 aD.out aM.out aM.out) aH.out (by simp)); replace aK := Qa.mk (Ql.blk hk (g' := aZ) (o := .cells #[.int .i64 bA, .string bB] 25 (0, 0)) (zk0 aK.out) aJ.out (by simp)); have aT := Qa.mk (Kd.R_lower ho0 (Q6 (zG3 (Qc.ge aA.out) aI.out aX.out))); replace aA := Qa.mk (hi); replace HB := Qa.mk (hb); (try clear hb); (try clear hk); (try clear hi); (try clear ho0)) | ((with_reducible refine Qd (f := 53) rfl ?_); refine zD (some 16) Tryz.func53 _ ((Zw.calls aV aW bF bG 12 true bK bL w _ ?aN ?aQ A5.out).mono ?_); (case aN => exact (U8 aA.out aC.out aG.out)); (case aQ => exact (jDj HB.out (Qc.ge aA.out) aI.out aX.out)); rintro e gL ⟨rfl, hi, hb, hk⟩; refine ⟨_, rfl, ?_⟩; replace aD := zKB hk aD.out aH.out; replace aK := zKB hk aK.out aJ.out; replace aT := Qa.mk (Kd.R_mono (Kd.R_keep (Qc.apart (show Qc w _ aV aW bF bG from (U8 aA.out aC.out aG.out)) (zR aT.out) (by decide)) hk (fun _ h => h.2)) (fun _ h => h.1)); replace aA := Qa.mk (hi); replace HB := Qa.mk (hb); (try clear hb); (try clear hk); (try clear hi)) | ((with_reducible refine Qd (f := 51) rfl ?_); refine zD (some 19) Tryz.func51 _ ((Q5.calls aV aW bK bL 9 bM eF eG w _ ?aN ?aQ A7.out).mono ?_); (case aN => exact (U8 aA.out aC.out aG.out)); (case aQ => exact (jDj HB.out (Qc.ge aA.out) aI.out aX.out)); rintro e fE ⟨rfl, hi, hb, hk⟩; refine ⟨_, rfl, ?_⟩; replace aD := zKB hk aD.out aH.out; replace aK := zKB hk aK.out aJ.out; replace aT := Qa.mk (Kd.R_mono (Kd.R_keep (Qc.apart (show Qc w _ aV aW bK bL from (U8 aA.out aC.out aG.out)) (zR aT.out) (by decide)) hk (fun _ h => h.2)) (fun _ h => h.1)); replace aA := Qa.mk (hi); replace HB := Qa.mk (hb); (try clear hb); (try clear hk); (try clear hi); have p9 : 0 ≤ (0 : Int) := (by omega); have q9 : (0 : Int) < ((bE.length : Int) : Int) := zA; have gM : (0 < bE.length) = True := eq_true (by omega); obtain ⟨eP, gB, fF, fG, gD, gN, fH⟩ := Kd.R_form aT.out (by omega); (first | cases fF | (injection fF with ea_ en_ ec_; (first | subst ea_ | (injection ea_ with ea_; subst ea_)); subst ec_; clear en_)); have gF := Qa.mk fG; have gP := Qa.mk fH; clear fG gD fH; obtain ⟨bO, bP⟩ := Kd.R_celln 0 aT.out (0 : Int) p9 q9; (try rw [show ((0 : Int)).toNat = 0 from rfl] at bO); (try simp only [Nat.reduceMul, Nat.zero_mul, Nat.zero_add, Nat.reduceAdd] at bO); (try rw [show ((0 : Int)).toNat = 0 from rfl] at bP); (try simp only [Nat.reduceMul, Nat.zero_mul, Nat.zero_add, Nat.reduceAdd] at bP); replace p9 := eq_true p9; replace q9 := eq_true q9; obtain ⟨bQ, bR⟩ := Kd.R_celln 0 aT.out (0 : Int) (by omega) (zA); (try simp only [Int.reduceToNat, Int.toNat_zero, Int.toNat_ofNat, Nat.reduceMul, Nat.zero_mul, Nat.zero_add] at bQ bR); (try rw [show ((0 : Int)).toNat = 0 from rfl] at bQ); (try rw [show ((0 : Int)).toNat = 0 from rfl] at bR); have bS := Kd.R_putg aT.out (0 : Int) (wrap64 (bM - 1))) | ((with_reducible refine Vq (t := 3) (p := 21) rfl ?_); refine Ve (t := 3) (p := 21) (v := ?eQ) (w1 := (fE.setCell ⟨eP, (0 : Int).toNat, none⟩ (.int .i64 (wrap64 (bM - 1))))) ?hg ?ho ?hn ?hr ?_; (case ho => rfl); (case hg => rfl); (case hn => rfl); (case hr => first | (go_simp; done) | (go_simp; rfl)); intro eU hw; have hg : fE.grownBy eU (some eP) := (by rw [hw]; exact bS.2); have hp_ : Kd.R (Kd.int .i64) 3 eU w.heap.size (fun _ => True) (.slice (some ⟨eP, 0, none⟩) bE.length gB) eH := (by rw [hw, bT.out]; exact bS.1); clear bS; replace aD := Qa.mk (Vl (g := aU) (o := .cells #[.int .i64 0, .string (⟨#[]⟩ : ByteArray)] 25 (0, 0)) (zK aD.out) hg (Kd.R_ne aT.out aD.out (by decide))); replace aA := Qa.mk (Qc.grown (U8 aA.out aC.out aG.out) hg (Qc.own_ne aA.out aT.out (by decide))); replace aK := Qa.mk (Vl (g := aZ) (o := .cells #[.int .i64 bA, .string bB] 25 (0, 0)) (zK aK.out) hg (Kd.R_ne aT.out aK.out (by decide))); replace aT := Qa.mk (hp_); replace HB := Qa.mk ((by rw [hw]; exact Qf (HB.out) gF.out : Below w.heap.size w eU)); clear hg hw hp_; obtain ⟨dG, dH, dI, dJ⟩ := zq2 aK.out; have fI := aH.out; have fJ := aC.out; obtain ⟨dK, dL, dM, dN⟩ := zq2 aD.out))
   refine bodyPost_ret (J7 rfl _ _ aU 25 #[.int .i64 bA, .string bB] (0, 0) _ rfl (zk0 aD.out) Tryz.underlying25 rfl (by kernel_rfl)) rfl ?_
   exact ⟨_, zE, by (with_reducible repeat (first | apply Kd.R_alloc | apply Kd.R_drewN | apply Kd.R_drew)); exact Kd.R_mono (Kd.R_far (p := ⟨aU, 1, none⟩) (Kd.R_far (p := ⟨aU, 0, none⟩) (Kd.R_types aT.out aD.out (by decide)) (fun _ hk => hk.2) (.int .i64 bA)) (fun _ hk => hk.2) (.string bB)) (fun _ hk => trivial), zG3 (Qc.ge aA.out) aI.out aX.out⟩
  exact absurd H (by simp)
 replace c6 := Bool.eq_false_iff.mpr c6
 subst c6
 replace H := (if_neg zFf).symm.trans H
 simp only [Option.some.injEq, Prod.mk.injEq] at H
 obtain ⟨rfl, rfl, rfl⟩ := H
 go_enter Tryz.func13, Tryz.ntmps13
 go_wp2_with (first | ((with_reducible refine Qm (N := 2) rfl ?_); refine zBx (N := 2) #[.int .i64 0, .string (⟨#[]⟩ : ByteArray)] 25 ?_; intro aU hg gQ hbox hb; have aD := Qa.mk (hbox); have bU := zS hg; have aI := zS hg; replace HB := zX hb; clear hb hbox hg) | ((with_reducible refine Qd (f := 49) rfl ?_); refine zD (some 8) Tryz.func49 #[.slice A0 l0.length c0] ((J4.calls k _ _ l0 aW bI bJ w _ ?aN ?aQ ?bH A2.out).mono ?_); (case aN => exact (jJk HB.out aI.out)); (case aQ => exact eY.out); (case bH => exact eZ.out); rintro e gT ⟨aV, rfl, hi, hb, hb2⟩; refine ⟨_, rfl, ?_⟩; have aA := Qa.mk (hi); have aC := Qa.mk (Qc.ne_blk hi (Qh (g := aU) (o := .cells #[.int .i64 0, .string (⟨#[]⟩ : ByteArray)] 25 (0, 0)) (zK aD.out) hb2) (by decide)); have aH := Qa.mk (Ne.symm (Qc.ne_blk hi (Qh (g := aU) (o := .cells #[.int .i64 0, .string (⟨#[]⟩ : ByteArray)] 25 (0, 0)) (zK aD.out) hb2) (by decide))); replace aD := Qa.mk (Qh (g := aU) (o := .cells #[.int .i64 0, .string (⟨#[]⟩ : ByteArray)] 25 (0, 0)) (zK aD.out) hb2); replace HB := Qa.mk (hb); (try clear hb); (try clear hb2); (try clear hi)) | ((with_reducible refine Qd (f := 50) rfl ?_); refine zD (some 10) Tryz.func50 _ ((Jz.calls k aV aW bI bJ bA bB bC bD w _ ?aN ?aQ A3.out).mono ?_); (case aN => exact (Wx aA.out aC.out)); (case aQ => exact (jJv HB.out (Qc.ge aA.out) aI.out)); rintro e gU ⟨rfl, hi, hb, hk⟩; refine ⟨_, rfl, ?_⟩; replace aD := zKB hk aD.out aH.out; replace aA := Qa.mk (hi); replace HB := Qa.mk (hb); (try clear hb); (try clear hk); (try clear hi)) | ((with_reducible refine Qm (N := 5) rfl ?_); refine zBx (N := 5) #[.int .i64 0, .string (⟨#[]⟩ : ByteArray)] 25 ?_; intro aZ hg gV hbox hb; have bV := zV aD.out hb; have bW := Qa.mk (Qc.below (Wx aA.out aC.out) hb); have bX := Qa.mk (Qg (zG2 (Qc.ge aA.out) aI.out) hb); have bY := Qa.mk (hbox); have bZ := zSg hg (zG2 (Qc.ge aA.out) aI.out); have cB := zSg hg (zG2 (Qc.ge aA.out) aI.out); have cK := zL hg aD.out; have cO := zLg hg aD.out; have cZ := Qa.mk ((by rw [hg]; exact Nat.ne_of_lt (Qc.lt (show Qc w _ aV aW bC bD from (Wx aA.out aC.out))) : aV ≠ aZ)); have dA := Qa.mk ((by rw [hg]; exact Nat.ne_of_gt (Qc.lt (show Qc w _ aV aW bC bD from (Wx aA.out aC.out))) : aZ ≠ aV)); clear aD; clear aA; clear HB; have aD := bV; have aA := bW; have HB := bX; have aK := bY; have dB := bZ; have aX := cB; have aM := cK; have aY := cO; have aG := cZ; have aJ := dA; clear bV bW bX bY bZ cB cK cO cZ dA; clear hb hbox hg; have fK := aY.out; have fM := aM.out; have fO := aJ.out; have fP := aG.out; obtain ⟨dO, dP, dQ, dR⟩ := zq2 aK.out) | ((with_reducible refine Qd (f := 61) rfl ?_); refine zD (some 14) Tryz.func61 _ ((Zg.calls k aV aW bC bD bA bE bF bG w _ ?aN ?aQ A4.out).mono ?_); (case aN => exact (U8 aA.out aC.out aG.out)); (case aQ => exact (jDj HB.out (Qc.ge aA.out) aI.out aX.out)); rintro e w32 ⟨eO, rfl, ho0, hi, hb, hk⟩; refine ⟨_, rfl, ?_⟩; replace aD := Qa.mk (Ql.blk hk (g' := aU) (o := .cells #[.int .i64 0, .string (⟨#[]⟩ : ByteArray)] 25 (0, 0)) (zk2 aD.out aM.out aM.out) aH.out (by simp)); replace aK := Qa.mk (Ql.blk hk (g' := aZ) (o := .cells #[.int .i64 bA, .string bB] 25 (0, 0)) (zk0 aK.out) aJ.out (by simp)); have aT := Qa.mk (Kd.R_lower ho0 (Q6 (zG3 (Qc.ge aA.out) aI.out aX.out))); replace aA := Qa.mk (hi); replace HB := Qa.mk (hb); (try clear hb); (try clear hk); (try clear hi); (try clear ho0)) | ((with_reducible refine Qd (f := 53) rfl ?_); refine zD (some 16) Tryz.func53 _ ((Zw.calls aV aW bF bG 12 false bK bL w _ ?aN ?aQ A5.out).mono ?_); (case aN => exact (U8 aA.out aC.out aG.out)); (case aQ => exact (jDj HB.out (Qc.ge aA.out) aI.out aX.out)); rintro e gW ⟨rfl, hi, hb, hk⟩; refine ⟨_, rfl, ?_⟩; replace aD := zKB hk aD.out aH.out; replace aK := zKB hk aK.out aJ.out; replace aT := Qa.mk (Kd.R_mono (Kd.R_keep (Qc.apart (show Qc w _ aV aW bF bG from (U8 aA.out aC.out aG.out)) (zR aT.out) (by decide)) hk (fun _ h => h.2)) (fun _ h => h.1)); replace aA := Qa.mk (hi); replace HB := Qa.mk (hb); (try clear hb); (try clear hk); (try clear hi); obtain ⟨dS, dU, dV, dW⟩ := zq2 aK.out; have fQ := aH.out; have fT := aC.out; obtain ⟨dX, dY, dZ, eB⟩ := zq2 aD.out))
 refine bodyPost_ret (J7 rfl _ _ aU 25 #[.int .i64 bA, .string bB] (0, 0) _ rfl (zk0 aD.out) Tryz.underlying25 rfl (by kernel_rfl)) rfl ?_
 exact ⟨_, zE, by (with_reducible repeat (first | apply Kd.R_alloc | apply Kd.R_drewN | apply Kd.R_drew)); exact Kd.R_mono (Kd.R_far (p := ⟨aU, 1, none⟩) (Kd.R_far (p := ⟨aU, 0, none⟩) (Kd.R_types aT.out aD.out (by decide)) (fun _ hk => hk.2) (.int .i64 bA)) (fun _ hk => hk.2) (.string bB)) (fun _ hk => trivial), zG3 (Qc.ge aA.out) aI.out aX.out⟩
def Zt.f (a0 : Int) (a1 : Int) : Option (Bool) := if a1 ≥ 0 then (some (decide (a1 < a0))) else (some false)
set_option maxHeartbeats 8000000 in
set_option maxRecDepth 100000 in
theorem Zt.calls (a0 : Int) (a1 : Int) (r : Bool) (w : World) (h : Zt.f a0 a1 = some r) :
  Calls Tryz.prog 69 #[.int .i64 a0, .int .i64 a1] w fun e w' => e = .returned (.bool r) ∧ Jj w w' := by
 have H := h
 unfold Zt.f at H
 clear h
 replace H := X8 H
 rcases H with ⟨c3, H⟩ | ⟨c3, H⟩
 ·have aA : decide (0 ≤ a1) = true := decide_eq_true c3
  clear c3
  obtain rfl := Option.some.inj H
  go_enter Tryz.func69, Tryz.ntmps69
  go_wp2
  go_ret
  exact ⟨by first | rfl | (simp; done) | (simp [*]; done), by repeat (first | exact Jj.refl _ | apply Jj.step)⟩
 have aA : decide (0 ≤ a1) = false := decide_eq_false c3
 clear c3
 obtain rfl := Option.some.inj H
 go_enter Tryz.func69, Tryz.ntmps69
 go_wp2
 go_ret
 exact ⟨by first | rfl | (simp; done) | (simp [*]; done), by repeat (first | exact Jj.refl _ | apply Jj.step)⟩
def Qx.l0 : Nat → List Int → Int → Int → Int → Option (Int)
 | 0, _, _, _, _ => none
 | k + 1, x0, x1, x7, x8 => if x8 < x7 then (if 0 ≤ x8 then (if x8 < (x0.length : Int) then (if x1 = (rd x0 x8) then (some x8) else (Qx.l0 k x0 x1 x7 (wrap64 (x8 + 1)))) else (none)) else (none)) else (some (-1))
def Qx.f (k : Nat) (l0 : List Int) (a1 : Int) : Option (Int) := Qx.l0 k l0 a1 (l0.length : Int) 0
theorem Qx.mono_l : ∀ k, (∀ y0 y1 y2 y3, LeO (Qx.l0 k y0 y1 y2 y3) (Qx.l0 (k + 1) y0 y1 y2 y3))
 | 0 => fun _ _ _ _ r h => by simp [Qx.l0] at h
 | k + 1 => by
  have aA := Qx.mono_l k
  ·intro y0 y1 y2 y3
   unfold Qx.l0
   repeat' first
   | (with_reducible first | exact aA .. | exact LeO.refl _ | exact LeO.none _ | refine LeO.ite ?_ ?_ | refine LeO.bind ?_ (fun _ => ?_))
   | exact aA .. | exact LeO.none _ | refine LeO.ite ?_ ?_ | refine LeO.bind ?_ (fun _ => ?_)
theorem Qx.mono : ∀ a0 a1 k, LeO (Qx.f k a0 a1) (Qx.f (k + 1) a0 a1) := by
 intro a0 a1 k
 have aA := Qx.mono_l k
 unfold Qx.f
 repeat' first
   | (with_reducible first | exact aA .. | exact LeO.refl _ | exact LeO.none _ | refine LeO.ite ?_ ?_ | refine LeO.bind ?_ (fun _ => ?_))
   | exact aA .. | exact LeO.none _ | refine LeO.ite ?_ ?_ | refine LeO.bind ?_ (fun _ => ?_)
set_option maxHeartbeats 8000000 in
set_option maxRecDepth 100000 in
theorem Qx.calls (k : Nat) (A0 : Option Addr) (c0 : Nat) (l0 : List Int) (a1 : Int) (r : Int) (w : World) (hr0 : Kd.C (Kd.int .i64) w A0 l0.length l0) (hc0 : l0.length ≤ c0) (h : Qx.f k l0 a1 = some r) :
  Calls Tryz.prog 116 #[.slice A0 l0.length c0, .int .i64 a1] w fun e w' => e = .returned (.int .i64 r) ∧ Jj w w' := by
 have aN := Qa.mk hr0
 have aV := Qa.mk hc0
 clear hr0 hc0
 have H := h
 unfold Qx.f at H
 clear h
 have H' := Qa.mk H; clear H
 go_enter Tryz.func116, Tryz.ntmps116
 go_wp2
 go_loopg [8] k (fun kq v8 w' => ∃ (aA : Int), v8 = .int .i64 aA ∧ Qa (Qx.l0 kq l0 a1 (l0.length : Int) aA = some r) ∧ Qa (kq ≤ k) ∧ Jj w w')
 case atStart => exact ⟨(0), zF, H', ⟨Nat.le_refl _⟩, by repeat (first | exact Jj.refl _ | apply Jj.step)⟩
 case round =>
 clear H'
 obtain ⟨aA, rfl, HA, aQ, ⟨m1, rfl⟩⟩ := hrel
 cases gk with
 | zero => exact absurd HA.out (by simp [Qx.l0])
 | succ k1 =>
 have H := HA.out
 clear HA
 simp only [Qx.l0] at H
 replace H := Xr H
 rcases H with ⟨aJ, H⟩ | ⟨aJ, H⟩
 ·replace H := J5 H
  rcases H with ⟨aT, H⟩ | ⟨c4, H⟩
  ·replace H := J5 H
   rcases H with ⟨aU, H⟩ | ⟨c5, H⟩
   ·replace H := Zc H
    rcases H with ⟨aK, aM, H⟩ | ⟨c6, aK, aM, H⟩
    ·obtain rfl := Option.some.inj H
     have aC : 0 ≤ (aA : Int) := zA
     have aD : aA < (l0.length : Int) := zA
     obtain ⟨aI, aH, aG⟩ := Kd.at_int aN.out aA aC aD
     cases aH
     replace aC := eq_true aC
     replace aD := eq_true aD
     go_wp2
     go_ret
     exact ⟨by first | rfl | (simp; done) | (simp [*]; done), by repeat (first | exact Jj.refl _ | apply Jj.step)⟩
    have H' := Qa.mk H; clear H
    have aC : 0 ≤ (aA : Int) := zA
    have aD : aA < (l0.length : Int) := zA
    obtain ⟨aI, aH, aG⟩ := Kd.at_int aN.out aA aC aD
    cases aH
    replace aC := eq_true aC
    replace aD := eq_true aD
    go_wp2
    go_roundg k1
    case measure => have := aQ.out; omega
    case rel => exact ⟨(wrap64 (aA + 1)), zF, H', ⟨by have := aQ.out; omega⟩, by repeat (first | exact Jj.refl _ | apply Jj.step)⟩
   exact absurd H (by simp)
  exact absurd H (by simp)
 obtain rfl := Option.some.inj H
 go_wp2
 go_ret
 exact ⟨by first | rfl | (simp; done) | (simp [*]; done), by repeat (first | exact Jj.refl _ | apply Jj.step)⟩
def Jo.f (k : Nat) (l0 : List Int) (a1 : Int) : Option (Bool) := (Qx.f k l0 a1).bind fun aA => (some (decide (aA ≥ 0)))
theorem Jo.mono : ∀ a0 a1 k, LeO (Jo.f k a0 a1) (Jo.f (k + 1) a0 a1) := by
 intro a0 a1 k
 unfold Jo.f
 repeat' first
   | (with_reducible exact Qx.mono _ _ _)
   | (with_reducible exact LeO.refl _)
   | (with_reducible exact LeO.none _)
   | (with_reducible refine LeO.ite ?_ ?_)
   | (with_reducible refine LeO.bind ?_ (fun _ => ?_))
   | exact Qx.mono _ _ _
   | exact LeO.none _
   | refine LeO.ite ?_ ?_
   | refine LeO.bind ?_ (fun _ => ?_)
set_option maxHeartbeats 8000000 in
set_option maxRecDepth 100000 in
theorem Jo.calls (k : Nat) (A0 : Option Addr) (c0 : Nat) (l0 : List Int) (a1 : Int) (r : Bool) (w : World) (hr0 : Kd.C (Kd.int .i64) w A0 l0.length l0) (hc0 : l0.length ≤ c0) (h : Jo.f k l0 a1 = some r) :
  Calls Tryz.prog 103 #[.slice A0 l0.length c0, .int .i64 a1] w fun e w' => e = .returned (.bool r) ∧ Jj w w' := by
 have aG := Qa.mk hr0
 have aH := Qa.mk hc0
 clear hr0 hc0
 have H := h
 unfold Jo.f at H
 clear h
 obtain ⟨aD, A3, H⟩ := zO H
 obtain rfl := Option.some.inj H
 go_enter Tryz.func103, Tryz.ntmps103
 go_wp2_with (first | ((with_reducible refine Qd (f := 116) rfl ?_); refine zD (some 7) Tryz.func116 #[.slice A0 l0.length c0, .int .i64 a1] ((Qx.calls k _ _ l0 a1 aD _ ?aA ?aC A3.out).mono ?_); (case aA => exact zc aG.out); (case aC => exact aH.out); rintro e w' ⟨rfl, ⟨nd, rfl⟩⟩; refine ⟨_, rfl, ?_⟩))
 go_ret
 exact ⟨by first | rfl | (simp; done) | (simp [*]; done), by repeat (first | exact Jj.refl _ | apply Jj.step)⟩
def Jl.l0 : Nat → Int → List Int → List Int → Int → Int → Option (Bool)
 | 0, _, _, _, _, _ => none
 | k + 1, x0, x1, x7, x8, x9 => if x9 < x8 then (if 0 ≤ x9 then (if x9 < (x7.length : Int) then ((Zt.f x0 (rd x7 x9)).bind fun aA => (if aA = true then (if x9 ≤ (x1.length : Int) then ((Jo.f k (x1.take (x9 : Int).toNat) (rd x7 x9)).bind fun aC => (if aC = true then (some false) else (Jl.l0 k x0 x1 x7 x8 (wrap64 (x9 + 1))))) else (none)) else (some false))) else (none)) else (none)) else (some true)
def Jl.f (k : Nat) (a0 : Int) (l1 : List Int) : Option (Bool) := Jl.l0 k a0 l1 l1 (l1.length : Int) 0
set_option maxHeartbeats 8000000 in
set_option maxRecDepth 100000 in
theorem Jl.calls (k : Nat) (a0 : Int) (A1 : Option Addr) (c1 : Nat) (l1 : List Int) (r : Bool) (w : World) (hr1 : Kd.C (Kd.int .i64) w A1 l1.length l1) (hc1 : l1.length ≤ c1) (h : Jl.f k a0 l1 = some r) :
  Calls Tryz.prog 62 #[.int .i64 a0, .slice A1 l1.length c1] w fun e w' => e = .returned (.bool r) ∧ Jj w w' := by
 have HR1 := Qa.mk hr1
 have bF := Qa.mk hc1
 clear hr1 hc1
 have H := h
 unfold Jl.f at H
 clear h
 have H' := Qa.mk H; clear H
 go_enter Tryz.func62, Tryz.ntmps62
 go_wp2
 go_loopg [9] k (fun kq v9 w' => ∃ (aA : Int), v9 = .int .i64 aA ∧ Qa (Jl.l0 kq a0 l1 l1 (l1.length : Int) aA = some r) ∧ Qa (kq ≤ k) ∧ Jj w w')
 case atStart => exact ⟨(0), zF, H', ⟨Nat.le_refl _⟩, by repeat (first | exact Jj.refl _ | apply Jj.step)⟩
 case round =>
 clear H'
 obtain ⟨aA, rfl, HA, bG, ⟨m1, rfl⟩⟩ := hrel
 cases gk with
 | zero => exact absurd HA.out (by simp [Jl.l0])
 | succ k1 =>
 have H := HA.out
 clear HA
 simp only [Jl.l0] at H
 replace H := Xr H
 rcases H with ⟨bA, H⟩ | ⟨bA, H⟩
 ·replace H := J5 H
  rcases H with ⟨bI, H⟩ | ⟨c4, H⟩
  ·replace H := J5 H
   rcases H with ⟨bJ, H⟩ | ⟨c5, H⟩
   ·obtain ⟨bB, A6, H⟩ := zO H
    by_cases c7 : bB = true
    ·subst c7
     replace H := (if_pos rfl).symm.trans H
     have bK := eq_true (zA : 0 ≤ aA)
     replace H := Xt H
     rcases H with ⟨bL, bM, H⟩ | ⟨c9, H⟩
     ·obtain ⟨bC, bH, H⟩ := zO H
      by_cases c11 : bC = true
      ·subst c11
       replace H := (if_pos rfl).symm.trans H
       obtain rfl := Option.some.inj H
       have aC : 0 ≤ (aA : Int) := zA
       have aD : aA < (l1.length : Int) := zA
       obtain ⟨aG, aI, aH⟩ := Kd.at_int HR1.out aA aC aD
       cases aI
       replace aC := eq_true aC
       replace aD := eq_true aD
       go_wp2_with (first | ((with_reducible refine Qd (f := 69) rfl ?_); refine zD (some 16) Tryz.func69 _ ((Zt.calls a0 (rd l1 aA) true _ A6.out).mono ?_); rintro e w' ⟨rfl, ⟨nd, rfl⟩⟩; refine ⟨_, rfl, ?_⟩; obtain ⟨bN, aQ, _, aT, _⟩ := info_parts info3; obtain ⟨bD, aW, aX⟩ := U4 (P := Tryz.prog) (Value.int .i64) 0 34 3 .i64 Tryz.underlying34 aQ aT (some aG) c1 l1 aA (zA) (zA) bF.out; have aJ := Qa.mk (Kd.C_of_reads (h1 := fun _ => rfl) (aW _ (Kd.reads_of_C HR1.out))); have aK := Qa.mk aX; clear aW aX aQ aT) | (go_at_call 103; have hq_ : (aA : Int) < (l1.length : Int) := zA; refine U3 (args' := #[.slice _ (l1.take (aA : Int).toNat).length _, .int .i64 (rd l1 aA)]) (by rw [List.length_take, Nat.min_eq_left (by omega)]) ?_; clear hq_; (with_reducible refine (Jo.calls k1 _ _ (l1.take (aA : Int).toNat) (rd l1 aA) true _ ?aM ?aN bH.out).mono ?_); (case aM => exact zc aJ.out); (case aN => exact aK.out); rintro e w' ⟨rfl, ⟨nd, rfl⟩⟩))
       go_ret
       exact ⟨by first | rfl | (simp; done) | (simp [*]; done), by repeat (first | exact Jj.refl _ | apply Jj.step)⟩
      replace c11 := Bool.eq_false_iff.mpr c11
      subst c11
      replace H := (if_neg zFf).symm.trans H
      have H' := Qa.mk H; clear H
      have aC : 0 ≤ (aA : Int) := zA
      have aD : aA < (l1.length : Int) := zA
      obtain ⟨aG, aI, aH⟩ := Kd.at_int HR1.out aA aC aD
      cases aI
      replace aC := eq_true aC
      replace aD := eq_true aD
      go_wp2_with (first | ((with_reducible refine Qd (f := 69) rfl ?_); refine zD (some 16) Tryz.func69 _ ((Zt.calls a0 (rd l1 aA) true _ A6.out).mono ?_); rintro e w' ⟨rfl, ⟨nd, rfl⟩⟩; refine ⟨_, rfl, ?_⟩; obtain ⟨bO, aU, _, aV, _⟩ := info_parts info3; obtain ⟨bE, aY, aZ⟩ := U4 (P := Tryz.prog) (Value.int .i64) 0 34 3 .i64 Tryz.underlying34 aU aV (some aG) c1 l1 aA (zA) (zA) bF.out; have aJ := Qa.mk (Kd.C_of_reads (h1 := fun _ => rfl) (aY _ (Kd.reads_of_C HR1.out))); have aK := Qa.mk aZ; clear aY aZ aU aV) | (go_at_call 103; have hq_ : (aA : Int) < (l1.length : Int) := zA; refine U3 (args' := #[.slice _ (l1.take (aA : Int).toNat).length _, .int .i64 (rd l1 aA)]) (by rw [List.length_take, Nat.min_eq_left (by omega)]) ?_; clear hq_; (with_reducible refine (Jo.calls k1 _ _ (l1.take (aA : Int).toNat) (rd l1 aA) false _ ?aM ?aN bH.out).mono ?_); (case aM => exact zc aJ.out); (case aN => exact aK.out); rintro e w' ⟨rfl, ⟨nd, rfl⟩⟩))
      go_roundg k1
      case measure => have := bG.out; omega
      case rel => exact ⟨(wrap64 (aA + 1)), zF, H', ⟨by have := bG.out; omega⟩, by repeat (first | exact Jj.refl _ | apply Jj.step)⟩
     exact absurd H (by simp)
    replace c7 := Bool.eq_false_iff.mpr c7
    subst c7
    replace H := (if_neg zFf).symm.trans H
    obtain rfl := Option.some.inj H
    have aC : 0 ≤ (aA : Int) := zA
    have aD : aA < (l1.length : Int) := zA
    obtain ⟨aG, aI, aH⟩ := Kd.at_int HR1.out aA aC aD
    cases aI
    replace aC := eq_true aC
    replace aD := eq_true aD
    go_wp2_with (first | ((with_reducible refine Qd (f := 69) rfl ?_); refine zD (some 16) Tryz.func69 _ ((Zt.calls a0 (rd l1 aA) false _ A6.out).mono ?_); rintro e w' ⟨rfl, ⟨nd, rfl⟩⟩; refine ⟨_, rfl, ?_⟩))
    go_ret
    exact ⟨by first | rfl | (simp; done) | (simp [*]; done), by repeat (first | exact Jj.refl _ | apply Jj.step)⟩
   exact absurd H (by simp)
  exact absurd H (by simp)
 obtain rfl := Option.some.inj H
 go_wp2
 go_ret
 exact ⟨by first | rfl | (simp; done) | (simp [*]; done), by repeat (first | exact Jj.refl _ | apply Jj.step)⟩
def Zb.l0 : Nat → List Int → List (S77) → Int → Int → Int → ByteArray → Option (List Int)
 | 0, _, _, _, _, _, _ => none
 | k + 1, x3, aG, aH, aD, aC, aA => if aD < aH then (if 0 ≤ aD then (if aD < (aG.length : Int) then (if aD < (aA.size : Int) then (if (bt aA aD) = 45 then (if x3.length = 344 then ((Jd.f x3 ((Qb aG aD).f0) ((Qb aG aD).f1) ((Qb aG aD).f2) (-1)).bind fun aI => (Zb.l0 k aI aG aH (wrap64 (aD + 1)) aC aA)) else (none)) else (if x3.length = 344 then ((Jd.f x3 ((Qb aG aD).f0) ((Qb aG aD).f1) ((Qb aG aD).f2) 1).bind fun aJ => (Zb.l0 k aJ aG aH (wrap64 (aD + 1)) aC aA)) else (none))) else (none)) else (none)) else (none)) else (some x3)
def Zb.f (k : Nat) (aA : Int) (aD : ByteArray) : Option (List Int) := (Qn.f k aA).bind fun aC => (Zb.l0 k (aA :: List.replicate 343 (0 : Int)) aC (aC.length : Int) 0 aA aD)
theorem jJn {p q p0 p1 : Prop} (g : p) (g0 : p0) (g1 : p1) (h : p → p0 → p1 → q := by intro zg_ aA aC; repeat (first | (with_reducible first | exact zg_ | apply Qv | apply Qr | apply Qo | refine Qf ?_ aA | refine Qf ?_ aC) | exact zg_)) : q := h g g0 g1
set_option maxHeartbeats 8000000 in
set_option maxRecDepth 100000 in
theorem Zb.calls (k : Nat) (aT : Int) (aU : ByteArray) (r : List Int) (w : World) (h : Zb.f k aT aU = some r) :
  Calls Tryz.prog 63 #[.agg #[.int .i64 aT, .string aU]] w fun e w' => ∃ fV : Value, e = .returned (jKf fV) ∧ Kd.R (Kd.int .i64) 74 w' w.heap.size (fun _ => True) fV r ∧ Below w.heap.size w w' := by
 have gP := Tryz.underlying25
 have gQ := Tryz.underlying77
 have HB := Qa.mk (Below.refl w.heap.size w)
 have H := h
 unfold Zb.f at H
 clear h
 generalize bH : (aT :: List.replicate 343 (0 : Int) : List Int) = fJ at H
 have bS := Qa.mk bH.symm
 clear bH
 obtain ⟨aG, A2, H⟩ := zO H
 have H' := Qa.mk H; clear H
 go_enter Tryz.func63, Tryz.ntmps63
 go_wp2_with (first | ((with_reducible refine Qm (N := 1) rfl ?_); refine zBx (N := 1) #[.int .i64 aT, .string aU] 25 ?_; intro aY hg w3 hbox hb; have aC := Qa.mk (hbox); have fZ := zS hg; have aJ := zS hg; replace HB := zX hb; clear hb hbox hg; obtain ⟨bJ, bK, bL, bM⟩ := zq2 aC.out) | ((with_reducible refine Qm (N := 9) rfl ?_); refine Vu (T := 74) (s := 8) (n := aT) rfl rfl ?hx jAf ?_; (case hx => first | rfl | (go_simp; done) | (go_simp; rfl))) | ((with_reducible refine Qm (N := 10) rfl ?_); refine Kn (n := aT) (T := 74) (N := 10) ?hg ?hd ?hr w.heap.size ?hs ?_; (case hd => rfl); (case hg => rfl); (case hr => first | (go_simp; done) | (go_simp; rfl)); (case hs => exact (Q6 (zG aJ.out))); intro bD w5 ho hb; rw [← bS.out] at ho; replace aC := zV aC.out hb; have aZ := Qa.mk (ho); replace HB := zX1 aJ.out hb; clear hb ho; obtain ⟨bN, bO, bP, bQ⟩ := zq2 aC.out) | ((with_reducible refine Qd (f := 55) rfl ?_); refine zD (some 13) Tryz.func55 _ ((Qn.calls k aT aG _ A2.out).mono ?_); rintro e w7 ⟨gT, rfl, ho0, hb⟩; refine ⟨_, rfl, ?_⟩; replace aZ := zW aZ.out hb; have bI := Qa.mk (Kd.R_lower ho0 (Q6 (zG aJ.out))); replace aC := zV aC.out hb; replace HB := zX1 aJ.out hb; (try clear hb); (try clear ho0); obtain ⟨gU, fK, gV⟩ := Kd.R_slice bI.out; subst gV))
 go_loopg [15] k (fun kq v15 w' => ∃ (aN : List Int) (aA : Int), v15 = .int .i64 aA ∧ Qa (Zb.l0 kq aN aG (aG.length : Int) aA aT aU = some r) ∧ Qa (kq ≤ k) ∧ Qa (Kd.R (Kd.int .i64) 74 w' w.heap.size (fun _ => True) bD aN) ∧ Qa (Kd.R k77 77 w' w.heap.size (fun _ => True) (.slice gU aG.length fK) aG) ∧ Qa (w'.heap[aY]? = some (.cells #[.int .i64 aT, .string aU] 25 (0, 0))) ∧ Qa (Below w.heap.size w w'))
 case atStart => exact ⟨(fJ), (0), zF, H', ⟨Nat.le_refl _⟩, ⟨zR aZ.out⟩, ⟨zR bI.out⟩, ⟨zK aC.out⟩, ⟨zG aJ.out⟩⟩
 case round =>
 clear H'
 try clear bJ
 try clear bK
 try clear bN
 try clear bO
 try clear bL
 try clear bM
 try clear bP
 try clear bQ
 obtain ⟨aN, aA, rfl, HA, dN, aM, aK, aC, HB⟩ := hrel
 cases gk with
 | zero => exact absurd HA.out (by simp [Zb.l0])
 | succ k1 =>
 have H := HA.out
 clear HA
 simp only [Zb.l0] at H
 replace H := Xr H
 rcases H with ⟨fM, H⟩ | ⟨fM, H⟩
 ·replace H := J5 H
  rcases H with ⟨gB, H⟩ | ⟨c10, H⟩
  ·replace H := J5 H
   rcases H with ⟨gD, H⟩ | ⟨c11, H⟩
   ·replace H := J5 H
    rcases H with ⟨gF, H⟩ | ⟨c12, H⟩
    ·replace H := Zc H
     rcases H with ⟨bT, bU, H⟩ | ⟨c14, bT, bU, H⟩
     ·replace H := Xt H
      rcases H with ⟨gG, gH, H⟩ | ⟨c15, H⟩
      ·obtain ⟨bV, gW, H⟩ := zO H
       have H' := Qa.mk H; clear H
       have aW : 0 ≤ (aA : Int) := zA
       have aX : aA < (aG.length : Int) := zA
       obtain ⟨bA, bR, bE, bF, bG⟩ := Ky (Kd.R_reads' aK.out).2.2 aA aW aX
       cases bR
       replace aW := eq_true aW
       replace aX := eq_true aX
       go_wp2_with (first | ((with_reducible refine Qm (N := 5) rfl ?_); refine zBx (N := 5) #[.int .i64 0, .int .i64 0, .int .i64 0] 77 ?_; intro aD hg gX hbox hb; replace aM := zW aM.out hb; replace aK := Qa.mk (Kd.R_below (Kd.R_elderB (zR aK.out) aD (Nat.le_of_eq hg.symm)) hb); have aI := Qa.mk (hbox); have bW := zSg hg (zG aJ.out); have aV := zSg hg (zG aJ.out); have aH := zL hg aC.out; have aQ := zLg hg aC.out; replace aC := zV aC.out hb; replace HB := zX1 aJ.out hb; clear hb hbox hg; have gI := aQ.out; have gJ := aH.out; obtain ⟨dO, dP, dQ, dR, dS, dU⟩ := zq3 aI.out) | ((with_reducible refine Vq (t := 77) (p := 5) rfl ?_); refine Ve (t := 77) (p := 5) (v := ?fO) (w1 := (((gX.setCell ⟨aD, 0, none⟩ (.int .i64 ((Qb aG aA).f0))).setCell ⟨aD, 1, none⟩ (.int .i64 ((Qb aG aA).f1))).setCell ⟨aD, 2, none⟩ (.int .i64 ((Qb aG aA).f2)))) ?hg ?ho ?hn ?hr ?_; (case ho => rfl); (case hg => rfl); (case hn => rfl); (case hr => first | (go_simp; done) | (go_simp; rfl)); intro bX hw; have bY : Qa (Kd.R (Kd.int .i64) 74 bX w.heap.size (fun _ => True) bD aN) := ⟨(by rw [hw]; exact (by (with_reducible repeat (first | apply Kd.R_alloc | apply Kd.R_drewN | apply Kd.R_drew)); exact Kd.R_mono (Kd.R_far (p := ⟨aD, 2, none⟩) (Kd.R_far (p := ⟨aD, 1, none⟩) (Kd.R_far (p := ⟨aD, 0, none⟩) (Kd.R_types aM.out aI.out (by decide)) (fun _ hk => hk.2) (.int .i64 ((Qb aG aA).f0))) (fun _ hk => hk.2) (.int .i64 ((Qb aG aA).f1))) (fun _ hk => hk.2) (.int .i64 ((Qb aG aA).f2))) (fun _ hk => trivial)))⟩; have bZ : Qa (Kd.R k77 77 bX w.heap.size (fun k_ => k_ ≠ aD) (.slice (some bA) aG.length fK) aG) := ⟨(by rw [hw]; exact (by (with_reducible repeat (first | apply Kd.R_alloc | apply Kd.R_drewN | apply Kd.R_drew)); exact Kd.R_mono (Kd.R_far (p := ⟨aD, 2, none⟩) (Kd.R_far (p := ⟨aD, 1, none⟩) (Kd.R_far (p := ⟨aD, 0, none⟩) (Kd.R_mono aK.out (fun k_ hk => (⟨hk, hk.2⟩ : _ ∧ k_ ≠ aD))) (fun _ hk => hk.2) (.int .i64 ((Qb aG aA).f0))) (fun _ hk => hk.2) (.int .i64 ((Qb aG aA).f1))) (fun _ hk => hk.2) (.int .i64 ((Qb aG aA).f2))) (fun _ hk => hk.1.2)))⟩; have cB : Qa (bX.heap[aY]? = some (.cells #[.int .i64 aT, .string aU] 25 (0, 0))) := ⟨(by rw [hw]; exact (zk3 aC.out aH.out aH.out aH.out))⟩; have cK : Qa (bX.heap[aD]? = some (.cells #[.int .i64 ((Qb aG aA).f0), .int .i64 ((Qb aG aA).f1), .int .i64 ((Qb aG aA).f2)] 77 (0, 0))) := ⟨(by rw [hw]; exact (zk0 aI.out))⟩; have cO : Qa (Below w.heap.size w bX) := ⟨(by rw [hw]; exact (zG2 aJ.out aV.out))⟩; clear hw; clear aM; clear aK; clear aC; clear aI; clear HB; have aM := bY; have aK := bZ; have aC := cB; have aI := cK; have HB := cO; clear bY bZ cB cK cO; obtain ⟨dV, dW, dX, dY⟩ := zq2 aC.out; have cZ : 0 ≤ (aA : Int) := zA; have dA : aA < (aU.size : Int) := zA; have fP := Yh aU aA; replace cZ := eq_true cZ; replace dA := eq_true dA; obtain ⟨dZ, eB, eD, eF, eG, eH⟩ := zq3 aI.out; obtain ⟨dB, dC, dD, dE, fQ, gY, dF⟩ := Kd.R_form aM.out (by have hl_ := Nat.le_of_eq (Eq.symm (zA : aN.length = 344)); omega); (first | cases dD | (injection dD with ea_ en_ ec_; (first | subst ea_ | (injection ea_ with ea_; subst ea_)); subst ec_; clear en_)); have gZ := Qa.mk dE; have iA := Qa.mk dF; clear dE fQ dF) | ((with_reducible refine Qd (f := 56) rfl ?_); refine zD (some 33) Tryz.func56 _ ((Jd.calls (fun k_ => some k_ = (.slice (some ⟨dB, 0, none⟩) aN.length dC : Value).ownBlock) (.slice (some ⟨dB, 0, none⟩) aN.length dC) aN ((Qb aG aA).f0) ((Qb aG aA).f1) ((Qb aG aA).f2) (-1) bV w _ ?bB ?bC gW.out).mono ?_); (case bB => exact (jJn HB.out aJ.out aV.out)); (case bC => exact Kd.R_tight rfl aM.out); rintro e iG ⟨rfl, hy0, hb, hkp⟩; refine ⟨_, rfl, ?_⟩; replace aK := Qa.mk (Kd.R_mono (ok' := fun k_ => k_ ≠ aD) (Kd.R_keptB ((Kd.R_apart' aK.out (Kd.R_typed aM.out) (by decide))) hkp (fun k_ hk_ hs_ => (hk_.2) hs_)) (fun k_ hk_ => hk_.1.1)); replace aC := Qa.mk (V4 (zK aC.out) hkp (fun hs_ => (fun e_ => (Kd.R_ne aM.out aC.out (by decide)) e_) hs_)); replace aI := Qa.mk (V4 (zK aI.out) hkp (fun hs_ => (fun e_ => (Kd.R_ne aM.out aI.out (by decide)) e_) hs_)); replace aM := Qa.mk (Kd.R_reok rfl hy0 (fun k_ e_ => aM.out.1 k_ e_)); replace HB := Qa.mk (hb); (try clear hb); (try clear hkp); (try clear hy0)))
       go_roundg k1
       case measure => have := dN.out; omega
       case rel => exact ⟨(bV), (wrap64 (aA + 1)), zF, H', ⟨by have := dN.out; omega⟩, ⟨zR aM.out⟩, ⟨zR (Kd.R_mono aK.out (fun _ hk => trivial))⟩, ⟨zK aC.out⟩, ⟨zG2 aJ.out aV.out⟩⟩
      exact absurd H (by simp)
     replace H := Xt H
     rcases H with ⟨gK, gL, H⟩ | ⟨iH, H⟩
     ·obtain ⟨dG, iB, H⟩ := zO H
      have H' := Qa.mk H; clear H
      have aW : 0 ≤ (aA : Int) := zA
      have aX : aA < (aG.length : Int) := zA
      obtain ⟨bA, bR, bE, bF, bG⟩ := Ky (Kd.R_reads' aK.out).2.2 aA aW aX
      cases bR
      replace aW := eq_true aW
      replace aX := eq_true aX
      go_wp2_with (first | ((with_reducible refine Qm (N := 5) rfl ?_); refine zBx (N := 5) #[.int .i64 0, .int .i64 0, .int .i64 0] 77 ?_; intro aD hg iC hbox hb; replace aM := zW aM.out hb; replace aK := Qa.mk (Kd.R_below (Kd.R_elderB (zR aK.out) aD (Nat.le_of_eq hg.symm)) hb); have aI := Qa.mk (hbox); have bW := zSg hg (zG aJ.out); have aV := zSg hg (zG aJ.out); have aH := zL hg aC.out; have aQ := zLg hg aC.out; replace aC := zV aC.out hb; replace HB := zX1 aJ.out hb; clear hb hbox hg; have gM := aQ.out; have gN := aH.out; obtain ⟨eO, eP, eQ, eU, eX, eY⟩ := zq3 aI.out) | ((with_reducible refine Vq (t := 77) (p := 5) rfl ?_); refine Ve (t := 77) (p := 5) (v := ?fT) (w1 := (((iC.setCell ⟨aD, 0, none⟩ (.int .i64 ((Qb aG aA).f0))).setCell ⟨aD, 1, none⟩ (.int .i64 ((Qb aG aA).f1))).setCell ⟨aD, 2, none⟩ (.int .i64 ((Qb aG aA).f2)))) ?hg ?ho ?hn ?hr ?_; (case ho => rfl); (case hg => rfl); (case hn => rfl); (case hr => first | (go_simp; done) | (go_simp; rfl)); intro dH hw; have bY : Qa (Kd.R (Kd.int .i64) 74 dH w.heap.size (fun _ => True) bD aN) := ⟨(by rw [hw]; exact (by (with_reducible repeat (first | apply Kd.R_alloc | apply Kd.R_drewN | apply Kd.R_drew)); exact Kd.R_mono (Kd.R_far (p := ⟨aD, 2, none⟩) (Kd.R_far (p := ⟨aD, 1, none⟩) (Kd.R_far (p := ⟨aD, 0, none⟩) (Kd.R_types aM.out aI.out (by decide)) (fun _ hk => hk.2) (.int .i64 ((Qb aG aA).f0))) (fun _ hk => hk.2) (.int .i64 ((Qb aG aA).f1))) (fun _ hk => hk.2) (.int .i64 ((Qb aG aA).f2))) (fun _ hk => trivial)))⟩; have bZ : Qa (Kd.R k77 77 dH w.heap.size (fun k_ => k_ ≠ aD) (.slice (some bA) aG.length fK) aG) := ⟨(by rw [hw]; exact (by (with_reducible repeat (first | apply Kd.R_alloc | apply Kd.R_drewN | apply Kd.R_drew)); exact Kd.R_mono (Kd.R_far (p := ⟨aD, 2, none⟩) (Kd.R_far (p := ⟨aD, 1, none⟩) (Kd.R_far (p := ⟨aD, 0, none⟩) (Kd.R_mono aK.out (fun k_ hk => (⟨hk, hk.2⟩ : _ ∧ k_ ≠ aD))) (fun _ hk => hk.2) (.int .i64 ((Qb aG aA).f0))) (fun _ hk => hk.2) (.int .i64 ((Qb aG aA).f1))) (fun _ hk => hk.2) (.int .i64 ((Qb aG aA).f2))) (fun _ hk => hk.1.2)))⟩; have cB : Qa (dH.heap[aY]? = some (.cells #[.int .i64 aT, .string aU] 25 (0, 0))) := ⟨(by rw [hw]; exact (zk3 aC.out aH.out aH.out aH.out))⟩; have cK : Qa (dH.heap[aD]? = some (.cells #[.int .i64 ((Qb aG aA).f0), .int .i64 ((Qb aG aA).f1), .int .i64 ((Qb aG aA).f2)] 77 (0, 0))) := ⟨(by rw [hw]; exact (zk0 aI.out))⟩; have cO : Qa (Below w.heap.size w dH) := ⟨(by rw [hw]; exact (zG2 aJ.out aV.out))⟩; clear hw; clear aM; clear aK; clear aC; clear aI; clear HB; have aM := bY; have aK := bZ; have aC := cB; have aI := cK; have HB := cO; clear bY bZ cB cK cO; obtain ⟨eZ, fA, fB, fC⟩ := zq2 aC.out; have cZ : 0 ≤ (aA : Int) := zA; have dA : aA < (aU.size : Int) := zA; have fP := Yh aU aA; replace cZ := eq_true cZ; replace dA := eq_true dA; obtain ⟨fD, fE, fF, fG, fH, fI⟩ := zq3 aI.out; obtain ⟨dI, dJ, dK, dL, fU, iD, dM⟩ := Kd.R_form aM.out (by have hl_ := Nat.le_of_eq (Eq.symm (zA : aN.length = 344)); omega); (first | cases dK | (injection dK with ea_ en_ ec_; (first | subst ea_ | (injection ea_ with ea_; subst ea_)); subst ec_; clear en_)); have iE := Qa.mk dL; have iF := Qa.mk dM; clear dL fU dM) | ((with_reducible refine Qd (f := 56) rfl ?_); refine zD (some 33) Tryz.func56 _ ((Jd.calls (fun k_ => some k_ = (.slice (some ⟨dI, 0, none⟩) aN.length dJ : Value).ownBlock) (.slice (some ⟨dI, 0, none⟩) aN.length dJ) aN ((Qb aG aA).f0) ((Qb aG aA).f1) ((Qb aG aA).f2) 1 dG w _ ?bB ?bC iB.out).mono ?_); (case bB => exact (jJn HB.out aJ.out aV.out)); (case bC => exact Kd.R_tight rfl aM.out); rintro e iI ⟨rfl, hy0, hb, hkp⟩; refine ⟨_, rfl, ?_⟩; replace aK := Qa.mk (Kd.R_mono (ok' := fun k_ => k_ ≠ aD) (Kd.R_keptB ((Kd.R_apart' aK.out (Kd.R_typed aM.out) (by decide))) hkp (fun k_ hk_ hs_ => (hk_.2) hs_)) (fun k_ hk_ => hk_.1.1)); replace aC := Qa.mk (V4 (zK aC.out) hkp (fun hs_ => (fun e_ => (Kd.R_ne aM.out aC.out (by decide)) e_) hs_)); replace aI := Qa.mk (V4 (zK aI.out) hkp (fun hs_ => (fun e_ => (Kd.R_ne aM.out aI.out (by decide)) e_) hs_)); replace aM := Qa.mk (Kd.R_reok rfl hy0 (fun k_ e_ => aM.out.1 k_ e_)); replace HB := Qa.mk (hb); (try clear hb); (try clear hkp); (try clear hy0)))
      go_roundg k1
      case measure => have := dN.out; omega
      case rel => exact ⟨(dG), (wrap64 (aA + 1)), zF, H', ⟨by have := dN.out; omega⟩, ⟨zR aM.out⟩, ⟨zR (Kd.R_mono aK.out (fun _ hk => trivial))⟩, ⟨zK aC.out⟩, ⟨zG2 aJ.out aV.out⟩⟩
     exact absurd H (by simp)
    exact absurd H (by simp)
   exact absurd H (by simp)
  exact absurd H (by simp)
 obtain rfl := Option.some.inj H
 go_wp2
 go_ret
 exact ⟨bD, zE, zR aM.out, zG aJ.out⟩
def Je.l0 : Nat → List Int → List Int → List Int → List (S77) → Int → Int → Option (Int × ByteArray)
 | 0, _, _, _, _, _, _ => none
 | k + 1, x0, x1, x5, aA, aG, x20 => if x20 < aG then (if 0 ≤ x20 then (if x20 < (aA.length : Int) then (if 0 ≤ ((Qb aA x20).f0) then (if ((Qb aA x20).f0) < (x1.length : Int) then (if 0 ≤ ((Qb aA x20).f1) then (if ((Qb aA x20).f1) < (x1.length : Int) then (if 0 ≤ ((Qb aA x20).f2) then (if ((Qb aA x20).f2) < (x1.length : Int) then (if ((Qb aA x20).f0) < 7 then (if ((Qb aA x20).f1) < 7 then (if ((Qb aA x20).f2) < 7 then (if x5.length = 344 then ((Jd.f x5 (rd x1 ((Qb aA x20).f0)) (rd x1 ((Qb aA x20).f1)) (rd x1 ((Qb aA x20).f2)) (rd3 x0 ((Qb aA x20).f0) ((Qb aA x20).f1) ((Qb aA x20).f2))).bind fun aD => (Je.l0 k x0 x1 aD aA aG (wrap64 (x20 + 1)))) else (none)) else (none)) else (none)) else (none)) else (none)) else (none)) else (none)) else (none)) else (none)) else (none)) else (none)) else (none)) else (if x5.length = 344 then ((Qy.f k x5).bind fun aC => (some (aC.1, aC.2))) else (none))
def Je.f (k : Nat) (l0 : List Int) (l1 : List Int) : Option (Int × ByteArray) := (Qn.f k (rd l0 0)).bind fun aA => (Je.l0 k l0 l1 (rd l0 0 :: List.replicate 343 (0 : Int)) aA (aA.length : Int) 0)
def Je.T5 : Bool × List (List Nat × List Nat) := (true, [([], []), ([], []), ([], []), ([2], [2]), ([1, 3], [1, 3]), ([4], [4]), ([], []), ([], []), ([7], [7]), ([6, 8], [6, 8]), ([9], [9]), ([], []), ([], []), ([12], [12]), ([11, 13], [11, 13]), ([14], [14]), ([], []), ([], []), ([17], [17]), ([], []), ([19], [19]), ([], []), ([21], [21]), ([16], [16]), ([23], [23]), ([24, 18], [18, 24]), ([25, 20], [20, 25]), ([26, 22], [22, 26]), ([27], [27]), ([0, 5, 10, 15, 28], [0, 5, 10, 15, 28])])
def Je.B5 : List Nat := [0, 0, 0, 4, 14, 30, 0, 0, 128, 448, 960, 0, 0, 4096, 14336, 30720, 0, 0, 131072, 0, 524288, 0, 2097152, 65536, 8454144, 25624576, 60751872, 134152192, 268369920, 536870911]
theorem Je.tab5 : Vv .any (opsOf Tryz.f64 5) = Je.T5 := by kernel_rfl
theorem Je.bits5 : Zz Je.T5.2 Je.B5 = true := by kernel_rfl
theorem jLz {p q p0 p1 : Prop} (g : p) (g0 : p0) (g1 : p1) (h : p → p0 → p1 → q := by intro zg_ aA aC; repeat (first | (with_reducible first | exact zg_ | apply Qv | apply Qr | apply Qo | refine Qf ?_ aA | refine Qf ?_ aC) | exact zg_)) : q := h g g0 g1
set_option maxHeartbeats 8000000 in
set_option maxRecDepth 100000 in
theorem Je.calls (k : Nat) (g0 : Nat) (l0 : List Int) (A1 : Option Addr) (c1 : Nat) (l1 : List Int) (r1 : Int) (r2 : ByteArray) (w : World) (hr0 : Kd.C (Kd.int .i64) w (some ⟨g0, 0, none⟩) l0.length l0) (hc0 : l0.length = 344) (hr1 : Kd.C (Kd.int .i64) w A1 l1.length l1) (hc1 : l1.length ≤ c1) (h : Je.f k l0 l1 = some (r1, r2)) :
  Calls Tryz.prog 64 #[.pointer (some ⟨g0, 0, none⟩), .slice A1 l1.length c1] w fun e w' => e = .returned (.agg #[.int .i64 r1, .string r2]) ∧ Below w.heap.size w w' := by
 have iH := Tryz.underlying25
 have iI := Tryz.underlying77
 have iJ := Tryz.underlying74
 have iK := Tryz.underlying72
 have iL := Tryz.underlying71
 have iM := Tryz.underlying70
 have fE := Qa.mk hr0
 have fF := Qa.mk hc0
 clear hr0 hc0
 have HR1 := Qa.mk hr1
 have jB := Qa.mk hc1
 clear hr1 hc1
 have HB := Qa.mk (Below.refl w.heap.size w)
 have H := h
 unfold Je.f at H
 clear h
 generalize bV : (rd l0 0 :: List.replicate 343 (0 : Int) : List Int) = fG at H
 have dF := Qa.mk bV.symm
 clear bV
 obtain ⟨aC, A3, H⟩ := zO H
 have H' := Qa.mk H; clear H
 go_enter Tryz.func64, Tryz.ntmps64
 go_wp2_with (first | ((with_reducible refine Qm (N := 4) rfl ?_); refine zBx (N := 4) #[.int .i64 0, .string (⟨#[]⟩ : ByteArray)] 25 ?_; intro bK hg w4 hbox hb; have aG := Qa.mk (hbox); have gI := zS hg; have aN := zS hg; replace HB := zX hb; clear hb hbox hg; have dG := fF.out; have dH : decide (0 < (l0.length : Int)) = true := decide_eq_true (by omega); clear dG; have bP : 0 ≤ (0 : Int) := (by omega); have bQ : 0 < (l0.length : Int) := zA; obtain ⟨dI, fH, aJ⟩ := Kd.at_int fE.out 0 bP bQ; obtain rfl : (⟨g0, 0, none⟩ : Addr) = dI := (by injection fH); (first | simp only [add_plain] at aJ | simp only [Ww] at aJ | simp only [Addr.add, Nat.zero_add] at aJ | skip); have gJ : (0 < l0.length) = True := eq_true (by omega); (try rw [show ((0 : Int)).toNat = 0 from rfl] at aJ); (try rw [Addr.add_zero'] at aJ); replace aJ := (HB.out.cell (World.block_lt_of_cell? w _ aJ)).trans aJ; replace bP := eq_true bP; replace bQ := eq_true bQ; clear dH) | ((with_reducible refine Qm (N := 12) rfl ?_); refine Vu (T := 74) (s := 11) (n := (rd l0 0)) rfl rfl ?hx jAf ?_; (case hx => first | rfl | (go_simp; done) | (go_simp; rfl))) | ((with_reducible refine Qm (N := 13) rfl ?_); refine Kn (n := (rd l0 0)) (T := 74) (N := 13) ?hg ?hd ?hr w.heap.size ?hs ?_; (case hd => rfl); (case hg => rfl); (case hr => first | (go_simp; done) | (go_simp; rfl)); (case hs => exact (Q6 (zG aN.out))); intro dJ w5 ho hb; rw [← dF.out] at ho; replace aG := zV aG.out hb; have bL := Qa.mk (ho); replace HB := zX1 aN.out hb; clear hb ho; have dK := fF.out; have dL : decide (0 < (l0.length : Int)) = true := decide_eq_true (by omega); clear dK; have bR : 0 ≤ (0 : Int) := (by omega); have bS : 0 < (l0.length : Int) := zA; obtain ⟨dM, fI, aK⟩ := Kd.at_int fE.out 0 bR bS; obtain rfl : (⟨g0, 0, none⟩ : Addr) = dM := (by injection fI); (first | simp only [add_plain] at aK | simp only [Ww] at aK | simp only [Addr.add, Nat.zero_add] at aK | skip); have gK : (0 < l0.length) = True := eq_true (by omega); (try rw [show ((0 : Int)).toNat = 0 from rfl] at aK); (try rw [Addr.add_zero'] at aK); replace aK := (HB.out.cell (World.block_lt_of_cell? w _ aK)).trans aK; replace bR := eq_true bR; replace bS := eq_true bS; clear dL) | ((with_reducible refine Qd (f := 55) rfl ?_); refine zD (some 18) Tryz.func55 _ ((Qn.calls k (rd l0 0) aC _ A3.out).mono ?_); rintro e w6 ⟨iN, rfl, ho0, hb⟩; refine ⟨_, rfl, ?_⟩; replace bL := zW bL.out hb; have bW := Qa.mk (Kd.R_lower ho0 (Q6 (zG aN.out))); replace aG := zV aG.out hb; replace HB := zX1 aN.out hb; (try clear hb); (try clear ho0); obtain ⟨iO, gL, iP⟩ := Kd.R_slice bW.out; subst iP))
 go_loopg [20] k (fun kq v20 w' => ∃ (bB : List Int) (aA : Int), v20 = .int .i64 aA ∧ Qa (Je.l0 kq l0 l1 bB aC (aC.length : Int) aA = some (r1, r2)) ∧ Qa (kq ≤ k) ∧ Qa (Kd.R (Kd.int .i64) 74 w' w.heap.size (fun _ => True) dJ bB) ∧ Qa (Kd.R k77 77 w' w.heap.size (fun _ => True) (.slice iO aC.length gL) aC) ∧ Qa (w'.heap[bK]? = some (.cells #[.int .i64 0, .string (⟨#[]⟩ : ByteArray)] 25 (0, 0))) ∧ Qa (Below w.heap.size w w'))
 case atStart => exact ⟨(fG), (0), zF, H', ⟨Nat.le_refl _⟩, ⟨zR bL.out⟩, ⟨zR bW.out⟩, ⟨zK aG.out⟩, ⟨zG aN.out⟩⟩
 case round =>
 clear H'
 try clear aJ
 try clear aK
 try clear bP
 try clear bR
 try clear bQ
 try clear bS
 obtain ⟨bB, aA, rfl, HA, gM, aQ, aM, aG, HB⟩ := hrel
 cases gk with
 | zero => exact absurd HA.out (by simp [Je.l0])
 | succ k1 =>
 have H := HA.out
 clear HA
 simp only [Je.l0] at H
 replace H := Xr H
 rcases H with ⟨fJ, H⟩ | ⟨fJ, H⟩
 ·replace H := J5 H
  rcases H with ⟨iQ, H⟩ | ⟨c9, H⟩
  ·replace H := J5 H
   rcases H with ⟨gN, H⟩ | ⟨c10, H⟩
   ·replace H := J5 H
    rcases H with ⟨gP, H⟩ | ⟨c11, H⟩
    ·replace H := J5 H
     rcases H with ⟨gQ, H⟩ | ⟨c12, H⟩
     ·replace H := J5 H
      rcases H with ⟨gT, H⟩ | ⟨c13, H⟩
      ·replace H := J5 H
       rcases H with ⟨gU, H⟩ | ⟨c14, H⟩
       ·replace H := J5 H
        rcases H with ⟨gV, H⟩ | ⟨c15, H⟩
        ·replace H := J5 H
         rcases H with ⟨gW, H⟩ | ⟨c16, H⟩
         ·replace H := J5 H
          rcases H with ⟨gX, H⟩ | ⟨c17, H⟩
          ·replace H := J5 H
           rcases H with ⟨gY, H⟩ | ⟨c18, H⟩
           ·replace H := J5 H
            rcases H with ⟨gZ, H⟩ | ⟨c19, H⟩
            ·replace H := Xt H
             rcases H with ⟨iA, iB, H⟩ | ⟨c20, H⟩
             ·obtain ⟨dN, iR, H⟩ := zO H
              have H' := Qa.mk H; clear H
              have bX : 0 ≤ (aA : Int) := zA
              have bY : aA < (aC.length : Int) := zA
              obtain ⟨dO, fK, eG, eH, eO⟩ := Ky (Kd.R_reads' aM.out).2.2 aA bX bY
              cases fK
              replace bX := eq_true bX
              replace bY := eq_true bY
              try go_wp2_with (first | ((with_reducible refine Qm (N := 7) rfl ?_); refine zBx (N := 7) #[.int .i64 0, .int .i64 0, .int .i64 0] 77 ?_; intro aD hg dE hbox hb; replace aQ := zW aQ.out hb; replace aM := Qa.mk (Kd.R_below (Kd.R_elderB (zR aM.out) aD (Nat.le_of_eq hg.symm)) hb); have aI := Qa.mk (hbox); have iC := zSg hg (zG aN.out); have bM := zSg hg (zG aN.out); have aT := zL hg aG.out; have bJ := zLg hg aG.out; replace aG := zV aG.out hb; replace HB := zX1 aN.out hb; clear hb hbox hg; have iD := bJ.out; have iE := aT.out; obtain ⟨eP, eQ, eU, eX, eY, eZ⟩ := zq3 aI.out))
              have fM : Qa (Kd.R (Kd.int .i64) 74 (((dE.setCell ⟨aD, 0, none⟩ (.int .i64 ((Qb aC aA).f0))).setCell ⟨aD, 1, none⟩ (.int .i64 ((Qb aC aA).f1))).setCell ⟨aD, 2, none⟩ (.int .i64 ((Qb aC aA).f2))) w.heap.size (fun _ => True) dJ bB) := ⟨by (with_reducible repeat (first | apply Kd.R_alloc | apply Kd.R_drewN | apply Kd.R_drew)); exact Kd.R_mono (Kd.R_far (p := ⟨aD, 2, none⟩) (Kd.R_far (p := ⟨aD, 1, none⟩) (Kd.R_far (p := ⟨aD, 0, none⟩) (Kd.R_types aQ.out aI.out (by decide)) (fun _ hk => hk.2) (.int .i64 ((Qb aC aA).f0))) (fun _ hk => hk.2) (.int .i64 ((Qb aC aA).f1))) (fun _ hk => hk.2) (.int .i64 ((Qb aC aA).f2))) (fun _ hk => trivial)⟩
              have fO : Qa (Kd.R k77 77 (((dE.setCell ⟨aD, 0, none⟩ (.int .i64 ((Qb aC aA).f0))).setCell ⟨aD, 1, none⟩ (.int .i64 ((Qb aC aA).f1))).setCell ⟨aD, 2, none⟩ (.int .i64 ((Qb aC aA).f2))) w.heap.size (fun k_ => k_ ≠ aD) (.slice (some dO) aC.length gL) aC) := ⟨by (with_reducible repeat (first | apply Kd.R_alloc | apply Kd.R_drewN | apply Kd.R_drew)); exact Kd.R_mono (Kd.R_far (p := ⟨aD, 2, none⟩) (Kd.R_far (p := ⟨aD, 1, none⟩) (Kd.R_far (p := ⟨aD, 0, none⟩) (Kd.R_mono aM.out (fun k_ hk => (⟨hk, hk.2⟩ : _ ∧ k_ ≠ aD))) (fun _ hk => hk.2) (.int .i64 ((Qb aC aA).f0))) (fun _ hk => hk.2) (.int .i64 ((Qb aC aA).f1))) (fun _ hk => hk.2) (.int .i64 ((Qb aC aA).f2))) (fun _ hk => hk.1.2)⟩
              have fP : Qa ((((dE.setCell ⟨aD, 0, none⟩ (.int .i64 ((Qb aC aA).f0))).setCell ⟨aD, 1, none⟩ (.int .i64 ((Qb aC aA).f1))).setCell ⟨aD, 2, none⟩ (.int .i64 ((Qb aC aA).f2))).heap[bK]? = some (.cells #[.int .i64 0, .string (⟨#[]⟩ : ByteArray)] 25 (0, 0))) := ⟨zk3 aG.out aT.out aT.out aT.out⟩
              have fQ : Qa ((((dE.setCell ⟨aD, 0, none⟩ (.int .i64 ((Qb aC aA).f0))).setCell ⟨aD, 1, none⟩ (.int .i64 ((Qb aC aA).f1))).setCell ⟨aD, 2, none⟩ (.int .i64 ((Qb aC aA).f2))).heap[aD]? = some (.cells #[.int .i64 ((Qb aC aA).f0), .int .i64 ((Qb aC aA).f1), .int .i64 ((Qb aC aA).f2)] 77 (0, 0))) := ⟨zk0 aI.out⟩
              have fT : Qa (Below w.heap.size w (((dE.setCell ⟨aD, 0, none⟩ (.int .i64 ((Qb aC aA).f0))).setCell ⟨aD, 1, none⟩ (.int .i64 ((Qb aC aA).f1))).setCell ⟨aD, 2, none⟩ (.int .i64 ((Qb aC aA).f2)))) := ⟨zG2 aN.out bM.out⟩
              (try clear aQ)
              (try clear aM)
              (try clear aG)
              (try clear aI)
              (try clear HB)
              generalize (((dE.setCell ⟨aD, 0, none⟩ (.int .i64 ((Qb aC aA).f0))).setCell ⟨aD, 1, none⟩ (.int .i64 ((Qb aC aA).f1))).setCell ⟨aD, 2, none⟩ (.int .i64 ((Qb aC aA).f2))) = iT at fM fO fP fQ fT ⊢
              have aQ := fM
              have aM := fO
              have aG := fP
              have aI := fQ
              have HB := fT
              clear fM fO fP fQ fT
              replace aQ := Qa.mk (Kd.R_drew aQ.out)
              replace aM := Qa.mk (Kd.R_drew aM.out)
              replace aG := Qa.mk (Qk aG.out)
              replace aI := Qa.mk (Qk aI.out)
              replace HB := Qa.mk (Qo HB.out)
              have bZ : 0 ≤ (((Qb aC aA).f0) : Int) := zA
              have cB : ((Qb aC aA).f0) < (l1.length : Int) := zA
              obtain ⟨bC, fU, aV⟩ := Kd.at_int HR1.out ((Qb aC aA).f0) bZ cB
              have aY := aV
              cases fU
              replace aV := (HB.out.cell (World.block_lt_of_cell? w _ aV)).trans aV
              replace bZ := eq_true bZ
              replace cB := eq_true cB
              have cK : 0 ≤ (((Qb aC aA).f1) : Int) := zA
              have cO : ((Qb aC aA).f1) < (l1.length : Int) := zA
              obtain ⟨dP, fV, aW⟩ := Kd.at_int HR1.out ((Qb aC aA).f1) cK cO
              have aZ := aW
              obtain rfl : bC = dP := (by injection fV)
              replace aW := (HB.out.cell (World.block_lt_of_cell? w _ aW)).trans aW
              replace cK := eq_true cK
              replace cO := eq_true cO
              have cZ : 0 ≤ (((Qb aC aA).f2) : Int) := zA
              have dA : ((Qb aC aA).f2) < (l1.length : Int) := zA
              obtain ⟨dQ, fZ, aX⟩ := Kd.at_int HR1.out ((Qb aC aA).f2) cZ dA
              have bA := aX
              obtain rfl : bC = dQ := (by injection fZ)
              replace aX := (HB.out.cell (World.block_lt_of_cell? w _ aX)).trans aX
              replace cZ := eq_true cZ
              replace dA := eq_true dA
              have bD : 0 ≤ (((Qb aC aA).f0) : Int) := zA
              have bE : 0 ≤ (((Qb aC aA).f1) : Int) := zA
              have bF : 0 ≤ (((Qb aC aA).f2) : Int) := zA
              have bG : (((Qb aC aA).f0) : Int) < 7 := zA
              have bH : (((Qb aC aA).f1) : Int) < 7 := zA
              have bI : (((Qb aC aA).f2) : Int) < 7 := zA
              have dR := fF.out
              have dS : decide (0 ≤ ((1 + ((Qb aC aA).f0) * 49 + ((Qb aC aA).f1) * 7 + ((Qb aC aA).f2)) : Int)) = true := decide_eq_true (by omega)
              have dU : decide ((1 + ((Qb aC aA).f0) * 49 + ((Qb aC aA).f1) * 7 + ((Qb aC aA).f2)) < (l0.length : Int)) = true := decide_eq_true (by omega)
              clear dR
              have bT : 0 ≤ ((1 + ((Qb aC aA).f0) * 49 + ((Qb aC aA).f1) * 7 + ((Qb aC aA).f2)) : Int) := zA
              have bU : (1 + ((Qb aC aA).f0) * 49 + ((Qb aC aA).f1) * 7 + ((Qb aC aA).f2)) < (l0.length : Int) := zA
              obtain ⟨dV, gB, aH⟩ := Kd.at_int fE.out (1 + ((Qb aC aA).f0) * 49 + ((Qb aC aA).f1) * 7 + ((Qb aC aA).f2)) bT bU
              obtain rfl : (⟨g0, 0, none⟩ : Addr) = dV := (by injection gB)
              (first | simp only [add_plain] at aH | simp only [Ww] at aH | simp only [Addr.add, Nat.zero_add] at aH | skip)
              have aU := aH
              replace aH := (HB.out.cell (World.block_lt_of_cell? w _ aH)).trans aH
              replace bT := eq_true bT
              replace bU := eq_true bU
              clear dS dU
              clear bT bU
              rw [show ((1 + ((Qb aC aA).f0) * 49 + ((Qb aC aA).f1) * 7 + ((Qb aC aA).f2)) : Int).toNat = 1 + (((Qb aC aA).f0)).toNat * 49 + (((Qb aC aA).f1)).toNat * 7 + (((Qb aC aA).f2)).toNat from by omega] at aH aU
              change _ = some (Value.int .i64 (rd3 l0 ((Qb aC aA).f0) ((Qb aC aA).f1) ((Qb aC aA).f2))) at aH aU
              replace bD := eq_true bD
              replace bE := eq_true bE
              replace bF := eq_true bF
              replace bG := eq_true bG
              replace bH := eq_true bH
              replace bI := eq_true bI
              obtain ⟨dB, dW, dX, dY, gD, iU, dZ⟩ := Kd.R_form aQ.out (by have hl_ := Nat.le_of_eq (Eq.symm (zA : bB.length = 344)); omega)
              (first | cases dX | (injection dX with ea_ en_ ec_; (first | subst ea_ | (injection ea_ with ea_; subst ea_)); subst ec_; clear en_))
              have iV := Qa.mk dY
              have gF := Qa.mk dZ
              clear dY gD dZ
              refine Xe (n := 30) (S := fun w' => w'.cell? ⟨aD, 0, none⟩ = some (.int .i64 ((Qb aC aA).f0)) ∧ w'.cell? ⟨aD, 1, none⟩ = some (.int .i64 ((Qb aC aA).f1)) ∧ w'.cell? ⟨aD, 2, none⟩ = some (.int .i64 ((Qb aC aA).f2)) ∧ w'.cell? (bC.add (((Qb aC aA).f0)).toNat) = some (.int .i64 (rd l1 ((Qb aC aA).f0))) ∧ w'.cell? (bC.add (((Qb aC aA).f1)).toNat) = some (.int .i64 (rd l1 ((Qb aC aA).f1))) ∧ w'.cell? (bC.add (((Qb aC aA).f2)).toNat) = some (.int .i64 (rd l1 ((Qb aC aA).f2))) ∧ w'.cell? ⟨g0, 1 + (((Qb aC aA).f0)).toNat * 49 + (((Qb aC aA).f1)).toNat * 7 + (((Qb aC aA).f2)).toNat, none⟩ = some (.int .i64 (rd3 l0 ((Qb aC aA).f0) ((Qb aC aA).f1) ((Qb aC aA).f2)))) (ds := []) #[false, false, false, false, false, false, false, false, false, false, false, false, false, false, false, false, false, false, false, false, false, false, false, false, false, false, false, false, false, false] (by kernel_rfl) rfl rfl ⟨(Qj aI.out 0).trans rfl, (Qj aI.out 1).trans rfl, (Qj aI.out 2).trans rfl, ((HB.out.cell (World.block_lt_of_cell? w _ aY)).trans aY), ((HB.out.cell (World.block_lt_of_cell? w _ aZ)).trans aZ), ((HB.out.cell (World.block_lt_of_cell? w _ bA)).trans bA), ((HB.out.cell (World.block_lt_of_cell? w _ aU)).trans aU)⟩ (fun hHeld => ?_); refine J6 Je.tab5 Je.bits5 (fun HT_ HW_ => ?_)
              generalize iT.drew = jC at aQ aM aG aI HB gF aV aW aX aH hHeld ⊢
              refine zP 0 (some 24) rfl rfl ?_
              refine zP 1 (some 25) rfl rfl ?_
              refine zP 2 (some 26) rfl rfl ?_
              refine zP 6 (some 30) rfl rfl ?_
              refine zP 7 (some 31) rfl rfl ?_
              refine zP 11 (some 35) rfl rfl ?_
              refine zP 12 (some 36) rfl rfl ?_
              refine zP 16 (some 40) rfl rfl ?_
              refine zP 17 (some 41) rfl rfl ?_
              refine zP 19 (some 43) rfl rfl ?_
              refine zP 21 (some 45) rfl rfl ?_
              refine zP 23 (some 47) rfl rfl ?_
              refine zP 24 (some 48) rfl rfl ?_
              refine zY7 3 (some 27) rfl rfl hHeld ?_
              refine zP 4 (some 28) rfl rfl ?_
              refine zY7 5 (some 29) rfl rfl hHeld ?_
              refine zY7 8 (some 32) rfl rfl hHeld ?_
              refine zP 9 (some 33) rfl rfl ?_
              refine zY7 10 (some 34) rfl rfl hHeld ?_
              refine zY7 13 (some 37) rfl rfl hHeld ?_
              refine zP 14 (some 38) rfl rfl ?_
              refine zY7 15 (some 39) rfl rfl hHeld ?_
              refine zY7 18 (some 42) rfl rfl hHeld ?_
              refine zP 25 (some 49) rfl rfl ?_
              refine zY7 20 (some 44) rfl rfl hHeld ?_
              refine zP 26 (some 50) rfl rfl ?_
              refine zY7 22 (some 46) rfl rfl hHeld ?_
              refine zP 27 (some 51) rfl rfl ?_
              refine zY7 28 (some 52) rfl rfl hHeld ?_
              refine zU 29 (some 53) rfl rfl (fun K hK => ?_)
              refine X0 Tryz.func56 (by kernel_rfl) rfl #[.pointer (some ⟨dB, 0, none⟩), .int .i64 (rd l1 ((Qb aC aA).f0)), .int .i64 (rd l1 ((Qb aC aA).f1)), .int .i64 (rd l1 ((Qb aC aA).f2)), .int .i64 (rd3 l0 ((Qb aC aA).f0) ((Qb aC aA).f1) ((Qb aC aA).f2))] (by rfl) rfl rfl zM ?_
              with_reducible refine (Jd.calls (fun k_ => some k_ = (.slice (some ⟨dB, 0, none⟩) bB.length dW : Value).ownBlock) (.slice (some ⟨dB, 0, none⟩) bB.length dW) bB (rd l1 ((Qb aC aA).f0)) (rd l1 ((Qb aC aA).f1)) (rd l1 ((Qb aC aA).f2)) (rd3 l0 ((Qb aC aA).f0) ((Qb aC aA).f1) ((Qb aC aA).f2)) dN w _ ?bN ?bO iR.out).mono ?_
              (case bN => exact (jLz HB.out aN.out bM.out))
              (case bO => exact Kd.R_tight rfl aQ.out)
              rintro e jD ⟨rfl, hy0, hb, hkp⟩
              refine ⟨_, rfl, ?_⟩
              replace aM := Qa.mk (Kd.R_mono (ok' := fun k_ => k_ ≠ aD) (Kd.R_keptB ((Kd.R_apart' aM.out (Kd.R_typed aQ.out) (by decide))) hkp (fun k_ hk_ hs_ => (hk_.2) hs_)) (fun k_ hk_ => hk_.1.1))
              replace aG := Qa.mk (V4 (zK aG.out) hkp (fun hs_ => (fun e_ => (Kd.R_ne aQ.out aG.out (by decide)) e_) hs_))
              replace aI := Qa.mk (V4 (zK aI.out) hkp (fun hs_ => (fun e_ => (Kd.R_ne aQ.out aI.out (by decide)) e_) hs_))
              replace aQ := Qa.mk (Kd.R_reok rfl hy0 (fun k_ e_ => aQ.out.1 k_ e_))
              replace HB := Qa.mk (hb)
              (try clear hb)
              (try clear hkp)
              (try clear hy0)
              refine hK.out _ _ ⟨(Qj aI.out 0).trans rfl, (Qj aI.out 1).trans rfl, (Qj aI.out 2).trans rfl, ((HB.out.cell (World.block_lt_of_cell? w _ aY)).trans aY), ((HB.out.cell (World.block_lt_of_cell? w _ aZ)).trans aZ), ((HB.out.cell (World.block_lt_of_cell? w _ bA)).trans bA), ((HB.out.cell (World.block_lt_of_cell? w _ aU)).trans aU)⟩ (fun hHeld => ?_)
              clear hK K
              refine zN ?_
              refine Yp (Zu HT_.out (by kernel_rfl)) ?_
              try go_wp2
              go_roundg k1
              case measure => have := gM.out; omega
              case rel => exact ⟨(dN), (wrap64 (aA + 1)), zF, H', ⟨by have := gM.out; omega⟩, ⟨zR aQ.out⟩, ⟨zR (Kd.R_mono aM.out (fun _ hk => trivial))⟩, ⟨zK aG.out⟩, ⟨zG2 aN.out bM.out⟩⟩
             exact absurd H (by simp)
            exact absurd H (by simp)
           exact absurd H (by simp)
          exact absurd H (by simp)
         exact absurd H (by simp)
        exact absurd H (by simp)
       exact absurd H (by simp)
      exact absurd H (by simp)
     exact absurd H (by simp)
    exact absurd H (by simp)
   exact absurd H (by simp)
  exact absurd H (by simp)
 replace H := Xt H
 rcases H with ⟨iF, iG, H⟩ | ⟨jE, H⟩
 ·obtain ⟨⟨dC, dD⟩, iW, H⟩ := zO H
  replace H : (some (dC, dD)) = some (r1, r2) := H
  simp only [Option.some.injEq, Prod.mk.injEq] at H
  obtain ⟨rfl, rfl⟩ := H
  obtain ⟨gG, iX, eB, eD, gH, iY, eF⟩ := Kd.R_form aQ.out (by have hl_ := Nat.le_of_eq (Eq.symm (zA : bB.length = 344)); omega)
  (first | cases eB | (injection eB with ea_ en_ ec_; (first | subst ea_ | (injection ea_ with ea_; subst ea_)); subst ec_; clear en_))
  have iZ := Qa.mk eD
  have jA := Qa.mk eF
  clear eD gH eF
  go_wp2_with (first | ((with_reducible refine Qd (f := 57) rfl ?_); refine zD (some 56) Tryz.func57 #[.pointer (some ⟨gG, 0, none⟩)] ((Qy.calls k1 _ bB dC dD _ ?bN ?bO iW.out).mono ?_); (case bN => exact zc ((Kd.R_reads' aQ.out).2.2)); (case bO => exact (zA : bB.length = 344)); rintro e w32 ⟨rfl, hb⟩; refine ⟨_, rfl, ?_⟩; replace aQ := zW aQ.out hb; replace aM := zW aM.out hb; replace aG := zV aG.out hb; replace HB := zX1 aN.out hb; (try clear hb); obtain ⟨fA, fB, fC, fD⟩ := zq2 aG.out))
  refine bodyPost_ret (results_cell_row rfl _ _ bK 25 #[.int .i64 dC, .string dD] (0, 0) _ rfl (zk0 aG.out) Tryz.underlying25 rfl (by kernel_rfl)) rfl ?_
  exact ⟨zE, zG aN.out⟩
 exact absurd H (by simp)
end Go.Proofs.YtckkfjdkaimmhaaGreatDoor.PX
