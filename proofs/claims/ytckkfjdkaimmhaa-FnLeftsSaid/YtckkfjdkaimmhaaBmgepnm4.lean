/- A part of proofs about signs and points: what some functions answer, and that their calls answer so. No condition. -/
import Derived.Test.YtckkfjdkaimmhaaProg
import Derived.Test.YtckkfjdkaimmhaaV1
import Derived.Test.YtckkfjdkaimmhaaBmgepnm1
import Derived.Test.YtckkfjdkaimmhaaBmgepnm2
import Derived.Test.YtckkfjdkaimmhaaBmgepnm3
set_option linter.unusedVariables false
set_option linter.unusedSimpArgs false
namespace Go.Proofs.Ytckkfjdkaimmhaa.PX
open Go.RowKit Go.Proofs.Ytckkfjdkaimmhaa.G Go.Proofs.YtckkfjdkaimmhaaW.PrintWords Go.Proofs.YtckkfjdkaimmhaaW.PrintLast Go.Proofs.YtckkfjdkaimmhaaW.PrintMore
attribute [local go_sem] max2_int min2_int Yd Yg Xh Xf Xq Xp   -- for this text's walks alone
set_option linter.unusedVariables false
set_option linter.unusedSimpArgs false
def Jv.l0 : Nat → List Int → Int → Int → List (S99) → Int → Int → Option (Bool)
 | 0, _, _, _, _, _, _ => none
 | k + 1, x0, x1, x2, aC, aD, aA => if aA < aD then (if 0 ≤ aA then (if aA < (aC.length : Int) then (if 0 ≤ ((Qu aC aA).f0) then (if 0 ≤ ((Qu aC aA).f1) then (if 0 ≤ ((Qu aC aA).f2) then (if (Go.bits .and .i64 x1 (Go.bits .or .i64 (Go.bits .or .i64 (shl .i64 1 ((Qu aC aA).f0)) (shl .i64 1 ((Qu aC aA).f1))) (shl .i64 1 ((Qu aC aA).f2)))) = (Go.bits .or .i64 (Go.bits .or .i64 (shl .i64 1 ((Qu aC aA).f0)) (shl .i64 1 ((Qu aC aA).f1))) (shl .i64 1 ((Qu aC aA).f2))) then ((Z8.f k x0 x2 ((Qu aC aA).f0) ((Qu aC aA).f1) ((Qu aC aA).f2)).bind fun aG => (if aG = true then (some true) else (Jv.l0 k x0 x1 x2 aC aD (wrap64 (aA + 1))))) else (Jv.l0 k x0 x1 x2 aC aD (wrap64 (aA + 1)))) else (none)) else (none)) else (none)) else (none)) else (none)) else (some false)
def Jv.f (k : Nat) (l0 : List Int) (a1 : Int) (a2 : Int) : Option (Bool) := (Qk.f k (rd l0 0)).bind fun aA => (Jv.l0 k l0 a1 a2 aA (aA.length : Int) 0)
set_option maxHeartbeats 8000000 in
set_option maxRecDepth 100000 in
theorem Jv.calls (k : Nat) (g0 : Nat) (l0 : List Int) (a1 : Int) (a2 : Int) (r : Bool) (w : World) (hr0 : Kd.C (Kd.int .i64) w (some ⟨g0, 0, none⟩) l0.length l0) (hc0 : l0.length = 344) (h : Jv.f k l0 a1 a2 = some r) :
  Calls Try.prog 134 #[.pointer (some ⟨g0, 0, none⟩), .int .i64 a1, .int .i64 a2] w fun e w' => e = .returned (.bool r) ∧ Below w.heap.size w w' := by
 have fB := Try.underlying99
 have eD := Try.underlying115
 have dA := Qa.mk hr0
 have dB := Qa.mk hc0
 clear hr0 hc0
 have HB := Qa.mk (Below.refl w.heap.size w)
 have H := h
 unfold Jv.f at H
 clear h
 obtain ⟨aC, A4, H⟩ := zO H
 have H' := Qa.mk H; clear H
 obtain ⟨dI, dJ, eF, cO⟩ := zC0 dA.out dB.out
 go_enter Try.func134, Try.ntmps134
 go_wp2_with (first | (go_at_call 118; (with_reducible refine (Qk.calls k (rd l0 0) aC _ A4.out).mono ?_); rintro e w5 ⟨dD, rfl, ho0, hb⟩; have aT := Qa.mk (Kd.R_lower ho0 (Ql zB)); replace HB := zX hb; (try clear hb); (try clear hb2); (try clear hk); (try clear hi); (try clear ho0); obtain ⟨dK, dL, dE⟩ := Kd.R_slice aT.out; subst dE))
 repeat (go_quiet (first | (go_at_call 118; (with_reducible refine (Qk.calls k (rd l0 0) aC _ A4.out).mono ?_); rintro e w5 ⟨dD, rfl, ho0, hb⟩; have aT := Qa.mk (Kd.R_lower ho0 (Ql zB)); replace HB := zX hb; (try clear hb); (try clear hb2); (try clear hk); (try clear hi); (try clear ho0); obtain ⟨dK, dL, dE⟩ := Kd.R_slice aT.out; subst dE)); try go_wp2_with (first | (go_at_call 118; (with_reducible refine (Qk.calls k (rd l0 0) aC _ A4.out).mono ?_); rintro e w5 ⟨dD, rfl, ho0, hb⟩; have aT := Qa.mk (Kd.R_lower ho0 (Ql zB)); replace HB := zX hb; (try clear hb); (try clear hb2); (try clear hk); (try clear hi); (try clear ho0); obtain ⟨dK, dL, dE⟩ := Kd.R_slice aT.out; subst dE)))
 go_loopg [16] k (fun kq v16 w' => ∃ (aA : Int), v16 = .int .i64 aA ∧ Qa (Jv.l0 kq l0 a1 a2 aC (aC.length : Int) aA = some r) ∧ Qa (kq ≤ k) ∧ Qa (Kd.R k99 99 w' w.heap.size (fun _ => True) (.slice dK aC.length dL) aC) ∧ Qa (Below w.heap.size w w'))
 case atStart => exact ⟨(0), zF, H', ⟨Nat.le_refl _⟩, ⟨zR aT.out⟩, ⟨zB⟩⟩
 case round =>
 clear H'
 try clear cO
 try clear dI
 try clear dJ
 obtain ⟨aA, rfl, HA, dH, aG, HB⟩ := hrel
 cases gk with
 | zero => exact absurd HA.out (by simp [Jv.l0])
 | succ k1 =>
 have H := HA.out
 clear HA
 simp only [Jv.l0] at H
 replace H := Z5 H
 rcases H with ⟨dM, H⟩ | ⟨dM, H⟩
 ·replace H := Zq H
  rcases H with ⟨fC, H⟩ | ⟨c8, H⟩
  ·replace H := Zq H
   rcases H with ⟨fD, H⟩ | ⟨c9, H⟩
   ·replace H := Xw H
    rcases H with ⟨eG, eH, H⟩ | ⟨c10, H⟩
    ·obtain ⟨bS, aU⟩ : ∃ j_ : Int, (shl .i64 1 ((Qu aC aA).f0)) = j_ := ⟨_, rfl⟩
     first | rw [aU] at H | simp only [aU] at H
     have bT : (IntKind.i64.wrap (1 * 2 ^ min ((Qu aC aA).f0).toNat 64)) = bS := aU
     have bU := Yc aU
     have dN : (IntKind.i64.wrap (2 ^ min ((Qu aC aA).f0).toNat 64)) = bS := by have h_ := bT; rw [Int.one_mul] at h_; exact h_
     have dO : ((Qu aC aA).f0) ≤ 64 → (IntKind.i64.wrap (2 ^ ((Qu aC aA).f0).toNat)) = bS := fun hle_ => by have h_ := bU hle_; rw [Int.one_mul] at h_; exact h_
     have dP : (wrap64 (1 * 2 ^ min ((Qu aC aA).f0).toNat 64)) = bS := (Zu _).symm.trans bT
     have dQ : ((Qu aC aA).f0) ≤ 64 → (wrap64 (1 * 2 ^ ((Qu aC aA).f0).toNat)) = bS := fun h_ => (Zu _).symm.trans (bU h_)
     replace H := Xw H
     rcases H with ⟨eO, eP, H⟩ | ⟨c12, H⟩
     ·obtain ⟨bV, aV⟩ : ∃ j_ : Int, (shl .i64 1 ((Qu aC aA).f1)) = j_ := ⟨_, rfl⟩
      first | rw [aV] at H | simp only [aV] at H
      have bW : (IntKind.i64.wrap (1 * 2 ^ min ((Qu aC aA).f1).toNat 64)) = bV := aV
      have bX := Yc aV
      have dR : (IntKind.i64.wrap (2 ^ min ((Qu aC aA).f1).toNat 64)) = bV := by have h_ := bW; rw [Int.one_mul] at h_; exact h_
      have dS : ((Qu aC aA).f1) ≤ 64 → (IntKind.i64.wrap (2 ^ ((Qu aC aA).f1).toNat)) = bV := fun hle_ => by have h_ := bX hle_; rw [Int.one_mul] at h_; exact h_
      have dU : (wrap64 (1 * 2 ^ min ((Qu aC aA).f1).toNat 64)) = bV := (Zu _).symm.trans bW
      have dV : ((Qu aC aA).f1) ≤ 64 → (wrap64 (1 * 2 ^ ((Qu aC aA).f1).toNat)) = bV := fun h_ => (Zu _).symm.trans (bX h_)
      replace H := Xw H
      rcases H with ⟨eQ, eT, H⟩ | ⟨c14, H⟩
      ·obtain ⟨bY, aW⟩ : ∃ j_ : Int, (shl .i64 1 ((Qu aC aA).f2)) = j_ := ⟨_, rfl⟩
       first | rw [aW] at H | simp only [aW] at H
       have bZ : (IntKind.i64.wrap (1 * 2 ^ min ((Qu aC aA).f2).toNat 64)) = bY := aW
       have cB := Yc aW
       have dW : (IntKind.i64.wrap (2 ^ min ((Qu aC aA).f2).toNat 64)) = bY := by have h_ := bZ; rw [Int.one_mul] at h_; exact h_
       have dX : ((Qu aC aA).f2) ≤ 64 → (IntKind.i64.wrap (2 ^ ((Qu aC aA).f2).toNat)) = bY := fun hle_ => by have h_ := cB hle_; rw [Int.one_mul] at h_; exact h_
       have dY : (wrap64 (1 * 2 ^ min ((Qu aC aA).f2).toNat 64)) = bY := (Zu _).symm.trans bZ
       have dZ : ((Qu aC aA).f2) ≤ 64 → (wrap64 (1 * 2 ^ ((Qu aC aA).f2).toNat)) = bY := fun h_ => (Zu _).symm.trans (cB h_)
       replace H := Zi H
       rcases H with ⟨dF, dG, H⟩ | ⟨c16, dF, dG, H⟩
       ·obtain ⟨eB, dC, H⟩ := zO H
        by_cases c18 : eB = true
        ·subst c18
         replace H := (if_pos rfl).symm.trans H
         obtain rfl := Option.some.inj H
         have aN : 0 ≤ (aA : Int) := zA
         have aQ : aA < (aC.length : Int) := zA
         obtain ⟨cZ, cK, aX, aY, aZ⟩ := jDl (Kd.R_reads' aG.out).2.2 aA aN aQ
         cases cK
         replace aN := eq_true aN
         replace aQ := eq_true aQ
         go_wp2_with (first | ((with_reducible refine Qf (N := 8) rfl ?_); refine zBx (N := 8) #[.int .i64 0, .int .i64 0, .int .i64 0] 99 ?_; intro aD hg eU hbox hb; replace aG := Qa.mk (Kd.R_below (Kd.R_elderB (zR aG.out) aD (Nat.le_of_eq hg.symm)) hb); have aH := Qa.mk (hbox); have aM := zS hg; have aI := zS hg; replace HB := zX hb; clear hb hbox hg; obtain ⟨bA, bB, bC, bD, bE, bF⟩ := zq3 aH.out) | (go_at_call 115; (with_reducible refine (Z8.calls k1 _ l0 a2 ((Qu aC aA).f0) ((Qu aC aA).f1) ((Qu aC aA).f2) true _ ?aJ ?aK dC.out).mono ?_); (case aJ => exact Kd.C_below dA.out (zG aI.out)); (case aK => exact dB.out); rintro e eX ⟨rfl, hb⟩; replace aG := Qa.mk (Kd.R_below (by (with_reducible repeat (first | apply Kd.R_alloc | apply Kd.R_drewN | apply Kd.R_drew)); exact (Kd.R_mono (Kd.R_far (p := ⟨aD, 2, none⟩) (Kd.R_far (p := ⟨aD, 1, none⟩) (Kd.R_far (p := ⟨aD, 0, none⟩) (Kd.R_mono aG.out (fun k_ hk => (⟨hk, hk.2⟩ : _ ∧ k_ ≠ aD))) (fun _ hk => hk.2) (.int .i64 ((Qu aC aA).f0))) (fun _ hk => hk.2) (.int .i64 ((Qu aC aA).f1))) (fun _ hk => hk.2) (.int .i64 ((Qu aC aA).f2))) (fun _ h_ => h_.1))) hb); replace aH := Qa.mk (Zj (g := aD) (o := .cells #[.int .i64 ((Qu aC aA).f0), .int .i64 ((Qu aC aA).f1), .int .i64 ((Qu aC aA).f2)] 99 (0, 0)) (zk0 aH.out) hb); replace HB := zX1 aI.out hb; (try clear hb); (try clear hb2); (try clear hk); (try clear hi)))
         repeat (go_quiet (first | ((with_reducible refine Qf (N := 8) rfl ?_); refine zBx (N := 8) #[.int .i64 0, .int .i64 0, .int .i64 0] 99 ?_; intro aD hg eU hbox hb; replace aG := Qa.mk (Kd.R_below (Kd.R_elderB (zR aG.out) aD (Nat.le_of_eq hg.symm)) hb); have aH := Qa.mk (hbox); have aM := zS hg; have aI := zS hg; replace HB := zX hb; clear hb hbox hg; obtain ⟨bA, bB, bC, bD, bE, bF⟩ := zq3 aH.out) | (go_at_call 115; (with_reducible refine (Z8.calls k1 _ l0 a2 ((Qu aC aA).f0) ((Qu aC aA).f1) ((Qu aC aA).f2) true _ ?aJ ?aK dC.out).mono ?_); (case aJ => exact Kd.C_below dA.out (zG aI.out)); (case aK => exact dB.out); rintro e eX ⟨rfl, hb⟩; replace aG := Qa.mk (Kd.R_below (by (with_reducible repeat (first | apply Kd.R_alloc | apply Kd.R_drewN | apply Kd.R_drew)); exact (Kd.R_mono (Kd.R_far (p := ⟨aD, 2, none⟩) (Kd.R_far (p := ⟨aD, 1, none⟩) (Kd.R_far (p := ⟨aD, 0, none⟩) (Kd.R_mono aG.out (fun k_ hk => (⟨hk, hk.2⟩ : _ ∧ k_ ≠ aD))) (fun _ hk => hk.2) (.int .i64 ((Qu aC aA).f0))) (fun _ hk => hk.2) (.int .i64 ((Qu aC aA).f1))) (fun _ hk => hk.2) (.int .i64 ((Qu aC aA).f2))) (fun _ h_ => h_.1))) hb); replace aH := Qa.mk (Zj (g := aD) (o := .cells #[.int .i64 ((Qu aC aA).f0), .int .i64 ((Qu aC aA).f1), .int .i64 ((Qu aC aA).f2)] 99 (0, 0)) (zk0 aH.out) hb); replace HB := zX1 aI.out hb; (try clear hb); (try clear hb2); (try clear hk); (try clear hi))); try go_wp2_with (first | ((with_reducible refine Qf (N := 8) rfl ?_); refine zBx (N := 8) #[.int .i64 0, .int .i64 0, .int .i64 0] 99 ?_; intro aD hg eU hbox hb; replace aG := Qa.mk (Kd.R_below (Kd.R_elderB (zR aG.out) aD (Nat.le_of_eq hg.symm)) hb); have aH := Qa.mk (hbox); have aM := zS hg; have aI := zS hg; replace HB := zX hb; clear hb hbox hg; obtain ⟨bA, bB, bC, bD, bE, bF⟩ := zq3 aH.out) | (go_at_call 115; (with_reducible refine (Z8.calls k1 _ l0 a2 ((Qu aC aA).f0) ((Qu aC aA).f1) ((Qu aC aA).f2) true _ ?aJ ?aK dC.out).mono ?_); (case aJ => exact Kd.C_below dA.out (zG aI.out)); (case aK => exact dB.out); rintro e eX ⟨rfl, hb⟩; replace aG := Qa.mk (Kd.R_below (by (with_reducible repeat (first | apply Kd.R_alloc | apply Kd.R_drewN | apply Kd.R_drew)); exact (Kd.R_mono (Kd.R_far (p := ⟨aD, 2, none⟩) (Kd.R_far (p := ⟨aD, 1, none⟩) (Kd.R_far (p := ⟨aD, 0, none⟩) (Kd.R_mono aG.out (fun k_ hk => (⟨hk, hk.2⟩ : _ ∧ k_ ≠ aD))) (fun _ hk => hk.2) (.int .i64 ((Qu aC aA).f0))) (fun _ hk => hk.2) (.int .i64 ((Qu aC aA).f1))) (fun _ hk => hk.2) (.int .i64 ((Qu aC aA).f2))) (fun _ h_ => h_.1))) hb); replace aH := Qa.mk (Zj (g := aD) (o := .cells #[.int .i64 ((Qu aC aA).f0), .int .i64 ((Qu aC aA).f1), .int .i64 ((Qu aC aA).f2)] 99 (0, 0)) (zk0 aH.out) hb); replace HB := zX1 aI.out hb; (try clear hb); (try clear hb2); (try clear hk); (try clear hi))))
         go_ret
         exact ⟨by first | rfl | (simp [Za, J7] <;> rfl) | (simp only [← aU, ← aV, ← aW]; first | rfl | (simp [Za, J7] <;> rfl)) | (simp [*, Za, J7] <;> rfl), zG aI.out⟩
        replace c18 := Bool.eq_false_iff.mpr c18
        subst c18
        replace H := (if_neg zFf).symm.trans H
        have H' := Qa.mk H; clear H
        have aN : 0 ≤ (aA : Int) := zA
        have aQ : aA < (aC.length : Int) := zA
        obtain ⟨cZ, cK, aX, aY, aZ⟩ := jDl (Kd.R_reads' aG.out).2.2 aA aN aQ
        cases cK
        replace aN := eq_true aN
        replace aQ := eq_true aQ
        go_wp2_with (first | ((with_reducible refine Qf (N := 8) rfl ?_); refine zBx (N := 8) #[.int .i64 0, .int .i64 0, .int .i64 0] 99 ?_; intro aD hg eY hbox hb; replace aG := Qa.mk (Kd.R_below (Kd.R_elderB (zR aG.out) aD (Nat.le_of_eq hg.symm)) hb); have aH := Qa.mk (hbox); have aM := zS hg; have aI := zS hg; replace HB := zX hb; clear hb hbox hg; obtain ⟨bG, bH, bI, bJ, bK, bL⟩ := zq3 aH.out) | (go_at_call 115; (with_reducible refine (Z8.calls k1 _ l0 a2 ((Qu aC aA).f0) ((Qu aC aA).f1) ((Qu aC aA).f2) false _ ?aJ ?aK dC.out).mono ?_); (case aJ => exact Kd.C_below dA.out (zG aI.out)); (case aK => exact dB.out); rintro e eZ ⟨rfl, hb⟩; replace aG := Qa.mk (Kd.R_below (by (with_reducible repeat (first | apply Kd.R_alloc | apply Kd.R_drewN | apply Kd.R_drew)); exact (Kd.R_mono (Kd.R_far (p := ⟨aD, 2, none⟩) (Kd.R_far (p := ⟨aD, 1, none⟩) (Kd.R_far (p := ⟨aD, 0, none⟩) (Kd.R_mono aG.out (fun k_ hk => (⟨hk, hk.2⟩ : _ ∧ k_ ≠ aD))) (fun _ hk => hk.2) (.int .i64 ((Qu aC aA).f0))) (fun _ hk => hk.2) (.int .i64 ((Qu aC aA).f1))) (fun _ hk => hk.2) (.int .i64 ((Qu aC aA).f2))) (fun _ h_ => h_.1))) hb); replace aH := Qa.mk (Zj (g := aD) (o := .cells #[.int .i64 ((Qu aC aA).f0), .int .i64 ((Qu aC aA).f1), .int .i64 ((Qu aC aA).f2)] 99 (0, 0)) (zk0 aH.out) hb); replace HB := zX1 aI.out hb; (try clear hb); (try clear hb2); (try clear hk); (try clear hi)))
        repeat (go_quiet (first | ((with_reducible refine Qf (N := 8) rfl ?_); refine zBx (N := 8) #[.int .i64 0, .int .i64 0, .int .i64 0] 99 ?_; intro aD hg eY hbox hb; replace aG := Qa.mk (Kd.R_below (Kd.R_elderB (zR aG.out) aD (Nat.le_of_eq hg.symm)) hb); have aH := Qa.mk (hbox); have aM := zS hg; have aI := zS hg; replace HB := zX hb; clear hb hbox hg; obtain ⟨bG, bH, bI, bJ, bK, bL⟩ := zq3 aH.out) | (go_at_call 115; (with_reducible refine (Z8.calls k1 _ l0 a2 ((Qu aC aA).f0) ((Qu aC aA).f1) ((Qu aC aA).f2) false _ ?aJ ?aK dC.out).mono ?_); (case aJ => exact Kd.C_below dA.out (zG aI.out)); (case aK => exact dB.out); rintro e eZ ⟨rfl, hb⟩; replace aG := Qa.mk (Kd.R_below (by (with_reducible repeat (first | apply Kd.R_alloc | apply Kd.R_drewN | apply Kd.R_drew)); exact (Kd.R_mono (Kd.R_far (p := ⟨aD, 2, none⟩) (Kd.R_far (p := ⟨aD, 1, none⟩) (Kd.R_far (p := ⟨aD, 0, none⟩) (Kd.R_mono aG.out (fun k_ hk => (⟨hk, hk.2⟩ : _ ∧ k_ ≠ aD))) (fun _ hk => hk.2) (.int .i64 ((Qu aC aA).f0))) (fun _ hk => hk.2) (.int .i64 ((Qu aC aA).f1))) (fun _ hk => hk.2) (.int .i64 ((Qu aC aA).f2))) (fun _ h_ => h_.1))) hb); replace aH := Qa.mk (Zj (g := aD) (o := .cells #[.int .i64 ((Qu aC aA).f0), .int .i64 ((Qu aC aA).f1), .int .i64 ((Qu aC aA).f2)] 99 (0, 0)) (zk0 aH.out) hb); replace HB := zX1 aI.out hb; (try clear hb); (try clear hb2); (try clear hk); (try clear hi))); try go_wp2_with (first | ((with_reducible refine Qf (N := 8) rfl ?_); refine zBx (N := 8) #[.int .i64 0, .int .i64 0, .int .i64 0] 99 ?_; intro aD hg eY hbox hb; replace aG := Qa.mk (Kd.R_below (Kd.R_elderB (zR aG.out) aD (Nat.le_of_eq hg.symm)) hb); have aH := Qa.mk (hbox); have aM := zS hg; have aI := zS hg; replace HB := zX hb; clear hb hbox hg; obtain ⟨bG, bH, bI, bJ, bK, bL⟩ := zq3 aH.out) | (go_at_call 115; (with_reducible refine (Z8.calls k1 _ l0 a2 ((Qu aC aA).f0) ((Qu aC aA).f1) ((Qu aC aA).f2) false _ ?aJ ?aK dC.out).mono ?_); (case aJ => exact Kd.C_below dA.out (zG aI.out)); (case aK => exact dB.out); rintro e eZ ⟨rfl, hb⟩; replace aG := Qa.mk (Kd.R_below (by (with_reducible repeat (first | apply Kd.R_alloc | apply Kd.R_drewN | apply Kd.R_drew)); exact (Kd.R_mono (Kd.R_far (p := ⟨aD, 2, none⟩) (Kd.R_far (p := ⟨aD, 1, none⟩) (Kd.R_far (p := ⟨aD, 0, none⟩) (Kd.R_mono aG.out (fun k_ hk => (⟨hk, hk.2⟩ : _ ∧ k_ ≠ aD))) (fun _ hk => hk.2) (.int .i64 ((Qu aC aA).f0))) (fun _ hk => hk.2) (.int .i64 ((Qu aC aA).f1))) (fun _ hk => hk.2) (.int .i64 ((Qu aC aA).f2))) (fun _ h_ => h_.1))) hb); replace aH := Qa.mk (Zj (g := aD) (o := .cells #[.int .i64 ((Qu aC aA).f0), .int .i64 ((Qu aC aA).f1), .int .i64 ((Qu aC aA).f2)] 99 (0, 0)) (zk0 aH.out) hb); replace HB := zX1 aI.out hb; (try clear hb); (try clear hb2); (try clear hk); (try clear hi))))
        go_roundg k1
        case measure => have := dH.out; omega
        case rel => exact ⟨(wrap64 (aA + 1)), zF, H', ⟨by have := dH.out; omega⟩, ⟨zR (Kd.R_mono aG.out (fun _ hk => trivial))⟩, ⟨zG aI.out⟩⟩
       have H' := Qa.mk H; clear H
       have aN : 0 ≤ (aA : Int) := zA
       have aQ : aA < (aC.length : Int) := zA
       obtain ⟨cZ, cK, aX, aY, aZ⟩ := jDl (Kd.R_reads' aG.out).2.2 aA aN aQ
       cases cK
       replace aN := eq_true aN
       replace aQ := eq_true aQ
       go_wp2_with (first | ((with_reducible refine Qf (N := 8) rfl ?_); refine zBx (N := 8) #[.int .i64 0, .int .i64 0, .int .i64 0] 99 ?_; intro aD hg fA hbox hb; replace aG := Qa.mk (Kd.R_below (Kd.R_elderB (zR aG.out) aD (Nat.le_of_eq hg.symm)) hb); have aH := Qa.mk (hbox); have aM := zS hg; have aI := zS hg; replace HB := zX hb; clear hb hbox hg; obtain ⟨bM, bN, bO, bP, bQ, bR⟩ := zq3 aH.out))
       repeat (go_quiet (first | ((with_reducible refine Qf (N := 8) rfl ?_); refine zBx (N := 8) #[.int .i64 0, .int .i64 0, .int .i64 0] 99 ?_; intro aD hg fA hbox hb; replace aG := Qa.mk (Kd.R_below (Kd.R_elderB (zR aG.out) aD (Nat.le_of_eq hg.symm)) hb); have aH := Qa.mk (hbox); have aM := zS hg; have aI := zS hg; replace HB := zX hb; clear hb hbox hg; obtain ⟨bM, bN, bO, bP, bQ, bR⟩ := zq3 aH.out)); try go_wp2_with (first | ((with_reducible refine Qf (N := 8) rfl ?_); refine zBx (N := 8) #[.int .i64 0, .int .i64 0, .int .i64 0] 99 ?_; intro aD hg fA hbox hb; replace aG := Qa.mk (Kd.R_below (Kd.R_elderB (zR aG.out) aD (Nat.le_of_eq hg.symm)) hb); have aH := Qa.mk (hbox); have aM := zS hg; have aI := zS hg; replace HB := zX hb; clear hb hbox hg; obtain ⟨bM, bN, bO, bP, bQ, bR⟩ := zq3 aH.out)))
       go_roundg k1
       case measure => have := dH.out; omega
       case rel => exact ⟨(wrap64 (aA + 1)), zF, H', ⟨by have := dH.out; omega⟩, ⟨by (with_reducible repeat (first | apply Kd.R_alloc | apply Kd.R_drewN | apply Kd.R_drew)); exact Kd.R_mono (Kd.R_far (p := ⟨aD, 2, none⟩) (Kd.R_far (p := ⟨aD, 1, none⟩) (Kd.R_far (p := ⟨aD, 0, none⟩) (Kd.R_mono aG.out (fun k_ hk => (⟨hk, hk.2⟩ : _ ∧ k_ ≠ aD))) (fun _ hk => hk.2) (.int .i64 ((Qu aC aA).f0))) (fun _ hk => hk.2) (.int .i64 ((Qu aC aA).f1))) (fun _ hk => hk.2) (.int .i64 ((Qu aC aA).f2))) (fun _ hk => trivial)⟩, ⟨zG aI.out⟩⟩
      exact absurd H (by simp)
     exact absurd H (by simp)
    exact absurd H (by simp)
   exact absurd H (by simp)
  exact absurd H (by simp)
 obtain rfl := Option.some.inj H
 go_wp2
 repeat (go_quiet (fail); try go_wp2)
 go_ret
 exact ⟨zE, zB⟩
mutual
def Jc.l0 : Nat → List Int → Int → Int → Int → Option (Bool)
 | 0, _, _, _, _ => none
 | k + 1, x0, x1, x5, x6 => if x6 < (rd x0 0) then (if 0 ≤ x6 then (if (Go.bits .and .i64 (shr .i64 x1 x6) 1) = 1 then ((Jv.f k x0 x5 x6).bind fun aC => (if aC = true then (some false) else (Jc.l0 k x0 x1 x5 (wrap64 (x6 + 1))))) else ((Jv.f k x0 x1 x6).bind fun aD => (if aD = true then (some false) else (Jc.l0 k x0 x1 x5 (wrap64 (x6 + 1)))))) else (none)) else ((Q9.f k (rd x0 0)).bind fun aA => (Jc.l1 k x0 x1 x5 aA (aA.length : Int) 0))
def Jc.l1 : Nat → List Int → Int → Int → List (S91) → Int → Int → Option (Bool)
 | 0, _, _, _, _, _, _ => none
 | k + 1, x0, x1, x5, aD, x43, aC => if aC < x43 then (if 0 ≤ aC then (if aC < (aD.length : Int) then ((Ju.f k x0 ((Qj aD aC).f0) ((Qj aD aC).f1) ((Qj aD aC).f2) ((Qj aD aC).f3)).bind fun aA => ((Zw.f (IntKind.u64.wrap (aA.1))).bind fun aG => (if aG = 2 then (if (Go.bits .and .i64 aA.1 x1) = aA.1 then (if (Go.bits .and .i64 aA.2 x5) = aA.2 then (some false) else (if (Go.bits .and .i64 aA.2 x1) = aA.2 then (if (Go.bits .and .i64 aA.1 x5) = aA.1 then (some false) else (Jc.l1 k x0 x1 x5 aD x43 (wrap64 (aC + 1)))) else (Jc.l1 k x0 x1 x5 aD x43 (wrap64 (aC + 1))))) else (if (Go.bits .and .i64 aA.2 x1) = aA.2 then (if (Go.bits .and .i64 aA.1 x5) = aA.1 then (some false) else (Jc.l1 k x0 x1 x5 aD x43 (wrap64 (aC + 1)))) else (Jc.l1 k x0 x1 x5 aD x43 (wrap64 (aC + 1))))) else (Jc.l1 k x0 x1 x5 aD x43 (wrap64 (aC + 1)))))) else (none)) else (none)) else (some true)
end
def Jc.f (k : Nat) (l0 : List Int) (a1 : Int) : Option (Bool) := (X5.f (rd l0 0)).bind fun aA => (Jc.l0 k l0 a1 (Go.bits .andNot .i64 aA a1) 0)
set_option maxHeartbeats 8000000 in
set_option maxRecDepth 100000 in
theorem Jc.calls (k : Nat) (g0 : Nat) (l0 : List Int) (a1 : Int) (r : Bool) (w : World) (hr0 : Kd.C (Kd.int .i64) w (some ⟨g0, 0, none⟩) l0.length l0) (hc0 : l0.length = 344) (h : Jc.f k l0 a1 = some r) :
  Calls Try.prog 138 #[.pointer (some ⟨g0, 0, none⟩), .int .i64 a1] w fun e w' => e = .returned (.bool r) ∧ Below w.heap.size w w' := by
 have iM := Try.underlying91
 have iF := Try.underlying115
 have bG := Qa.mk hr0
 have bH := Qa.mk hc0
 clear hr0 hc0
 have HB := Qa.mk (Below.refl w.heap.size w)
 have H := h
 unfold Jc.f at H
 clear h
 obtain ⟨bF, A3, H⟩ := zO H
 have H' := Qa.mk H; clear H
 obtain ⟨bQ, bR, gY, bJ⟩ := zC0 bG.out bH.out
 go_enter Try.func138, Try.ntmps138
 go_wp2_with (first | ((with_reducible refine Qb (f := 121) rfl ?_); refine zD (some 16) Try.func121 _ ((X5.calls (rd l0 0) bF _ A3.out).mono ?_); rintro e w' ⟨rfl, ⟨nd, rfl⟩⟩; refine ⟨_, rfl, ?_⟩))
 go_loopg [6] k (fun kq v6 w' => ∃ (aZ : Int), v6 = .int .i64 aZ ∧ Qa (Jc.l0 kq l0 a1 (Go.bits .andNot .i64 bF a1) aZ = some r) ∧ Qa (kq ≤ k) ∧ Qa (Below w.heap.size w w'))
 case atStart => exact ⟨(0), zF, H', ⟨Nat.le_refl _⟩, ⟨zB⟩⟩
 case round =>
 clear H'
 try clear bJ
 try clear bQ
 try clear bR
 obtain ⟨aZ, rfl, HA, bM, HB⟩ := hrel
 cases gk with
 | zero => exact absurd HA.out (by simp [Jc.l0])
 | succ k1 =>
 have H := HA.out
 clear HA
 simp only [Jc.l0] at H
 replace H := Z5 H
 rcases H with ⟨bU, H⟩ | ⟨bU, H⟩
 ·replace H := Xw H
  rcases H with ⟨iN, iO, H⟩ | ⟨c5, H⟩
  ·obtain ⟨iP, bN⟩ : ∃ j_ : Int, (shr .i64 a1 aZ) = j_ := ⟨_, rfl⟩
   first | rw [bN] at H | simp only [bN] at H
   have iG : (a1 / 2 ^ min aZ.toNat 64) = iP := bN
   have iH := U3 bN
   replace H := Zi H
   rcases H with ⟨gZ, iA, H⟩ | ⟨c7, gZ, iA, H⟩
   ·obtain ⟨bV, A8, H⟩ := zO H
    by_cases c9 : bV = true
    ·subst c9
     replace H := (if_pos rfl).symm.trans H
     obtain rfl := Option.some.inj H
     obtain ⟨bK, bL, bI, aJ⟩ := zC0 bG.out bH.out
     replace aJ := (HB.out.cell (World.block_lt_of_cell? w _ aJ)).trans aJ
     go_wp2_with (first | ((with_reducible refine Qb (f := 134) rfl ?_); refine zD (some 37) Try.func134 #[.pointer (some ⟨g0, 0, none⟩), .int .i64 (Go.bits .andNot .i64 bF a1), .int .i64 aZ] ((Jv.calls k1 _ l0 (Go.bits .andNot .i64 bF a1) aZ true _ ?aN ?aQ A8.out).mono ?_); (case aN => exact zc (Kd.C_below bG.out HB.out)); (case aQ => exact bH.out); rintro e iR ⟨rfl, hb⟩; refine ⟨_, rfl, ?_⟩; replace HB := zX hb; (try clear hb)))
     go_ret
     exact ⟨by first | rfl | (simp [Za, J7] <;> rfl) | (simp only [← bN]; first | rfl | (simp [Za, J7] <;> rfl)) | (simp [*, Za, J7] <;> rfl), zB⟩
    replace c9 := Bool.eq_false_iff.mpr c9
    subst c9
    replace H := (if_neg zFf).symm.trans H
    have H' := Qa.mk H; clear H
    obtain ⟨bK, bL, bI, aJ⟩ := zC0 bG.out bH.out
    replace aJ := (HB.out.cell (World.block_lt_of_cell? w _ aJ)).trans aJ
    go_wp2_with (first | ((with_reducible refine Qb (f := 134) rfl ?_); refine zD (some 37) Try.func134 #[.pointer (some ⟨g0, 0, none⟩), .int .i64 (Go.bits .andNot .i64 bF a1), .int .i64 aZ] ((Jv.calls k1 _ l0 (Go.bits .andNot .i64 bF a1) aZ false _ ?aN ?aQ A8.out).mono ?_); (case aN => exact zc (Kd.C_below bG.out HB.out)); (case aQ => exact bH.out); rintro e iT ⟨rfl, hb⟩; refine ⟨_, rfl, ?_⟩; replace HB := zX hb; (try clear hb)))
    go_roundg k1
    case measure => have := bM.out; omega
    case rel => exact ⟨(wrap64 (aZ + 1)), zF, H', ⟨by have := bM.out; omega⟩, ⟨zB⟩⟩
   obtain ⟨bW, iI, H⟩ := zO H
   by_cases c13 : bW = true
   ·subst c13
    replace H := (if_pos rfl).symm.trans H
    obtain rfl := Option.some.inj H
    obtain ⟨bK, bL, bI, aJ⟩ := zC0 bG.out bH.out
    replace aJ := (HB.out.cell (World.block_lt_of_cell? w _ aJ)).trans aJ
    go_wp2_with (first | ((with_reducible refine Qb (f := 134) rfl ?_); refine zD (some 37) Try.func134 #[.pointer (some ⟨g0, 0, none⟩), .int .i64 a1, .int .i64 aZ] ((Jv.calls k1 _ l0 a1 aZ true _ ?aN ?aQ iI.out).mono ?_); (case aN => exact zc (Kd.C_below bG.out HB.out)); (case aQ => exact bH.out); rintro e iU ⟨rfl, hb⟩; refine ⟨_, rfl, ?_⟩; replace HB := zX hb; (try clear hb)))
    go_ret
    exact ⟨by first | rfl | (simp [Za, J7] <;> rfl) | (simp only [← bN]; first | rfl | (simp [Za, J7] <;> rfl)) | (simp [*, Za, J7] <;> rfl), zB⟩
   replace c13 := Bool.eq_false_iff.mpr c13
   subst c13
   replace H := (if_neg zFf).symm.trans H
   have H' := Qa.mk H; clear H
   obtain ⟨bK, bL, bI, aJ⟩ := zC0 bG.out bH.out
   replace aJ := (HB.out.cell (World.block_lt_of_cell? w _ aJ)).trans aJ
   go_wp2_with (first | ((with_reducible refine Qb (f := 134) rfl ?_); refine zD (some 37) Try.func134 #[.pointer (some ⟨g0, 0, none⟩), .int .i64 a1, .int .i64 aZ] ((Jv.calls k1 _ l0 a1 aZ false _ ?aN ?aQ iI.out).mono ?_); (case aN => exact zc (Kd.C_below bG.out HB.out)); (case aQ => exact bH.out); rintro e iV ⟨rfl, hb⟩; refine ⟨_, rfl, ?_⟩; replace HB := zX hb; (try clear hb)))
   go_roundg k1
   case measure => have := bM.out; omega
   case rel => exact ⟨(wrap64 (aZ + 1)), zF, H', ⟨by have := bM.out; omega⟩, ⟨zB⟩⟩
  exact absurd H (by simp)
 obtain ⟨aC, iQ, H⟩ := zO H
 have H' := Qa.mk H; clear H
 obtain ⟨bK, bL, bI, aJ⟩ := zC0 bG.out bH.out
 replace aJ := (HB.out.cell (World.block_lt_of_cell? w _ aJ)).trans aJ
 obtain ⟨bX, bY, iB, bC⟩ := zC0 bG.out bH.out
 replace bC := (HB.out.cell (World.block_lt_of_cell? w _ bC)).trans bC
 go_wp2_with (first | ((with_reducible refine Qb (f := 110) rfl ?_); refine zD (some 42) Try.func110 _ ((Q9.calls k1 (rd l0 0) aC _ iQ.out).mono ?_); rintro e iW ⟨iJ, rfl, ho0, hb⟩; refine ⟨_, rfl, ?_⟩; have bO := Qa.mk (Kd.R_lower ho0 (Ql zB)); replace HB := zX hb; (try clear hb); (try clear ho0); obtain ⟨iC, iD, iE⟩ := Kd.R_slice bO.out; subst iE))
 go_loopg [44] k1 (fun kq v44 w' => ∃ (aA : Int), v44 = .int .i64 aA ∧ Qa (Jc.l1 kq l0 a1 (Go.bits .andNot .i64 bF a1) aC (aC.length : Int) aA = some r) ∧ Qa (kq ≤ k1) ∧ Qa (Kd.R k91 91 w' w.heap.size (fun _ => True) (.slice iC aC.length iD) aC) ∧ Qa (Below w.heap.size w w'))
 case atStart => exact ⟨(0), zF, H', ⟨Nat.le_refl _⟩, ⟨zR bO.out⟩, ⟨zB⟩⟩
 case round =>
 clear H'
 try clear c4
 try clear bU
 try clear bJ
 try clear aJ
 try clear bC
 try clear bQ
 try clear bK
 try clear bX
 try clear bR
 try clear bL
 try clear bY
 obtain ⟨aA, rfl, HA, bP, aG, HB⟩ := hrel
 cases gk with
 | zero => exact absurd HA.out (by simp [Jc.l1])
 | succ k2 =>
 have H := HA.out
 clear HA
 simp only [Jc.l1] at H
 replace H := Z5 H
 rcases H with ⟨bZ, H⟩ | ⟨bZ, H⟩
 ·replace H := Zq H
  rcases H with ⟨iK, H⟩ | ⟨c20, H⟩
  ·replace H := Zq H
   rcases H with ⟨iL, H⟩ | ⟨c21, H⟩
   ·obtain ⟨⟨aT, bD⟩, bS, H⟩ := zO H
    dsimp only at H
    obtain ⟨bE, bT, H⟩ := zO H
    replace H := Zi H
    rcases H with ⟨cB, cK, H⟩ | ⟨c24, cB, cK, H⟩
    ·replace H := Zi H
     rcases H with ⟨cO, cZ, H⟩ | ⟨iX, cO, cZ, H⟩
     ·replace H := Zi H
      rcases H with ⟨dA, dB, H⟩ | ⟨iY, dA, dB, H⟩
      ·obtain rfl := Option.some.inj H
       have aK : 0 ≤ (aA : Int) := zA
       have aM : aA < (aC.length : Int) := zA
       obtain ⟨bA, aU, aV, aW, aX, aY⟩ := Kq (Kd.R_reads' aG.out).2.2 aA aK aM
       cases aU
       replace aK := eq_true aK
       replace aM := eq_true aM
       go_wp2_with (first | ((with_reducible refine Qf (N := 9) rfl ?_); refine zBx (N := 9) #[.int .i64 0, .int .i64 0, .int .i64 0, .int .i64 0] 91 ?_; intro aD hg iZ hbox hb; replace aG := Qa.mk (Kd.R_below (Kd.R_elderB (zR aG.out) aD (Nat.le_of_eq hg.symm)) hb); have aH := Qa.mk (hbox); have bB := zS hg; have aI := zS hg; replace HB := zX hb; clear hb hbox hg; obtain ⟨dK, dL, dM, dN, dO, dP, dQ, dR⟩ := zq4 aH.out) | ((with_reducible refine Qb (f := 106) rfl ?_); refine zD (some 58) Try.func106 #[.pointer (some ⟨g0, 0, none⟩), .int .i64 ((Qj aC aA).f0), .int .i64 ((Qj aC aA).f1), .int .i64 ((Qj aC aA).f2), .int .i64 ((Qj aC aA).f3)] ((Ju.calls k2 _ l0 ((Qj aC aA).f0) ((Qj aC aA).f1) ((Qj aC aA).f2) ((Qj aC aA).f3) aT bD _ ?aN ?aQ bS.out).mono ?_); (case aN => exact Kd.C_below bG.out (zG aI.out)); (case aQ => exact bH.out); rintro e jA ⟨rfl, hb⟩; refine ⟨_, rfl, ?_⟩; replace aG := Qa.mk (Kd.R_below (by (with_reducible repeat (first | apply Kd.R_alloc | apply Kd.R_drewN | apply Kd.R_drew)); exact (Kd.R_mono (Kd.R_far (p := ⟨aD, 3, none⟩) (Kd.R_far (p := ⟨aD, 2, none⟩) (Kd.R_far (p := ⟨aD, 1, none⟩) (Kd.R_far (p := ⟨aD, 0, none⟩) (Kd.R_mono aG.out (fun k_ hk => (⟨hk, hk.2⟩ : _ ∧ k_ ≠ aD))) (fun _ hk => hk.2) (.int .i64 ((Qj aC aA).f0))) (fun _ hk => hk.2) (.int .i64 ((Qj aC aA).f1))) (fun _ hk => hk.2) (.int .i64 ((Qj aC aA).f2))) (fun _ hk => hk.2) (.int .i64 ((Qj aC aA).f3))) (fun _ h_ => h_.1))) hb); replace aH := Qa.mk (Zj (g := aD) (o := .cells #[.int .i64 ((Qj aC aA).f0), .int .i64 ((Qj aC aA).f1), .int .i64 ((Qj aC aA).f2), .int .i64 ((Qj aC aA).f3)] 91 (0, 0)) (zk0 aH.out) hb); replace HB := zX1 aI.out hb; (try clear hb)) | ((with_reducible refine Qb (f := 135) rfl ?_); refine zD (some 63) Try.func135 _ ((Zw.calls (IntKind.u64.wrap (aT)) bE _ bT.out).mono ?_); rintro e w' ⟨rfl, ⟨nd, rfl⟩⟩; refine ⟨_, rfl, ?_⟩))
       go_ret
       exact ⟨zE, zG aI.out⟩
      replace H := Zi H
      rcases H with ⟨dC, dD, H⟩ | ⟨jB, dC, dD, H⟩
      ·replace H := Zi H
       rcases H with ⟨dE, dF, H⟩ | ⟨c31, dE, dF, H⟩
       ·obtain rfl := Option.some.inj H
        have aK : 0 ≤ (aA : Int) := zA
        have aM : aA < (aC.length : Int) := zA
        obtain ⟨bA, aU, aV, aW, aX, aY⟩ := Kq (Kd.R_reads' aG.out).2.2 aA aK aM
        cases aU
        replace aK := eq_true aK
        replace aM := eq_true aM
        go_wp2_with (first | ((with_reducible refine Qf (N := 9) rfl ?_); refine zBx (N := 9) #[.int .i64 0, .int .i64 0, .int .i64 0, .int .i64 0] 91 ?_; intro aD hg w32 hbox hb; replace aG := Qa.mk (Kd.R_below (Kd.R_elderB (zR aG.out) aD (Nat.le_of_eq hg.symm)) hb); have aH := Qa.mk (hbox); have bB := zS hg; have aI := zS hg; replace HB := zX hb; clear hb hbox hg; obtain ⟨dS, dU, dV, dW, dX, dY, dZ, eB⟩ := zq4 aH.out) | ((with_reducible refine Qb (f := 106) rfl ?_); refine zD (some 58) Try.func106 #[.pointer (some ⟨g0, 0, none⟩), .int .i64 ((Qj aC aA).f0), .int .i64 ((Qj aC aA).f1), .int .i64 ((Qj aC aA).f2), .int .i64 ((Qj aC aA).f3)] ((Ju.calls k2 _ l0 ((Qj aC aA).f0) ((Qj aC aA).f1) ((Qj aC aA).f2) ((Qj aC aA).f3) aT bD _ ?aN ?aQ bS.out).mono ?_); (case aN => exact Kd.C_below bG.out (zG aI.out)); (case aQ => exact bH.out); rintro e jC ⟨rfl, hb⟩; refine ⟨_, rfl, ?_⟩; replace aG := Qa.mk (Kd.R_below (by (with_reducible repeat (first | apply Kd.R_alloc | apply Kd.R_drewN | apply Kd.R_drew)); exact (Kd.R_mono (Kd.R_far (p := ⟨aD, 3, none⟩) (Kd.R_far (p := ⟨aD, 2, none⟩) (Kd.R_far (p := ⟨aD, 1, none⟩) (Kd.R_far (p := ⟨aD, 0, none⟩) (Kd.R_mono aG.out (fun k_ hk => (⟨hk, hk.2⟩ : _ ∧ k_ ≠ aD))) (fun _ hk => hk.2) (.int .i64 ((Qj aC aA).f0))) (fun _ hk => hk.2) (.int .i64 ((Qj aC aA).f1))) (fun _ hk => hk.2) (.int .i64 ((Qj aC aA).f2))) (fun _ hk => hk.2) (.int .i64 ((Qj aC aA).f3))) (fun _ h_ => h_.1))) hb); replace aH := Qa.mk (Zj (g := aD) (o := .cells #[.int .i64 ((Qj aC aA).f0), .int .i64 ((Qj aC aA).f1), .int .i64 ((Qj aC aA).f2), .int .i64 ((Qj aC aA).f3)] 91 (0, 0)) (zk0 aH.out) hb); replace HB := zX1 aI.out hb; (try clear hb)) | ((with_reducible refine Qb (f := 135) rfl ?_); refine zD (some 63) Try.func135 _ ((Zw.calls (IntKind.u64.wrap (aT)) bE _ bT.out).mono ?_); rintro e w' ⟨rfl, ⟨nd, rfl⟩⟩; refine ⟨_, rfl, ?_⟩))
        go_ret
        exact ⟨zE, zG aI.out⟩
       have H' := Qa.mk H; clear H
       have aK : 0 ≤ (aA : Int) := zA
       have aM : aA < (aC.length : Int) := zA
       obtain ⟨bA, aU, aV, aW, aX, aY⟩ := Kq (Kd.R_reads' aG.out).2.2 aA aK aM
       cases aU
       replace aK := eq_true aK
       replace aM := eq_true aM
       go_wp2_with (first | ((with_reducible refine Qf (N := 9) rfl ?_); refine zBx (N := 9) #[.int .i64 0, .int .i64 0, .int .i64 0, .int .i64 0] 91 ?_; intro aD hg jD hbox hb; replace aG := Qa.mk (Kd.R_below (Kd.R_elderB (zR aG.out) aD (Nat.le_of_eq hg.symm)) hb); have aH := Qa.mk (hbox); have bB := zS hg; have aI := zS hg; replace HB := zX hb; clear hb hbox hg; obtain ⟨eD, eF, eG, eH, eO, eP, eQ, eT⟩ := zq4 aH.out) | ((with_reducible refine Qb (f := 106) rfl ?_); refine zD (some 58) Try.func106 #[.pointer (some ⟨g0, 0, none⟩), .int .i64 ((Qj aC aA).f0), .int .i64 ((Qj aC aA).f1), .int .i64 ((Qj aC aA).f2), .int .i64 ((Qj aC aA).f3)] ((Ju.calls k2 _ l0 ((Qj aC aA).f0) ((Qj aC aA).f1) ((Qj aC aA).f2) ((Qj aC aA).f3) aT bD _ ?aN ?aQ bS.out).mono ?_); (case aN => exact Kd.C_below bG.out (zG aI.out)); (case aQ => exact bH.out); rintro e jE ⟨rfl, hb⟩; refine ⟨_, rfl, ?_⟩; replace aG := Qa.mk (Kd.R_below (by (with_reducible repeat (first | apply Kd.R_alloc | apply Kd.R_drewN | apply Kd.R_drew)); exact (Kd.R_mono (Kd.R_far (p := ⟨aD, 3, none⟩) (Kd.R_far (p := ⟨aD, 2, none⟩) (Kd.R_far (p := ⟨aD, 1, none⟩) (Kd.R_far (p := ⟨aD, 0, none⟩) (Kd.R_mono aG.out (fun k_ hk => (⟨hk, hk.2⟩ : _ ∧ k_ ≠ aD))) (fun _ hk => hk.2) (.int .i64 ((Qj aC aA).f0))) (fun _ hk => hk.2) (.int .i64 ((Qj aC aA).f1))) (fun _ hk => hk.2) (.int .i64 ((Qj aC aA).f2))) (fun _ hk => hk.2) (.int .i64 ((Qj aC aA).f3))) (fun _ h_ => h_.1))) hb); replace aH := Qa.mk (Zj (g := aD) (o := .cells #[.int .i64 ((Qj aC aA).f0), .int .i64 ((Qj aC aA).f1), .int .i64 ((Qj aC aA).f2), .int .i64 ((Qj aC aA).f3)] 91 (0, 0)) (zk0 aH.out) hb); replace HB := zX1 aI.out hb; (try clear hb)) | ((with_reducible refine Qb (f := 135) rfl ?_); refine zD (some 63) Try.func135 _ ((Zw.calls (IntKind.u64.wrap (aT)) bE _ bT.out).mono ?_); rintro e w' ⟨rfl, ⟨nd, rfl⟩⟩; refine ⟨_, rfl, ?_⟩))
       go_roundg k2
       case measure => have := bM.out; have := bP.out; omega
       case rel => exact ⟨(wrap64 (aA + 1)), zF, H', ⟨by have := bM.out; have := bP.out; omega⟩, ⟨zR (Kd.R_mono aG.out (fun _ hk => trivial))⟩, ⟨zG aI.out⟩⟩
      have H' := Qa.mk H; clear H
      have aK : 0 ≤ (aA : Int) := zA
      have aM : aA < (aC.length : Int) := zA
      obtain ⟨bA, aU, aV, aW, aX, aY⟩ := Kq (Kd.R_reads' aG.out).2.2 aA aK aM
      cases aU
      replace aK := eq_true aK
      replace aM := eq_true aM
      go_wp2_with (first | ((with_reducible refine Qf (N := 9) rfl ?_); refine zBx (N := 9) #[.int .i64 0, .int .i64 0, .int .i64 0, .int .i64 0] 91 ?_; intro aD hg jF hbox hb; replace aG := Qa.mk (Kd.R_below (Kd.R_elderB (zR aG.out) aD (Nat.le_of_eq hg.symm)) hb); have aH := Qa.mk (hbox); have bB := zS hg; have aI := zS hg; replace HB := zX hb; clear hb hbox hg; obtain ⟨eU, eX, eY, eZ, fA, fB, fC, fD⟩ := zq4 aH.out) | ((with_reducible refine Qb (f := 106) rfl ?_); refine zD (some 58) Try.func106 #[.pointer (some ⟨g0, 0, none⟩), .int .i64 ((Qj aC aA).f0), .int .i64 ((Qj aC aA).f1), .int .i64 ((Qj aC aA).f2), .int .i64 ((Qj aC aA).f3)] ((Ju.calls k2 _ l0 ((Qj aC aA).f0) ((Qj aC aA).f1) ((Qj aC aA).f2) ((Qj aC aA).f3) aT bD _ ?aN ?aQ bS.out).mono ?_); (case aN => exact Kd.C_below bG.out (zG aI.out)); (case aQ => exact bH.out); rintro e jG ⟨rfl, hb⟩; refine ⟨_, rfl, ?_⟩; replace aG := Qa.mk (Kd.R_below (by (with_reducible repeat (first | apply Kd.R_alloc | apply Kd.R_drewN | apply Kd.R_drew)); exact (Kd.R_mono (Kd.R_far (p := ⟨aD, 3, none⟩) (Kd.R_far (p := ⟨aD, 2, none⟩) (Kd.R_far (p := ⟨aD, 1, none⟩) (Kd.R_far (p := ⟨aD, 0, none⟩) (Kd.R_mono aG.out (fun k_ hk => (⟨hk, hk.2⟩ : _ ∧ k_ ≠ aD))) (fun _ hk => hk.2) (.int .i64 ((Qj aC aA).f0))) (fun _ hk => hk.2) (.int .i64 ((Qj aC aA).f1))) (fun _ hk => hk.2) (.int .i64 ((Qj aC aA).f2))) (fun _ hk => hk.2) (.int .i64 ((Qj aC aA).f3))) (fun _ h_ => h_.1))) hb); replace aH := Qa.mk (Zj (g := aD) (o := .cells #[.int .i64 ((Qj aC aA).f0), .int .i64 ((Qj aC aA).f1), .int .i64 ((Qj aC aA).f2), .int .i64 ((Qj aC aA).f3)] 91 (0, 0)) (zk0 aH.out) hb); replace HB := zX1 aI.out hb; (try clear hb)) | ((with_reducible refine Qb (f := 135) rfl ?_); refine zD (some 63) Try.func135 _ ((Zw.calls (IntKind.u64.wrap (aT)) bE _ bT.out).mono ?_); rintro e w' ⟨rfl, ⟨nd, rfl⟩⟩; refine ⟨_, rfl, ?_⟩))
      go_roundg k2
      case measure => have := bM.out; have := bP.out; omega
      case rel => exact ⟨(wrap64 (aA + 1)), zF, H', ⟨by have := bM.out; have := bP.out; omega⟩, ⟨zR (Kd.R_mono aG.out (fun _ hk => trivial))⟩, ⟨zG aI.out⟩⟩
     replace H := Zi H
     rcases H with ⟨dG, dH, H⟩ | ⟨jH, dG, dH, H⟩
     ·replace H := Zi H
      rcases H with ⟨dI, dJ, H⟩ | ⟨jI, dI, dJ, H⟩
      ·obtain rfl := Option.some.inj H
       have aK : 0 ≤ (aA : Int) := zA
       have aM : aA < (aC.length : Int) := zA
       obtain ⟨bA, aU, aV, aW, aX, aY⟩ := Kq (Kd.R_reads' aG.out).2.2 aA aK aM
       cases aU
       replace aK := eq_true aK
       replace aM := eq_true aM
       go_wp2_with (first | ((with_reducible refine Qf (N := 9) rfl ?_); refine zBx (N := 9) #[.int .i64 0, .int .i64 0, .int .i64 0, .int .i64 0] 91 ?_; intro aD hg jJ hbox hb; replace aG := Qa.mk (Kd.R_below (Kd.R_elderB (zR aG.out) aD (Nat.le_of_eq hg.symm)) hb); have aH := Qa.mk (hbox); have bB := zS hg; have aI := zS hg; replace HB := zX hb; clear hb hbox hg; obtain ⟨fE, fF, fG, fH, fI, fJ, fK, fM⟩ := zq4 aH.out) | ((with_reducible refine Qb (f := 106) rfl ?_); refine zD (some 58) Try.func106 #[.pointer (some ⟨g0, 0, none⟩), .int .i64 ((Qj aC aA).f0), .int .i64 ((Qj aC aA).f1), .int .i64 ((Qj aC aA).f2), .int .i64 ((Qj aC aA).f3)] ((Ju.calls k2 _ l0 ((Qj aC aA).f0) ((Qj aC aA).f1) ((Qj aC aA).f2) ((Qj aC aA).f3) aT bD _ ?aN ?aQ bS.out).mono ?_); (case aN => exact Kd.C_below bG.out (zG aI.out)); (case aQ => exact bH.out); rintro e jK ⟨rfl, hb⟩; refine ⟨_, rfl, ?_⟩; replace aG := Qa.mk (Kd.R_below (by (with_reducible repeat (first | apply Kd.R_alloc | apply Kd.R_drewN | apply Kd.R_drew)); exact (Kd.R_mono (Kd.R_far (p := ⟨aD, 3, none⟩) (Kd.R_far (p := ⟨aD, 2, none⟩) (Kd.R_far (p := ⟨aD, 1, none⟩) (Kd.R_far (p := ⟨aD, 0, none⟩) (Kd.R_mono aG.out (fun k_ hk => (⟨hk, hk.2⟩ : _ ∧ k_ ≠ aD))) (fun _ hk => hk.2) (.int .i64 ((Qj aC aA).f0))) (fun _ hk => hk.2) (.int .i64 ((Qj aC aA).f1))) (fun _ hk => hk.2) (.int .i64 ((Qj aC aA).f2))) (fun _ hk => hk.2) (.int .i64 ((Qj aC aA).f3))) (fun _ h_ => h_.1))) hb); replace aH := Qa.mk (Zj (g := aD) (o := .cells #[.int .i64 ((Qj aC aA).f0), .int .i64 ((Qj aC aA).f1), .int .i64 ((Qj aC aA).f2), .int .i64 ((Qj aC aA).f3)] 91 (0, 0)) (zk0 aH.out) hb); replace HB := zX1 aI.out hb; (try clear hb)) | ((with_reducible refine Qb (f := 135) rfl ?_); refine zD (some 63) Try.func135 _ ((Zw.calls (IntKind.u64.wrap (aT)) bE _ bT.out).mono ?_); rintro e w' ⟨rfl, ⟨nd, rfl⟩⟩; refine ⟨_, rfl, ?_⟩))
       go_ret
       exact ⟨zE, zG aI.out⟩
      have H' := Qa.mk H; clear H
      have aK : 0 ≤ (aA : Int) := zA
      have aM : aA < (aC.length : Int) := zA
      obtain ⟨bA, aU, aV, aW, aX, aY⟩ := Kq (Kd.R_reads' aG.out).2.2 aA aK aM
      cases aU
      replace aK := eq_true aK
      replace aM := eq_true aM
      go_wp2_with (first | ((with_reducible refine Qf (N := 9) rfl ?_); refine zBx (N := 9) #[.int .i64 0, .int .i64 0, .int .i64 0, .int .i64 0] 91 ?_; intro aD hg jL hbox hb; replace aG := Qa.mk (Kd.R_below (Kd.R_elderB (zR aG.out) aD (Nat.le_of_eq hg.symm)) hb); have aH := Qa.mk (hbox); have bB := zS hg; have aI := zS hg; replace HB := zX hb; clear hb hbox hg; obtain ⟨fO, fP, fQ, fT, fU, fV, fZ, gB⟩ := zq4 aH.out) | ((with_reducible refine Qb (f := 106) rfl ?_); refine zD (some 58) Try.func106 #[.pointer (some ⟨g0, 0, none⟩), .int .i64 ((Qj aC aA).f0), .int .i64 ((Qj aC aA).f1), .int .i64 ((Qj aC aA).f2), .int .i64 ((Qj aC aA).f3)] ((Ju.calls k2 _ l0 ((Qj aC aA).f0) ((Qj aC aA).f1) ((Qj aC aA).f2) ((Qj aC aA).f3) aT bD _ ?aN ?aQ bS.out).mono ?_); (case aN => exact Kd.C_below bG.out (zG aI.out)); (case aQ => exact bH.out); rintro e jM ⟨rfl, hb⟩; refine ⟨_, rfl, ?_⟩; replace aG := Qa.mk (Kd.R_below (by (with_reducible repeat (first | apply Kd.R_alloc | apply Kd.R_drewN | apply Kd.R_drew)); exact (Kd.R_mono (Kd.R_far (p := ⟨aD, 3, none⟩) (Kd.R_far (p := ⟨aD, 2, none⟩) (Kd.R_far (p := ⟨aD, 1, none⟩) (Kd.R_far (p := ⟨aD, 0, none⟩) (Kd.R_mono aG.out (fun k_ hk => (⟨hk, hk.2⟩ : _ ∧ k_ ≠ aD))) (fun _ hk => hk.2) (.int .i64 ((Qj aC aA).f0))) (fun _ hk => hk.2) (.int .i64 ((Qj aC aA).f1))) (fun _ hk => hk.2) (.int .i64 ((Qj aC aA).f2))) (fun _ hk => hk.2) (.int .i64 ((Qj aC aA).f3))) (fun _ h_ => h_.1))) hb); replace aH := Qa.mk (Zj (g := aD) (o := .cells #[.int .i64 ((Qj aC aA).f0), .int .i64 ((Qj aC aA).f1), .int .i64 ((Qj aC aA).f2), .int .i64 ((Qj aC aA).f3)] 91 (0, 0)) (zk0 aH.out) hb); replace HB := zX1 aI.out hb; (try clear hb)) | ((with_reducible refine Qb (f := 135) rfl ?_); refine zD (some 63) Try.func135 _ ((Zw.calls (IntKind.u64.wrap (aT)) bE _ bT.out).mono ?_); rintro e w' ⟨rfl, ⟨nd, rfl⟩⟩; refine ⟨_, rfl, ?_⟩))
      go_roundg k2
      case measure => have := bM.out; have := bP.out; omega
      case rel => exact ⟨(wrap64 (aA + 1)), zF, H', ⟨by have := bM.out; have := bP.out; omega⟩, ⟨zR (Kd.R_mono aG.out (fun _ hk => trivial))⟩, ⟨zG aI.out⟩⟩
     have H' := Qa.mk H; clear H
     have aK : 0 ≤ (aA : Int) := zA
     have aM : aA < (aC.length : Int) := zA
     obtain ⟨bA, aU, aV, aW, aX, aY⟩ := Kq (Kd.R_reads' aG.out).2.2 aA aK aM
     cases aU
     replace aK := eq_true aK
     replace aM := eq_true aM
     go_wp2_with (first | ((with_reducible refine Qf (N := 9) rfl ?_); refine zBx (N := 9) #[.int .i64 0, .int .i64 0, .int .i64 0, .int .i64 0] 91 ?_; intro aD hg jN hbox hb; replace aG := Qa.mk (Kd.R_below (Kd.R_elderB (zR aG.out) aD (Nat.le_of_eq hg.symm)) hb); have aH := Qa.mk (hbox); have bB := zS hg; have aI := zS hg; replace HB := zX hb; clear hb hbox hg; obtain ⟨gD, gF, gG, gH, gJ, gK, gL, gM⟩ := zq4 aH.out) | ((with_reducible refine Qb (f := 106) rfl ?_); refine zD (some 58) Try.func106 #[.pointer (some ⟨g0, 0, none⟩), .int .i64 ((Qj aC aA).f0), .int .i64 ((Qj aC aA).f1), .int .i64 ((Qj aC aA).f2), .int .i64 ((Qj aC aA).f3)] ((Ju.calls k2 _ l0 ((Qj aC aA).f0) ((Qj aC aA).f1) ((Qj aC aA).f2) ((Qj aC aA).f3) aT bD _ ?aN ?aQ bS.out).mono ?_); (case aN => exact Kd.C_below bG.out (zG aI.out)); (case aQ => exact bH.out); rintro e jO ⟨rfl, hb⟩; refine ⟨_, rfl, ?_⟩; replace aG := Qa.mk (Kd.R_below (by (with_reducible repeat (first | apply Kd.R_alloc | apply Kd.R_drewN | apply Kd.R_drew)); exact (Kd.R_mono (Kd.R_far (p := ⟨aD, 3, none⟩) (Kd.R_far (p := ⟨aD, 2, none⟩) (Kd.R_far (p := ⟨aD, 1, none⟩) (Kd.R_far (p := ⟨aD, 0, none⟩) (Kd.R_mono aG.out (fun k_ hk => (⟨hk, hk.2⟩ : _ ∧ k_ ≠ aD))) (fun _ hk => hk.2) (.int .i64 ((Qj aC aA).f0))) (fun _ hk => hk.2) (.int .i64 ((Qj aC aA).f1))) (fun _ hk => hk.2) (.int .i64 ((Qj aC aA).f2))) (fun _ hk => hk.2) (.int .i64 ((Qj aC aA).f3))) (fun _ h_ => h_.1))) hb); replace aH := Qa.mk (Zj (g := aD) (o := .cells #[.int .i64 ((Qj aC aA).f0), .int .i64 ((Qj aC aA).f1), .int .i64 ((Qj aC aA).f2), .int .i64 ((Qj aC aA).f3)] 91 (0, 0)) (zk0 aH.out) hb); replace HB := zX1 aI.out hb; (try clear hb)) | ((with_reducible refine Qb (f := 135) rfl ?_); refine zD (some 63) Try.func135 _ ((Zw.calls (IntKind.u64.wrap (aT)) bE _ bT.out).mono ?_); rintro e w' ⟨rfl, ⟨nd, rfl⟩⟩; refine ⟨_, rfl, ?_⟩))
     go_roundg k2
     case measure => have := bM.out; have := bP.out; omega
     case rel => exact ⟨(wrap64 (aA + 1)), zF, H', ⟨by have := bM.out; have := bP.out; omega⟩, ⟨zR (Kd.R_mono aG.out (fun _ hk => trivial))⟩, ⟨zG aI.out⟩⟩
    have H' := Qa.mk H; clear H
    have aK : 0 ≤ (aA : Int) := zA
    have aM : aA < (aC.length : Int) := zA
    obtain ⟨bA, aU, aV, aW, aX, aY⟩ := Kq (Kd.R_reads' aG.out).2.2 aA aK aM
    cases aU
    replace aK := eq_true aK
    replace aM := eq_true aM
    go_wp2_with (first | ((with_reducible refine Qf (N := 9) rfl ?_); refine zBx (N := 9) #[.int .i64 0, .int .i64 0, .int .i64 0, .int .i64 0] 91 ?_; intro aD hg jP hbox hb; replace aG := Qa.mk (Kd.R_below (Kd.R_elderB (zR aG.out) aD (Nat.le_of_eq hg.symm)) hb); have aH := Qa.mk (hbox); have bB := zS hg; have aI := zS hg; replace HB := zX hb; clear hb hbox hg; obtain ⟨gN, gP, gQ, gT, gU, gV, gW, gX⟩ := zq4 aH.out) | ((with_reducible refine Qb (f := 106) rfl ?_); refine zD (some 58) Try.func106 #[.pointer (some ⟨g0, 0, none⟩), .int .i64 ((Qj aC aA).f0), .int .i64 ((Qj aC aA).f1), .int .i64 ((Qj aC aA).f2), .int .i64 ((Qj aC aA).f3)] ((Ju.calls k2 _ l0 ((Qj aC aA).f0) ((Qj aC aA).f1) ((Qj aC aA).f2) ((Qj aC aA).f3) aT bD _ ?aN ?aQ bS.out).mono ?_); (case aN => exact Kd.C_below bG.out (zG aI.out)); (case aQ => exact bH.out); rintro e jQ ⟨rfl, hb⟩; refine ⟨_, rfl, ?_⟩; replace aG := Qa.mk (Kd.R_below (by (with_reducible repeat (first | apply Kd.R_alloc | apply Kd.R_drewN | apply Kd.R_drew)); exact (Kd.R_mono (Kd.R_far (p := ⟨aD, 3, none⟩) (Kd.R_far (p := ⟨aD, 2, none⟩) (Kd.R_far (p := ⟨aD, 1, none⟩) (Kd.R_far (p := ⟨aD, 0, none⟩) (Kd.R_mono aG.out (fun k_ hk => (⟨hk, hk.2⟩ : _ ∧ k_ ≠ aD))) (fun _ hk => hk.2) (.int .i64 ((Qj aC aA).f0))) (fun _ hk => hk.2) (.int .i64 ((Qj aC aA).f1))) (fun _ hk => hk.2) (.int .i64 ((Qj aC aA).f2))) (fun _ hk => hk.2) (.int .i64 ((Qj aC aA).f3))) (fun _ h_ => h_.1))) hb); replace aH := Qa.mk (Zj (g := aD) (o := .cells #[.int .i64 ((Qj aC aA).f0), .int .i64 ((Qj aC aA).f1), .int .i64 ((Qj aC aA).f2), .int .i64 ((Qj aC aA).f3)] 91 (0, 0)) (zk0 aH.out) hb); replace HB := zX1 aI.out hb; (try clear hb)) | ((with_reducible refine Qb (f := 135) rfl ?_); refine zD (some 63) Try.func135 _ ((Zw.calls (IntKind.u64.wrap (aT)) bE _ bT.out).mono ?_); rintro e w' ⟨rfl, ⟨nd, rfl⟩⟩; refine ⟨_, rfl, ?_⟩))
    go_roundg k2
    case measure => have := bM.out; have := bP.out; omega
    case rel => exact ⟨(wrap64 (aA + 1)), zF, H', ⟨by have := bM.out; have := bP.out; omega⟩, ⟨zR (Kd.R_mono aG.out (fun _ hk => trivial))⟩, ⟨zG aI.out⟩⟩
   exact absurd H (by simp)
  exact absurd H (by simp)
 obtain rfl := Option.some.inj H
 go_wp2
 go_ret
 exact ⟨zE, zB⟩
mutual
def J2.j0 : Nat → Int → List Int → Bool → Int → ByteArray → Option (List Int)
 | 0, _, _, _, _, _ => none
 | k + 1, x1, x5, x25, aA, aC => if x25 = true then (some ([] : List Int)) else (J2.l0 k x1 x5 ([] : List Int) 0 aA aC)
def J2.l0 : Nat → Int → List Int → List Int → Int → Int → ByteArray → Option (List Int)
 | 0, _, _, _, _, _, _ => none
 | k + 1, x1, x5, x7, x8, aA, aC => (X5.f aA).bind fun aD => (if x8 ≤ aD then ((Zw.f (IntKind.u64.wrap (x8))).bind fun aG => (if aG = x1 then (if x5.length = 344 then ((Jc.f k x5 x8).bind fun aH => (if aH = true then (if x7.length < 17592186044416 then (J2.l0 k x1 x5 (x7 ++ [x8]) (wrap64 (x8 + 1)) aA aC) else (none)) else (J2.l0 k x1 x5 x7 (wrap64 (x8 + 1)) aA aC))) else (none)) else (J2.l0 k x1 x5 x7 (wrap64 (x8 + 1)) aA aC))) else (some x7))
end
def J2.f (k : Nat) (aC : Int) (aD : ByteArray) (a1 : Int) : Option (List Int) := (Z6.f k aC aD).bind fun aA => (if aA.2 = true then (if a1 < 0 then (J2.j0 k a1 aA.1 true aC aD) else (J2.j0 k a1 aA.1 (decide (a1 > aC)) aC aD)) else (J2.j0 k a1 aA.1 true aC aD))
set_option maxHeartbeats 8000000 in
set_option maxRecDepth 100000 in
theorem J2.calls (k : Nat) (aH : Int) (aK : ByteArray) (a1 : Int) (r : List Int) (w : World) (h : J2.f k aH aK a1 = some r) :
  Calls Try.prog 69 #[.agg #[.int .i64 aH, .string aK], .int .i64 a1] w fun e w' => ∃ dS : Value, e = .returned (dS) ∧ Kd.R (Kd.int .i64) 3 w' w.heap.size (fun _ => True) dS r ∧ Below w.heap.size w w' := by
 have dZ := Try.underlying25
 have HB := Qa.mk (Below.refl w.heap.size w)
 have H := h
 unfold J2.f at H
 clear h
 obtain ⟨⟨aD, bE⟩, A3, H⟩ := zO H
 dsimp only at H
 have dN := Qa.mk H
 clear H
 go_enter Try.func69, Try.ntmps69
 go_upto_region 2 with (first | ((with_reducible refine Qf (N := 2) rfl ?_); refine zBx (N := 2) #[.int .i64 aH, .string aK] 25 ?_; intro aM hg w5 hbox hb; have aA := Qa.mk (hbox); have dO := zS hg; have aC := zS hg; replace HB := zX hb; clear hb hbox hg; obtain ⟨aV, aW, aX, aY⟩ := zq2 aA.out) | ((with_reducible refine Qb (f := 105) rfl ?_); refine zD (some 11) Try.func105 _ ((Z6.calls k aH aK aD bE _ A3.out).mono ?_); rintro e w7 ⟨bF, rfl, ho0, hb⟩; refine ⟨_, rfl, ?_⟩; have aN := Qa.mk (Kd.R_lower ho0 (Ql (zG aC.out))); replace aA := zV aA.out hb; replace HB := zX1 aC.out hb; (try clear hb); (try clear ho0)))
 (try simp only [Act.put, List.setIfInBounds_toArray, List.set_cons_zero, List.set_cons_succ])
 go_cut [25] (fun v25 wc => ∃ (kq : Nat) (aT : Bool), v25 = .bool aT ∧ Qa (J2.j0 kq a1 aD aT aH aK = some r) ∧ Qa (kq ≤ k) ∧ Qa (Kd.R (Kd.int .i64) 115 wc w.heap.size (fun _ => True) bF aD) ∧ Qa (wc.heap[aM]? = some (.cells #[.int .i64 aH, .string aK] 25 (0, 0))) ∧ Qa (Below w.heap.size w wc))
 case first =>
  have H := dN.out
  clear dN
  by_cases c8 : bE = true
  ·subst c8
   replace H := (if_pos rfl).symm.trans H
   replace H := Z5 H
   rcases H with ⟨aZ, H⟩ | ⟨aZ, H⟩
   ·(first | rw [aZ] | (simp only [Zu, Xo]; rw [aZ]) | skip)
    have H' := Qa.mk H; clear H
    go_wp2
    go_meet
    case rel => exact ⟨_, (true), zF, H', ⟨by first | omega | exact Nat.le_refl _⟩, ⟨zR aN.out⟩, ⟨zK aA.out⟩, ⟨zG aC.out⟩⟩
   (first | rw [aZ] | (simp only [Zu, Xo]; rw [aZ]) | skip)
   have H' := Qa.mk H; clear H
   obtain ⟨bW, bX, bY, bZ⟩ := zq2 aA.out
   go_wp2
   go_meet
   case rel => exact ⟨_, (decide (a1 > aH)), zF, H', ⟨by first | omega | exact Nat.le_refl _⟩, ⟨zR aN.out⟩, ⟨zK aA.out⟩, ⟨zG aC.out⟩⟩
  replace c8 := Bool.eq_false_iff.mpr c8
  subst c8
  replace H := (if_neg zFf).symm.trans H
  have H' := Qa.mk H; clear H
  go_wp2
  go_meet
  case rel => exact ⟨_, (true), zF, H', ⟨by first | omega | exact Nat.le_refl _⟩, ⟨zR aN.out⟩, ⟨zK aA.out⟩, ⟨zG aC.out⟩⟩
 case rest =>
 clear dN
 try clear aV
 try clear aW
 try clear aX
 try clear aY
 obtain ⟨kq, aT, rfl, HA, bI, aG, aA, HB⟩ := hcut
 cases kq with
 | zero => exact absurd HA.out (by simp [J2.j0])
 | succ dU =>
 have H := HA.out
 clear HA
 simp only [J2.j0] at H
 by_cases c11 : aT = true
 ·subst c11
  replace H := (if_pos rfl).symm.trans H
  obtain rfl := Option.some.inj H
  go_wp2
  go_ret
  exact ⟨_, zE, by first | exact Kd.R_nil _ _ _ _ _ | exact Kd.N_nil _ _ _ _ _ | exact Kd.V_nil _ _ _ _ _ | exact Kd.Q_nil _ _ _ _ _ | exact Kd.S_nil _ _ _ _ _, zG aC.out⟩
 replace c11 := Bool.eq_false_iff.mpr c11
 subst c11
 replace H := (if_neg zFf).symm.trans H
 have H' := Qa.mk H; clear H
 go_wp2
 go_loopg [7, 8] dU (fun kq v7 v8 w' => ∃ (aQ : List Int) (aI : Int), v8 = .int .i64 aI ∧ Qa (J2.l0 kq a1 aD aQ aI aH aK = some r) ∧ Qa (kq ≤ dU) ∧ Qa (Kd.R (Kd.int .i64) 115 w' w.heap.size (fun _ => True) bF aD) ∧ Qa (Kd.R (Kd.int .i64) 3 w' w.heap.size (fun _ => True) v7 aQ) ∧ Qa (w'.heap[aM]? = some (.cells #[.int .i64 aH, .string aK] 25 (0, 0))) ∧ Qa (Below w.heap.size w w'))
 case atStart => exact ⟨(([] : List Int)), (0), zF, H', ⟨Nat.le_refl _⟩, ⟨zR aG.out⟩, ⟨by first | exact Kd.R_nil _ _ _ _ _ | exact Kd.N_nil _ _ _ _ _ | exact Kd.V_nil _ _ _ _ _ | exact Kd.Q_nil _ _ _ _ _ | exact Kd.S_nil _ _ _ _ _⟩, ⟨zK aA.out⟩, ⟨zG aC.out⟩⟩
 case round =>
 clear H'
 try clear c11
 try clear aV
 try clear aW
 try clear aX
 try clear aY
 obtain ⟨aQ, aI, rfl, HA, bJ, aG, aJ, aA, HB⟩ := hrel
 cases gk with
 | zero => exact absurd HA.out (by simp [J2.l0])
 | succ k2 =>
 have H := HA.out
 clear HA
 simp only [J2.l0] at H
 obtain ⟨aU, cB, H⟩ := zO H
 replace H := Z5 H
 rcases H with ⟨bK, H⟩ | ⟨bK, H⟩
 ·obtain ⟨bA, dP, H⟩ := zO H
  replace H := Zi H
  rcases H with ⟨bL, bM, H⟩ | ⟨c15, bL, bM, H⟩
  ·replace H := Xw H
   rcases H with ⟨dV, dW, H⟩ | ⟨c16, H⟩
   ·obtain ⟨bN, dX, H⟩ := zO H
    by_cases c18 : bN = true
    ·subst c18
     replace H := (if_pos rfl).symm.trans H
     replace H := Vt H
     rcases H with ⟨c19, H⟩ | ⟨c19, H⟩
     ·have bO := Qa.mk c19
      clear c19
      generalize bB : (aQ ++ [aI] : List Int) = bP at H
      have bG := Qa.mk bB.symm
      clear bB
      have H' := Qa.mk H; clear H
      obtain ⟨cK, cO, cZ, dA⟩ := zq2 aA.out
      go_wp2_with (first | ((with_reducible refine Qb (f := 121) rfl ?_); refine zD (some 29) Try.func121 _ ((X5.calls aH aU _ cB.out).mono ?_); rintro e w' ⟨rfl, ⟨nd, rfl⟩⟩; refine ⟨_, rfl, ?_⟩) | ((with_reducible refine Qb (f := 135) rfl ?_); refine zD (some 35) Try.func135 _ ((Zw.calls (IntKind.u64.wrap (aI)) bA _ dP.out).mono ?_); rintro e w' ⟨rfl, ⟨nd, rfl⟩⟩; refine ⟨_, rfl, ?_⟩; obtain ⟨eB, eD, bQ, bR, dQ, eF, bS⟩ := Kd.R_form aG.out (by have hl_ := Nat.le_of_eq (Eq.symm (zA : aD.length = 344)); omega); (first | cases bQ | (injection bQ with ea_ en_ ec_; (first | subst ea_ | (injection ea_ with ea_; subst ea_)); subst ec_; clear en_)); have eG := Qa.mk bR; have eH := Qa.mk bS; clear bR dQ bS) | (go_at_call 138; (with_reducible refine (Jc.calls k2 _ aD aI true _ ?bC ?bD dX.out).mono ?_); (case bC => exact zc ((Kd.R_reads' aG.out).2.2)); (case bD => exact (zA : aD.length = 344)); rintro e eX ⟨rfl, hb⟩; replace aG := zW aG.out hb; replace aJ := zW aJ.out hb; replace aA := zV aA.out hb; replace HB := zX1 aC.out hb; (try clear hb); (try clear hb2); (try clear hk); (try clear hi)) | ((with_reducible refine Z9 (b := .append) (xs := #[.tmp 43, .tmp 45]) rfl ?_); at_builtin; refine Kd.R_append (Kd.int .i64) (w0 := w) w.heap.size rfl (.tmp 43) (.tmp 45) 27 3 (.int .i64 0) 8 rfl Try.underlying27 info3 rfl (by decide) (by omega) u7 aQ aI [.int .i64 aI] (fun _ => True) (fun _ => False) rfl rfl ?aP (fun _ hk => hk.elim) ?aF ?aO ?aB ?aS ?aL ?_; (case aP => exact rfl); (case aB => exact (zG aC.out)); (case aF => exact (fun _ _ => trivial)); (case aO => exact (zR aJ.out)); (case aS => exact (Ql (zG aC.out))); (case aL => have := bO.out; omega); intro dY eY ho hb hg hat; rw [← bG.out] at ho; replace aG := Qa.mk (Kd.R_over' (zR aG.out) (Kd.R_typed (zR aJ.out)) (by decide) hg); replace aA := Qa.mk (Yh (g := aM) (o := .cells #[.int .i64 aH, .string aK] 25 (0, 0)) (zK aA.out) hg (Kd.R_ne aJ.out aA.out (by decide))); have bH := Qa.mk (ho); replace HB := Qa.mk (hb); clear aJ; clear ho hb hg hat))
      go_roundg k2
      case measure => have := bI.out; have := bJ.out; omega
      case rel => exact ⟨(bP), (wrap64 (aI + 1)), zF, H', ⟨by have := bI.out; have := bJ.out; omega⟩, ⟨zR aG.out⟩, ⟨zR bH.out⟩, ⟨zK aA.out⟩, ⟨zG aC.out⟩⟩
     exact absurd H (by simp)
    replace c18 := Bool.eq_false_iff.mpr c18
    subst c18
    replace H := (if_neg zFf).symm.trans H
    have H' := Qa.mk H; clear H
    obtain ⟨dB, dC, dD, dE⟩ := zq2 aA.out
    go_wp2_with (first | ((with_reducible refine Qb (f := 121) rfl ?_); refine zD (some 29) Try.func121 _ ((X5.calls aH aU _ cB.out).mono ?_); rintro e w' ⟨rfl, ⟨nd, rfl⟩⟩; refine ⟨_, rfl, ?_⟩) | ((with_reducible refine Qb (f := 135) rfl ?_); refine zD (some 35) Try.func135 _ ((Zw.calls (IntKind.u64.wrap (aI)) bA _ dP.out).mono ?_); rintro e w' ⟨rfl, ⟨nd, rfl⟩⟩; refine ⟨_, rfl, ?_⟩; obtain ⟨eO, eP, bT, bU, dR, eQ, bV⟩ := Kd.R_form aG.out (by have hl_ := Nat.le_of_eq (Eq.symm (zA : aD.length = 344)); omega); (first | cases bT | (injection bT with ea_ en_ ec_; (first | subst ea_ | (injection ea_ with ea_; subst ea_)); subst ec_; clear en_)); have eT := Qa.mk bU; have eU := Qa.mk bV; clear bU dR bV) | (go_at_call 138; (with_reducible refine (Jc.calls k2 _ aD aI false _ ?bC ?bD dX.out).mono ?_); (case bC => exact zc ((Kd.R_reads' aG.out).2.2)); (case bD => exact (zA : aD.length = 344)); rintro e eZ ⟨rfl, hb⟩; replace aG := zW aG.out hb; replace aJ := zW aJ.out hb; replace aA := zV aA.out hb; replace HB := zX1 aC.out hb; (try clear hb); (try clear hb2); (try clear hk); (try clear hi)))
    go_roundg k2
    case measure => have := bI.out; have := bJ.out; omega
    case rel => exact ⟨(aQ), (wrap64 (aI + 1)), zF, H', ⟨by have := bI.out; have := bJ.out; omega⟩, ⟨zR aG.out⟩, ⟨zR aJ.out⟩, ⟨zK aA.out⟩, ⟨zG aC.out⟩⟩
   exact absurd H (by simp)
  have H' := Qa.mk H; clear H
  obtain ⟨dF, dG, dH, dI⟩ := zq2 aA.out
  go_wp2_with (first | ((with_reducible refine Qb (f := 121) rfl ?_); refine zD (some 29) Try.func121 _ ((X5.calls aH aU _ cB.out).mono ?_); rintro e w' ⟨rfl, ⟨nd, rfl⟩⟩; refine ⟨_, rfl, ?_⟩) | ((with_reducible refine Qb (f := 135) rfl ?_); refine zD (some 35) Try.func135 _ ((Zw.calls (IntKind.u64.wrap (aI)) bA _ dP.out).mono ?_); rintro e w' ⟨rfl, ⟨nd, rfl⟩⟩; refine ⟨_, rfl, ?_⟩))
  go_roundg k2
  case measure => have := bI.out; have := bJ.out; omega
  case rel => exact ⟨(aQ), (wrap64 (aI + 1)), zF, H', ⟨by have := bI.out; have := bJ.out; omega⟩, ⟨zR aG.out⟩, ⟨zR aJ.out⟩, ⟨zK aA.out⟩, ⟨zG aC.out⟩⟩
 obtain rfl := Option.some.inj H
 obtain ⟨dJ, dK, dL, dM⟩ := zq2 aA.out
 go_wp2_with (first | ((with_reducible refine Qb (f := 121) rfl ?_); refine zD (some 29) Try.func121 _ ((X5.calls aH aU _ cB.out).mono ?_); rintro e w' ⟨rfl, ⟨nd, rfl⟩⟩; refine ⟨_, rfl, ?_⟩))
 go_ret
 exact ⟨_, zE, zR aJ.out, zG aC.out⟩
mutual
def Q5.l0 : Nat → List Int → List (List Int) → Int → Int → ByteArray → Option ((List (List Int)))
 | 0, _, _, _, _, _ => none
 | k + 1, x3, x5, x6, aA, aC => if x6 < aA then (Q5.l1 k x3 x5 x6 (wrap64 (x6 + 1)) aA aC) else (some x5)
def Q5.l1 : Nat → List Int → List (List Int) → Int → Int → Int → ByteArray → Option ((List (List Int)))
 | 0, _, _, _, _, _, _ => none
 | k + 1, x3, x5, x6, x7, aA, aC => if x7 < aA then (if x3.length = 344 then ((Jm.f k x3 x6 x7).bind fun aD => ((Jm.f k x3 x7 x6).bind fun aG => (if (wrap64 (aD - aG)) ≥ (-1) then (if (wrap64 (aD - aG)) ≤ 1 then (if x5.length < 5864062014805 then (Q5.l1 k x3 (x5 ++ [(([x6, x7] : List Int))]) x6 (wrap64 (x7 + 1)) aA aC) else (none)) else (Q5.l1 k x3 x5 x6 (wrap64 (x7 + 1)) aA aC)) else (Q5.l1 k x3 x5 x6 (wrap64 (x7 + 1)) aA aC)))) else (none)) else (Q5.l0 k x3 x5 (wrap64 (x6 + 1)) aA aC)
end
def Q5.f (k : Nat) (aC : Int) (aD : ByteArray) : Option ((List (List Int))) := (Z6.f k aC aD).bind fun aA => (if aA.2 = true then (Q5.l0 k aA.1 ([] : List (List Int)) 0 aC aD) else (some ([] : List (List Int))))
set_option maxHeartbeats 8000000 in
set_option maxRecDepth 100000 in
theorem Q5.calls (k : Nat) (aN : Int) (aQ : ByteArray) (r : List (List Int)) (w : World) (h : Q5.f k aN aQ = some r) :
  Calls Try.prog 70 #[.agg #[.int .i64 aN, .string aQ]] w fun e w' => ∃ fC : Value, e = .returned (fC) ∧ Kd.S (Kd.slice 3 (Kd.int .i64)) 27 w' w.heap.size (fun _ => True) fC r ∧ Below w.heap.size w w' := by
 have fH := Try.underlying25
 have HB := Qa.mk (Below.refl w.heap.size w)
 have H := h
 unfold Q5.f at H
 clear h
 obtain ⟨⟨aD, bT⟩, A2, H⟩ := zO H
 dsimp only at H
 by_cases c3 : bT = true
 ·subst c3
  replace H := (if_pos rfl).symm.trans H
  have H' := Qa.mk H; clear H
  go_enter Try.func70, Try.ntmps70
  go_wp2_with (first | ((with_reducible refine Qf (N := 1) rfl ?_); refine zBx (N := 1) #[.int .i64 aN, .string aQ] 25 ?_; intro aT hg w4 hbox hb; have aA := Qa.mk (hbox); have bM := zS hg; have aC := zS hg; replace HB := zX hb; clear hb hbox hg; obtain ⟨bA, bB, bC, bD⟩ := zq2 aA.out) | ((with_reducible refine Qb (f := 105) rfl ?_); refine zD (some 11) Try.func105 _ ((Z6.calls k aN aQ aD true _ A2.out).mono ?_); rintro e w6 ⟨bE, rfl, ho0, hb⟩; refine ⟨_, rfl, ?_⟩; have bF := Qa.mk (Kd.R_lower ho0 (Ql (zG aC.out))); replace aA := zV aA.out hb; replace HB := zX1 aC.out hb; (try clear hb); (try clear ho0)))
  go_loopg [5, 6] k (fun kq v5 v6 w' => ∃ (bJ : List (List Int)) (aG : Int), v6 = .int .i64 aG ∧ Qa (Q5.l0 kq aD bJ aG aN aQ = some r) ∧ Qa (kq ≤ k) ∧ Qa (Kd.R (Kd.int .i64) 115 w' w.heap.size (fun _ => True) bE aD) ∧ Qa (Kd.S (Kd.slice 3 (Kd.int .i64)) 27 w' w.heap.size (fun _ => True) v5 bJ) ∧ Qa (w'.heap[aT]? = some (.cells #[.int .i64 aN, .string aQ] 25 (0, 0))) ∧ Qa (Below w.heap.size w w'))
  case atStart => exact ⟨(([] : List (List Int))), (0), zF, H', ⟨Nat.le_refl _⟩, ⟨zR bF.out⟩, ⟨by first | exact Kd.S_nil _ _ _ _ _ | exact Kd.N_nil _ _ _ _ _ | exact Kd.V_nil _ _ _ _ _ | exact Kd.Q_nil _ _ _ _ _ | exact Kd.R_nil _ _ _ _ _⟩, ⟨zK aA.out⟩, ⟨zG aC.out⟩⟩
  case round =>
  clear H'
  try clear c3
  try clear bA
  try clear bB
  try clear bC
  try clear bD
  obtain ⟨bJ, aG, rfl, HA, bK, aI, aM, aA, HB⟩ := hrel
  cases gk with
  | zero => exact absurd HA.out (by simp [Q5.l0])
  | succ k1 =>
  have H := HA.out
  clear HA
  simp only [Q5.l0] at H
  replace H := Z5 H
  rcases H with ⟨bU, H⟩ | ⟨bU, H⟩
  ·have H' := Qa.mk H; clear H
   obtain ⟨bN, bO, bP, bQ⟩ := zq2 aA.out
   go_wp2
   go_loopg [5, 7] k1 (fun kq v5 v7 w' => ∃ (aV : List (List Int)) (aH : Int), v7 = .int .i64 aH ∧ Qa (Q5.l1 kq aD aV aG aH aN aQ = some r) ∧ Qa (kq ≤ k1) ∧ Qa (Kd.R (Kd.int .i64) 115 w' w.heap.size (fun _ => True) bE aD) ∧ Qa (Kd.S (Kd.slice 3 (Kd.int .i64)) 27 w' w.heap.size (fun _ => True) v5 aV) ∧ Qa (w'.heap[aT]? = some (.cells #[.int .i64 aN, .string aQ] 25 (0, 0))) ∧ Qa (Below w.heap.size w w'))
   case atStart => exact ⟨(bJ), (wrap64 (aG + 1)), zF, H', ⟨Nat.le_refl _⟩, ⟨zR aI.out⟩, ⟨zT aM.out⟩, ⟨zK aA.out⟩, ⟨zG aC.out⟩⟩
   case round =>
   clear H'
   try clear c3
   try clear c7
   try clear bU
   try clear bA
   try clear bB
   try clear bN
   try clear bO
   try clear bC
   try clear bD
   try clear bP
   try clear bQ
   obtain ⟨aV, aH, rfl, HA, bL, aI, aM, aA, HB⟩ := hrel
   cases gk with
   | zero => exact absurd HA.out (by simp [Q5.l1])
   | succ k2 =>
   have H := HA.out
   clear HA
   simp only [Q5.l1] at H
   replace H := Z5 H
   rcases H with ⟨eT, H⟩ | ⟨eT, H⟩
   ·replace H := Xw H
    rcases H with ⟨fD, fE, H⟩ | ⟨c10, H⟩
    ·obtain ⟨aW, eU, H⟩ := zO H
     obtain ⟨aX, eX, H⟩ := zO H
     replace H := Vt H
     rcases H with ⟨c13, H⟩ | ⟨c13, H⟩
     ·have bV : decide ((-1) ≤ (wrap64 (aW - aX))) = true := decide_eq_true c13
      clear c13
      replace H := Z5 H
      rcases H with ⟨bW, H⟩ | ⟨bW, H⟩
      ·generalize bG : (([aG, aH] : List Int) : List Int) = aY at H
       have bH := Qa.mk bG.symm
       clear bG
       replace H := Vt H
       rcases H with ⟨c15, H⟩ | ⟨c15, H⟩
       ·have bX := Qa.mk c15
        clear c15
        generalize bI : (aV ++ [aY] : List (List Int)) = bY at H
        have bR := Qa.mk bI.symm
        clear bI
        have H' := Qa.mk H; clear H
        obtain ⟨dJ, dK, dL, dM⟩ := zq2 aA.out
        obtain ⟨bZ, fI, cB, cK, eY, fJ, cO⟩ := Kd.R_form aI.out (by have hl_ := Nat.le_of_eq (Eq.symm (zA : aD.length = 344)); omega)
        (first | cases cB | (injection cB with ea_ en_ ec_; (first | subst ea_ | (injection ea_ with ea_; subst ea_)); subst ec_; clear en_))
        have fK := Qa.mk cK
        have fM := Qa.mk cO
        clear cK eY cO
        go_wp2_with (first | ((with_reducible refine Qb (f := 137) rfl ?_); refine zD (some 33) Try.func137 #[.pointer (some ⟨bZ, 0, none⟩), .int .i64 aG, .int .i64 aH] ((Jm.calls k2 _ aD aG aH aW _ ?aJ ?aK eU.out).mono ?_); (case aJ => exact zc ((Kd.R_reads' aI.out).2.2)); (case aK => exact (zA : aD.length = 344)); rintro e w' ⟨rfl, ⟨nd, rfl⟩⟩; refine ⟨_, rfl, ?_⟩) | ((with_reducible refine Qb (f := 137) rfl ?_); refine zD (some 37) Try.func137 #[.pointer (some ⟨bZ, 0, none⟩), .int .i64 aH, .int .i64 aG] ((Jm.calls k2 _ aD aH aG aX _ ?aJ ?aK eX.out).mono ?_); (case aJ => exact zc ((Kd.R_reads' aI.out).2.2)); (case aK => exact (zA : aD.length = 344)); rintro e w' ⟨rfl, ⟨nd, rfl⟩⟩; refine ⟨_, rfl, ?_⟩) | ((with_reducible refine Qf (N := 48) rfl ?_); refine Kd.R_lit (Kd.int .i64) _ 3 ?hg (N := 48) ?hd (xs := ([aG, aH] : List Int)) (inner := [.int .i64 aG, .int .i64 aH]) (ok := fun _ => True) (okp := fun _ => True) ?hr ?hp (fun _ hk => hk) trivial (Below.refl _ _) (Nat.le_refl _) (by simp) ?_; (case hd => rfl); (case hg => rfl); (case hr => first | (go_simp; done) | (go_simp; rfl)); (case hp => exact (Xb.one (show Kd.M (Kd.int .i64) _ _ _ aG [.int .i64 aG] from rfl) (Xb.one (show Kd.M (Kd.int .i64) _ _ _ aH [.int .i64 aH] from rfl) (Xb.none _ _)))); intro fF gD aZ hb hg_ hnew_; clear hg_ hnew_; (first | rw [← bH.out] at aZ | (simp only [Int.reduceToNat] at aZ; rw [← bH.out] at aZ)); replace aI := zW aI.out hb; replace aM := Qa.mk (Kd.S_elder' (zT aM.out) (Kd.R_base aZ) hb); have aU := Qa.mk (Kd.R_lower aZ (Ql (zG aC.out))); replace aA := zV aA.out hb; replace HB := zX1 aC.out hb; clear hb aZ; obtain ⟨cZ, dA, eZ⟩ := Kd.R_slice aU.out; subst eZ) | ((with_reducible refine Z9 (b := .append) (xs := #[.tmp 45, .tmp 49]) rfl ?_); at_builtin; refine Kd.S_append (Kd.slice 3 (Kd.int .i64)) (w0 := w) w.heap.size rfl (.tmp 45) (.tmp 49) 44 27 (.slice none 0 0) 24 rfl Try.underlying44 jFo rfl (by decide) (by omega) u5 aV aY [.slice cZ aY.length dA] (fun _ => True) (fun k_ => some k_ = (.slice cZ aY.length dA : Value).ownBlock) rfl rfl ?aP (fun k_ hk_ => ((Kd.R_mono (ok' := fun k_ => ((fun _ => True)) k_ ∧ some k_ ≠ (u5 : Value).ownBlock) (Kd.R_apart' (aU.out) (Kd.S_typed aM.out) (by decide)) (fun k_ hk => ⟨trivial, hk.2⟩))).1 k_ hk_.symm) ?aF ?aO ?aB ?aS ?aL ?_; (case aP => exact Kd.M_row (Kd.R_mono (Kd.R_tight rfl (Kd.R_mono (ok' := fun k_ => ((fun _ => True)) k_ ∧ some k_ ≠ (u5 : Value).ownBlock) (Kd.R_apart' (aU.out) (Kd.S_typed aM.out) (by decide)) (fun k_ hk => ⟨trivial, hk.2⟩))) (fun _ h_ => h_))); (case aB => exact (zG aC.out)); (case aF => exact (fun _ _ => trivial)); (case aO => exact (by (with_reducible repeat (first | apply Kd.S_alloc | apply Kd.S_drewN | apply Kd.S_drew)); exact Kd.S_mono aM.out (fun k_ hk => ⟨trivial, fun e_ => hk.2 e_⟩))); (case aS => exact (Ql (zG aC.out))); (case aL => have := bX.out; omega); intro fG gF ho hb hg hat; rw [← bR.out] at ho; replace aI := Qa.mk (Kd.R_over' (zR aI.out) (Kd.S_typed (zT aM.out)) (by decide) hg); replace aA := Qa.mk (Yh (g := aT) (o := .cells #[.int .i64 aN, .string aQ] 25 (0, 0)) (zK aA.out) hg (Kd.S_ne aM.out aA.out (by decide))); have bS := Qa.mk (ho); replace HB := Qa.mk (hb); clear aM aU; clear ho hb hg hat))
        go_roundg k2
        case measure => have := bK.out; have := bL.out; omega
        case rel => exact ⟨(bY), (wrap64 (aH + 1)), zF, H', ⟨by have := bK.out; have := bL.out; omega⟩, ⟨zR aI.out⟩, ⟨zT bS.out⟩, ⟨zK aA.out⟩, ⟨zG aC.out⟩⟩
       exact absurd H (by simp)
      have H' := Qa.mk H; clear H
      obtain ⟨dN, dO, dP, dQ⟩ := zq2 aA.out
      obtain ⟨dB, fO, dC, dD, fA, fP, dE⟩ := Kd.R_form aI.out (by have hl_ := Nat.le_of_eq (Eq.symm (zA : aD.length = 344)); omega)
      (first | cases dC | (injection dC with ea_ en_ ec_; (first | subst ea_ | (injection ea_ with ea_; subst ea_)); subst ec_; clear en_))
      have fQ := Qa.mk dD
      have fT := Qa.mk dE
      clear dD fA dE
      go_wp2_with (first | ((with_reducible refine Qb (f := 137) rfl ?_); refine zD (some 33) Try.func137 #[.pointer (some ⟨dB, 0, none⟩), .int .i64 aG, .int .i64 aH] ((Jm.calls k2 _ aD aG aH aW _ ?aJ ?aK eU.out).mono ?_); (case aJ => exact zc ((Kd.R_reads' aI.out).2.2)); (case aK => exact (zA : aD.length = 344)); rintro e w' ⟨rfl, ⟨nd, rfl⟩⟩; refine ⟨_, rfl, ?_⟩) | ((with_reducible refine Qb (f := 137) rfl ?_); refine zD (some 37) Try.func137 #[.pointer (some ⟨dB, 0, none⟩), .int .i64 aH, .int .i64 aG] ((Jm.calls k2 _ aD aH aG aX _ ?aJ ?aK eX.out).mono ?_); (case aJ => exact zc ((Kd.R_reads' aI.out).2.2)); (case aK => exact (zA : aD.length = 344)); rintro e w' ⟨rfl, ⟨nd, rfl⟩⟩; refine ⟨_, rfl, ?_⟩))
      go_roundg k2
      case measure => have := bK.out; have := bL.out; omega
      case rel => exact ⟨(aV), (wrap64 (aH + 1)), zF, H', ⟨by have := bK.out; have := bL.out; omega⟩, ⟨zR aI.out⟩, ⟨zT aM.out⟩, ⟨zK aA.out⟩, ⟨zG aC.out⟩⟩
     have bV : decide ((-1) ≤ (wrap64 (aW - aX))) = false := decide_eq_false c13
     clear c13
     have H' := Qa.mk H; clear H
     obtain ⟨dR, dS, dU, dV⟩ := zq2 aA.out
     obtain ⟨dF, fU, dG, dH, fB, fV, dI⟩ := Kd.R_form aI.out (by have hl_ := Nat.le_of_eq (Eq.symm (zA : aD.length = 344)); omega)
     (first | cases dG | (injection dG with ea_ en_ ec_; (first | subst ea_ | (injection ea_ with ea_; subst ea_)); subst ec_; clear en_))
     have fZ := Qa.mk dH
     have gB := Qa.mk dI
     clear dH fB dI
     go_wp2_with (first | ((with_reducible refine Qb (f := 137) rfl ?_); refine zD (some 33) Try.func137 #[.pointer (some ⟨dF, 0, none⟩), .int .i64 aG, .int .i64 aH] ((Jm.calls k2 _ aD aG aH aW _ ?aJ ?aK eU.out).mono ?_); (case aJ => exact zc ((Kd.R_reads' aI.out).2.2)); (case aK => exact (zA : aD.length = 344)); rintro e w' ⟨rfl, ⟨nd, rfl⟩⟩; refine ⟨_, rfl, ?_⟩) | ((with_reducible refine Qb (f := 137) rfl ?_); refine zD (some 37) Try.func137 #[.pointer (some ⟨dF, 0, none⟩), .int .i64 aH, .int .i64 aG] ((Jm.calls k2 _ aD aH aG aX _ ?aJ ?aK eX.out).mono ?_); (case aJ => exact zc ((Kd.R_reads' aI.out).2.2)); (case aK => exact (zA : aD.length = 344)); rintro e w' ⟨rfl, ⟨nd, rfl⟩⟩; refine ⟨_, rfl, ?_⟩))
     go_roundg k2
     case measure => have := bK.out; have := bL.out; omega
     case rel => exact ⟨(aV), (wrap64 (aH + 1)), zF, H', ⟨by have := bK.out; have := bL.out; omega⟩, ⟨zR aI.out⟩, ⟨zT aM.out⟩, ⟨zK aA.out⟩, ⟨zG aC.out⟩⟩
    exact absurd H (by simp)
   have H' := Qa.mk H; clear H
   obtain ⟨dW, dX, dY, dZ⟩ := zq2 aA.out
   go_wp2
   go_roundg k2
   case measure => have := bK.out; have := bL.out; omega
   case rel => exact ⟨(aV), (wrap64 (aG + 1)), zF, H', ⟨by have := bK.out; have := bL.out; omega⟩, ⟨zR aI.out⟩, ⟨zT aM.out⟩, ⟨zK aA.out⟩, ⟨zG aC.out⟩⟩
  obtain rfl := Option.some.inj H
  obtain ⟨eB, eD, eF, eG⟩ := zq2 aA.out
  go_wp2
  go_ret
  exact ⟨_, zE, zT aM.out, zG aC.out⟩
 replace c3 := Bool.eq_false_iff.mpr c3
 subst c3
 replace H := (if_neg zFf).symm.trans H
 obtain rfl := Option.some.inj H
 go_enter Try.func70, Try.ntmps70
 go_wp2_with (first | ((with_reducible refine Qf (N := 1) rfl ?_); refine zBx (N := 1) #[.int .i64 aN, .string aQ] 25 ?_; intro aT hg gG hbox hb; have aA := Qa.mk (hbox); have bM := zS hg; have aC := zS hg; replace HB := zX hb; clear hb hbox hg; obtain ⟨eH, eO, eP, eQ⟩ := zq2 aA.out) | ((with_reducible refine Qb (f := 105) rfl ?_); refine zD (some 11) Try.func105 _ ((Z6.calls k aN aQ aD false _ A2.out).mono ?_); rintro e gH ⟨bE, rfl, ho0, hb⟩; refine ⟨_, rfl, ?_⟩; have bF := Qa.mk (Kd.R_lower ho0 (Ql (zG aC.out))); replace aA := zV aA.out hb; replace HB := zX1 aC.out hb; (try clear hb); (try clear ho0)))
 go_ret
 exact ⟨_, zE, by first | exact Kd.S_nil _ _ _ _ _ | exact Kd.N_nil _ _ _ _ _ | exact Kd.V_nil _ _ _ _ _ | exact Kd.Q_nil _ _ _ _ _ | exact Kd.R_nil _ _ _ _ _, zG aC.out⟩
mutual
def Jw.l0 : Nat → List Int → Int → Int → ByteArray → Option (List Int)
 | 0, _, _, _, _ => none
 | k + 1, x3, x4, aA, aC => if x4 < aA then (Jw.l1 k x3 x4 0 aA aC) else (some x3)
def Jw.l1 : Nat → List Int → Int → Int → Int → ByteArray → Option (List Int)
 | 0, _, _, _, _, _ => none
 | k + 1, x3, x4, x5, aA, aC => if x5 < aA then (if x4 = x5 then (Jw.l1 k x3 x4 (wrap64 (x5 + 1)) aA aC) else ((Jy.f k aA aC x4 x5).bind fun aD => (if 0 ≤ aD then (if aD < (x3.length : Int) then (Jw.l1 k (x3.set (aD : Int).toNat (wrap64 ((rd x3 aD) + 1))) x4 (wrap64 (x5 + 1)) aA aC) else (none)) else (none)))) else (Jw.l0 k x3 (wrap64 (x4 + 1)) aA aC)
end
def Jw.f (k : Nat) (aA : Int) (aC : ByteArray) : Option (List Int) := (Jb.f k aA aC).bind fun aD => (if aD = true then (if 0 ≤ (wrap64 (aA - 1)) then (if (wrap64 (aA - 1) : Int).toNat ≤ 35184372088832 then (Jw.l0 k (List.replicate (wrap64 (aA - 1) : Int).toNat 0) 0 aA aC) else (none)) else (none)) else (some (([] : List Int))))
set_option maxHeartbeats 8000000 in
set_option maxRecDepth 100000 in
theorem Jw.calls (k : Nat) (aH : Int) (aI : ByteArray) (r : List Int) (w : World) (h : Jw.f k aH aI = some r) :
  Calls Try.prog 71 #[.agg #[.int .i64 aH, .string aI]] w fun e w' => ∃ fE : Value, e = .returned (fE) ∧ Kd.R (Kd.int .i64) 3 w' w.heap.size (fun _ => True) fE r ∧ Below w.heap.size w w' := by
 have fP := Try.underlying25
 have HB := Qa.mk (Below.refl w.heap.size w)
 have H := h
 unfold Jw.f at H
 clear h
 obtain ⟨cK, A2, H⟩ := zO H
 by_cases c3 : cK = true
 ·subst c3
  replace H := (if_pos rfl).symm.trans H
  obtain ⟨dK, aW⟩ : ∃ j_ : Int, (wrap64 (aH - 1)) = j_ := ⟨_, rfl⟩
  first | rw [aW] at H | simp only [aW] at H
  (try rw [aW] at A2)
  have fF : (IntKind.i64.wrap (aH - 1)) = dK := (Zu _).trans aW
  replace H := Xw H
  rcases H with ⟨cO, cZ, H⟩ | ⟨c5, H⟩
  ·replace H := Xw H
   rcases H with ⟨dA, dB, H⟩ | ⟨c6, H⟩
   ·generalize aX : (List.replicate (dK : Int).toNat 0 : List Int) = dC at H
    have aY := Qa.mk aX.symm
    clear aX
    have H' := Qa.mk H; clear H
    go_enter Try.func71, Try.ntmps71
    go_wp2_with (first | ((with_reducible refine Qf (N := 1) rfl ?_); refine zBx (N := 1) #[.int .i64 aH, .string aI] 25 ?_; intro aK hg w7 hbox hb; have aA := Qa.mk (hbox); have bT := zS hg; have aC := zS hg; replace HB := zX hb; clear hb hbox hg; obtain ⟨aZ, bA, bB, bC⟩ := zq2 aA.out) | ((with_reducible refine Qb (f := 24) rfl ?_); refine zD (some 8) Try.func24 _ ((Jb.calls k aH aI true _ A2.out).mono ?_); rintro e w9 ⟨rfl, hb⟩; refine ⟨_, rfl, ?_⟩; replace aA := zV aA.out hb; replace HB := zX1 aC.out hb; (try clear hb); obtain ⟨aM, aN, aQ, aT⟩ := zq2 aA.out) | ((with_reducible refine Qf (N := 14) rfl ?_); refine Kd.R_make (Kd.int .i64) _ 3 rfl (N := 14) rfl 27 _ _ rfl dK rfl rfl Try.underlying27 (.int .i64 0) 8 info3 rfl (by decide) (by omega) 0 (ok := fun _ => True) (okp := fun _ => True) rfl (fun _ hk => hk) trivial (zA) (Nat.le_trans (Nat.mul_le_mul_right _ (zA : dK.toNat ≤ 35184372088832)) (by omega)) (Below.refl _ _) (Nat.le_refl _) ?_; intro bQ gB bD hb hg_ hnew_; clear hg_ hnew_; (first | rw [← aY.out] at bD | (simp only [Int.reduceToNat] at bD; rw [← aY.out] at bD)); have bU := Qa.mk (Kd.R_lower bD (Ql (zG aC.out))); replace aA := zV aA.out hb; replace HB := zX1 aC.out hb; clear hb bD))
    go_loopg [4] k (fun kq v4 w' => ∃ (bL : List Int) (aU : Int), v4 = .int .i64 aU ∧ Qa (Jw.l0 kq bL aU aH aI = some r) ∧ Qa (kq ≤ k) ∧ Qa (Kd.R (Kd.int .i64) 3 w' w.heap.size (fun _ => True) bQ bL) ∧ Qa (w'.heap[aK]? = some (.cells #[.int .i64 aH, .string aI] 25 (0, 0))) ∧ Qa (Below w.heap.size w w'))
    case atStart => exact ⟨(dC), (0), zF, H', ⟨Nat.le_refl _⟩, ⟨zR bU.out⟩, ⟨zK aA.out⟩, ⟨zG aC.out⟩⟩
    case round =>
    clear H'
    try clear c3
    try clear c5
    try clear cO
    try clear cZ
    try clear c6
    try clear dA
    try clear dB
    try clear aM
    try clear aN
    try clear aZ
    try clear bA
    try clear aQ
    try clear aT
    try clear bB
    try clear bC
    obtain ⟨bL, aU, rfl, HA, bZ, aG, aA, HB⟩ := hrel
    cases gk with
    | zero => exact absurd HA.out (by simp [Jw.l0])
    | succ k1 =>
    have H := HA.out
    clear HA
    simp only [Jw.l0] at H
    replace H := Z5 H
    rcases H with ⟨bR, H⟩ | ⟨bR, H⟩
    ·have H' := Qa.mk H; clear H
     obtain ⟨bM, bN, bO, bP⟩ := zq2 aA.out
     go_wp2
     go_loopg [5] k1 (fun kq v5 w' => ∃ (aJ : List Int) (aV : Int), v5 = .int .i64 aV ∧ Qa (Jw.l1 kq aJ aU aV aH aI = some r) ∧ Qa (kq ≤ k1) ∧ Qa (Kd.R (Kd.int .i64) 3 w' w.heap.size (fun _ => True) bQ aJ) ∧ Qa (w'.heap[aK]? = some (.cells #[.int .i64 aH, .string aI] 25 (0, 0))) ∧ Qa (Below w.heap.size w w'))
     case atStart => exact ⟨(bL), (0), zF, H', ⟨Nat.le_refl _⟩, ⟨zR aG.out⟩, ⟨zK aA.out⟩, ⟨zG aC.out⟩⟩
     case round =>
     clear H'
     try clear c3
     try clear c5
     try clear cO
     try clear cZ
     try clear c6
     try clear dA
     try clear dB
     try clear c13
     try clear bR
     try clear aM
     try clear aN
     try clear bM
     try clear bN
     try clear aZ
     try clear bA
     try clear aQ
     try clear aT
     try clear bO
     try clear bP
     try clear bB
     try clear bC
     obtain ⟨aJ, aV, rfl, HA, cB, aG, aA, HB⟩ := hrel
     cases gk with
     | zero => exact absurd HA.out (by simp [Jw.l1])
     | succ k2 =>
     have H := HA.out
     clear HA
     simp only [Jw.l1] at H
     replace H := Z5 H
     rcases H with ⟨dD, H⟩ | ⟨dD, H⟩
     ·replace H := Zi H
      rcases H with ⟨dE, dF, H⟩ | ⟨c16, dE, dF, H⟩
      ·have H' := Qa.mk H; clear H
       obtain ⟨dL, dM, dN, dO⟩ := zq2 aA.out
       go_wp2
       go_roundg k2
       case measure => have := bZ.out; have := cB.out; omega
       case rel => exact ⟨(aJ), (wrap64 (aV + 1)), zF, H', ⟨by have := bZ.out; have := cB.out; omega⟩, ⟨zR aG.out⟩, ⟨zK aA.out⟩, ⟨zG aC.out⟩⟩
      obtain ⟨aD, fQ, H⟩ := zO H
      replace H := Zq H
      rcases H with ⟨fG, H⟩ | ⟨c19, H⟩
      ·replace H := Zq H
       rcases H with ⟨fH, H⟩ | ⟨c20, H⟩
       ·generalize bE : (aJ.set (aD : Int).toNat (wrap64 ((rd aJ aD) + 1)) : List Int) = bS at H
        have bV := Qa.mk bE.symm
        clear bE
        have H' := Qa.mk H; clear H
        obtain ⟨dP, dQ, dR, dS⟩ := zq2 aA.out
        go_wp2_with (first | ((with_reducible refine Qb (f := 136) rfl ?_); refine zD (some 33) Try.func136 _ ((Jy.calls k2 aH aI aU aV aD _ fQ.out).mono ?_); rintro e fI ⟨rfl, hb⟩; refine ⟨_, rfl, ?_⟩; replace aG := zW aG.out hb; replace aA := zV aA.out hb; replace HB := zX1 aC.out hb; (try clear hb); obtain ⟨fT, eP, eQ⟩ := Kd.R_slice aG.out; subst eQ; have bF : 0 ≤ (aD : Int) := zA; have bG : aD < (aJ.length : Int) := zA; obtain ⟨eT, dG, bH⟩ := Kd.at_int (Kd.R_reads' aG.out).2.2 aD bF bG; cases dG; replace bF := eq_true bF; replace bG := eq_true bG; have eU : 0 ≤ (aD : Int) := zA; have eX : (aD : Int) < ((aJ.length : Int) : Int) := zA; obtain ⟨bW, fU, dH, dI, eY, fV, dJ⟩ := Kd.R_form aG.out (by omega); (first | cases dH | (injection dH with ea_ en_ ec_; (first | subst ea_ | (injection ea_ with ea_; subst ea_)); subst ec_; clear en_)); have eZ := Qa.mk dI; have fZ := Qa.mk dJ; clear dI eY dJ; (first | simp only [add_plain] at bH | skip); obtain ⟨fA, fB⟩ := Kd.R_celln 0 aG.out (aD : Int) eU eX; replace eU := eq_true eU; replace eX := eq_true eX; obtain ⟨fJ, fK⟩ := Kd.R_celln 0 aG.out (aD : Int) (zA) (zA); have bX := Kd.R_putg aG.out (aD : Int) (wrap64 ((rd aJ aD) + 1))) | ((with_reducible refine Kt (t := 3) (p := 41) rfl ?_); refine Ke (t := 3) (p := 41) (v := ?fC) (w1 := (fI.setCell ⟨bW, (aD : Int).toNat, none⟩ (.int .i64 (wrap64 ((rd aJ aD) + 1))))) ?hg ?ho ?hn ?hr ?_; (case ho => rfl); (case hg => rfl); (case hn => rfl); (case hr => first | (go_simp; done) | (go_simp; rfl)); intro fD hw; have hg : fI.grownBy fD (some bW) := (by rw [hw]; exact bX.2); have hp_ : Kd.R (Kd.int .i64) 3 fD w.heap.size (fun _ => True) (.slice (some ⟨bW, 0, none⟩) aJ.length eP) bS := (by rw [hw, bV.out]; exact bX.1); clear bX; replace aA := Qa.mk (Yh (g := aK) (o := .cells #[.int .i64 aH, .string aI] 25 (0, 0)) (zK aA.out) hg (Kd.R_ne aG.out aA.out (by decide))); replace aG := Qa.mk (hp_); replace HB := Qa.mk ((by rw [hw]; exact Jt (HB.out) eZ.out : Below w.heap.size w fD)); clear hg hw hp_))
        go_roundg k2
        case measure => have := bZ.out; have := cB.out; omega
        case rel => exact ⟨(bS), (wrap64 (aV + 1)), zF, H', ⟨by have := bZ.out; have := cB.out; omega⟩, ⟨zR aG.out⟩, ⟨zK aA.out⟩, ⟨zG aC.out⟩⟩
       exact absurd H (by simp)
      exact absurd H (by simp)
     have H' := Qa.mk H; clear H
     obtain ⟨dU, dV, dW, dX⟩ := zq2 aA.out
     go_wp2
     go_roundg k2
     case measure => have := bZ.out; have := cB.out; omega
     case rel => exact ⟨(aJ), (wrap64 (aU + 1)), zF, H', ⟨by have := bZ.out; have := cB.out; omega⟩, ⟨zR aG.out⟩, ⟨zK aA.out⟩, ⟨zG aC.out⟩⟩
    obtain rfl := Option.some.inj H
    obtain ⟨dY, dZ, eB, eD⟩ := zq2 aA.out
    go_wp2
    go_ret
    exact ⟨_, by first | rfl | (simp [Za, J7] <;> rfl) | (simp only [← aW]; first | rfl | (simp [Za, J7] <;> rfl)) | (simp [*, Za, J7] <;> rfl), zR aG.out, zG aC.out⟩
   exact absurd H (by simp)
  exact absurd H (by simp)
 replace c3 := Bool.eq_false_iff.mpr c3
 subst c3
 replace H := (if_neg zFf).symm.trans H
 generalize bI : (([] : List Int) : List Int) = fM at H
 have bJ := Qa.mk bI.symm
 clear bI
 obtain rfl := Option.some.inj H
 go_enter Try.func71, Try.ntmps71
 go_wp2_with (first | ((with_reducible refine Qf (N := 1) rfl ?_); refine zBx (N := 1) #[.int .i64 aH, .string aI] 25 ?_; intro aK hg gD hbox hb; have aA := Qa.mk (hbox); have bT := zS hg; have aC := zS hg; replace HB := zX hb; clear hb hbox hg; obtain ⟨eF, eG, eH, eO⟩ := zq2 aA.out) | ((with_reducible refine Qb (f := 24) rfl ?_); refine zD (some 8) Try.func24 _ ((Jb.calls k aH aI false _ A2.out).mono ?_); rintro e gF ⟨rfl, hb⟩; refine ⟨_, rfl, ?_⟩; replace aA := zV aA.out hb; replace HB := zX1 aC.out hb; (try clear hb)) | ((with_reducible refine Qf (N := 10) rfl ?_); refine Kd.R_lit (Kd.int .i64) _ 3 ?hg (N := 10) ?hd (xs := ([] : List Int)) (inner := []) (ok := fun _ => True) (okp := fun _ => True) ?hr ?hp (fun _ hk => hk) trivial (Below.refl _ _) (Nat.le_refl _) (by simp) ?_; (case hd => rfl); (case hg => rfl); (case hr => first | (go_simp; done) | (go_simp; rfl)); (case hp => exact (Xb.none _ _)); intro fO w32 bK hb hg_ hnew_; clear hg_ hnew_; (first | rw [← bJ.out] at bK | (simp only [Int.reduceToNat] at bK; rw [← bJ.out] at bK)); have bY := Qa.mk (Kd.R_lower bK (Ql (zG aC.out))); replace aA := zV aA.out hb; replace HB := zX1 aC.out hb; clear hb bK))
 go_ret
 exact ⟨_, zE, zR bY.out, zG aC.out⟩
def Yb.f (a0 : Int) (a1 : Int) : Option (Bool) := if a1 ≥ 0 then (some (decide (a1 < a0))) else (some false)
set_option maxHeartbeats 8000000 in
set_option maxRecDepth 100000 in
theorem Yb.calls (a0 : Int) (a1 : Int) (r : Bool) (w : World) (h : Yb.f a0 a1 = some r) :
  Calls Try.prog 86 #[.int .i64 a0, .int .i64 a1] w fun e w' => e = .returned (.bool r) ∧ Qs w w' := by
 have H := h
 unfold Yb.f at H
 clear h
 replace H := Vt H
 rcases H with ⟨c3, H⟩ | ⟨c3, H⟩
 ·have aA : decide (0 ≤ a1) = true := decide_eq_true c3
  clear c3
  obtain rfl := Option.some.inj H
  go_enter Try.func86, Try.ntmps86
  go_wp2
  go_ret
  exact ⟨by first | rfl | (simp; done) | (simp [*]; done), by repeat (first | exact Qs.refl _ | apply Qs.step)⟩
 have aA : decide (0 ≤ a1) = false := decide_eq_false c3
 clear c3
 obtain rfl := Option.some.inj H
 go_enter Try.func86, Try.ntmps86
 go_wp2
 go_ret
 exact ⟨by first | rfl | (simp; done) | (simp [*]; done), by repeat (first | exact Qs.refl _ | apply Qs.step)⟩
def Qw.l0 : Nat → List Int → Int → Int → Int → Option (Int)
 | 0, _, _, _, _ => none
 | k + 1, x0, x1, x7, x8 => if x8 < x7 then (if 0 ≤ x8 then (if x8 < (x0.length : Int) then (if x1 = (rd x0 x8) then (some x8) else (Qw.l0 k x0 x1 x7 (wrap64 (x8 + 1)))) else (none)) else (none)) else (some (-1))
def Qw.f (k : Nat) (l0 : List Int) (a1 : Int) : Option (Int) := Qw.l0 k l0 a1 (l0.length : Int) 0
theorem Qw.mono_l : ∀ k, (∀ y0 y1 y2 y3, LeO (Qw.l0 k y0 y1 y2 y3) (Qw.l0 (k + 1) y0 y1 y2 y3))
 | 0 => fun _ _ _ _ r h => by simp [Qw.l0] at h
 | k + 1 => by
  have aA := Qw.mono_l k
  ·intro y0 y1 y2 y3
   unfold Qw.l0
   repeat' first
   | (with_reducible first | exact aA .. | exact LeO.refl _ | exact LeO.none _ | refine LeO.ite ?_ ?_ | refine LeO.bind ?_ (fun _ => ?_))
   | exact aA .. | exact LeO.none _ | refine LeO.ite ?_ ?_ | refine LeO.bind ?_ (fun _ => ?_)
theorem Qw.mono : ∀ a0 a1 k, LeO (Qw.f k a0 a1) (Qw.f (k + 1) a0 a1) := by
 intro a0 a1 k
 have aA := Qw.mono_l k
 unfold Qw.f
 repeat' first
   | (with_reducible first | exact aA .. | exact LeO.refl _ | exact LeO.none _ | refine LeO.ite ?_ ?_ | refine LeO.bind ?_ (fun _ => ?_))
   | exact aA .. | exact LeO.none _ | refine LeO.ite ?_ ?_ | refine LeO.bind ?_ (fun _ => ?_)
set_option maxHeartbeats 8000000 in
set_option maxRecDepth 100000 in
theorem Qw.calls (k : Nat) (A0 : Option Addr) (c0 : Nat) (l0 : List Int) (a1 : Int) (r : Int) (w : World) (hr0 : Kd.C (Kd.int .i64) w A0 l0.length l0) (hc0 : l0.length ≤ c0) (h : Qw.f k l0 a1 = some r) :
  Calls Try.prog 157 #[.slice A0 l0.length c0, .int .i64 a1] w fun e w' => e = .returned (.int .i64 r) ∧ Qs w w' := by
 have aN := Qa.mk hr0
 have aV := Qa.mk hc0
 clear hr0 hc0
 have H := h
 unfold Qw.f at H
 clear h
 have H' := Qa.mk H; clear H
 go_enter Try.func157, Try.ntmps157
 go_wp2
 go_loopg [8] k (fun kq v8 w' => ∃ (aA : Int), v8 = .int .i64 aA ∧ Qa (Qw.l0 kq l0 a1 (l0.length : Int) aA = some r) ∧ Qa (kq ≤ k) ∧ Qs w w')
 case atStart => exact ⟨(0), zF, H', ⟨Nat.le_refl _⟩, by repeat (first | exact Qs.refl _ | apply Qs.step)⟩
 case round =>
 clear H'
 obtain ⟨aA, rfl, HA, aQ, ⟨m1, rfl⟩⟩ := hrel
 cases gk with
 | zero => exact absurd HA.out (by simp [Qw.l0])
 | succ k1 =>
 have H := HA.out
 clear HA
 simp only [Qw.l0] at H
 replace H := Z5 H
 rcases H with ⟨aJ, H⟩ | ⟨aJ, H⟩
 ·replace H := Zq H
  rcases H with ⟨aT, H⟩ | ⟨c4, H⟩
  ·replace H := Zq H
   rcases H with ⟨aU, H⟩ | ⟨c5, H⟩
   ·replace H := Zi H
    rcases H with ⟨aK, aM, H⟩ | ⟨c6, aK, aM, H⟩
    ·obtain rfl := Option.some.inj H
     have aC : 0 ≤ (aA : Int) := zA
     have aD : aA < (l0.length : Int) := zA
     obtain ⟨aI, aH, aG⟩ := Kd.at_int aN.out aA aC aD
     cases aH
     replace aC := eq_true aC
     replace aD := eq_true aD
     go_wp2
     go_ret
     exact ⟨by first | rfl | (simp; done) | (simp [*]; done), by repeat (first | exact Qs.refl _ | apply Qs.step)⟩
    have H' := Qa.mk H; clear H
    have aC : 0 ≤ (aA : Int) := zA
    have aD : aA < (l0.length : Int) := zA
    obtain ⟨aI, aH, aG⟩ := Kd.at_int aN.out aA aC aD
    cases aH
    replace aC := eq_true aC
    replace aD := eq_true aD
    go_wp2
    go_roundg k1
    case measure => have := aQ.out; omega
    case rel => exact ⟨(wrap64 (aA + 1)), zF, H', ⟨by have := aQ.out; omega⟩, by repeat (first | exact Qs.refl _ | apply Qs.step)⟩
   exact absurd H (by simp)
  exact absurd H (by simp)
 obtain rfl := Option.some.inj H
 go_wp2
 go_ret
 exact ⟨by first | rfl | (simp; done) | (simp [*]; done), by repeat (first | exact Qs.refl _ | apply Qs.step)⟩
def Zf.f (k : Nat) (l0 : List Int) (a1 : Int) : Option (Bool) := (Qw.f k l0 a1).bind fun aA => (some (decide (aA ≥ 0)))
theorem Zf.mono : ∀ a0 a1 k, LeO (Zf.f k a0 a1) (Zf.f (k + 1) a0 a1) := by
 intro a0 a1 k
 unfold Zf.f
 repeat' first
   | (with_reducible exact Qw.mono _ _ _)
   | (with_reducible exact LeO.refl _)
   | (with_reducible exact LeO.none _)
   | (with_reducible refine LeO.ite ?_ ?_)
   | (with_reducible refine LeO.bind ?_ (fun _ => ?_))
   | exact Qw.mono _ _ _
   | exact LeO.none _
   | refine LeO.ite ?_ ?_
   | refine LeO.bind ?_ (fun _ => ?_)
set_option maxHeartbeats 8000000 in
set_option maxRecDepth 100000 in
theorem Zf.calls (k : Nat) (A0 : Option Addr) (c0 : Nat) (l0 : List Int) (a1 : Int) (r : Bool) (w : World) (hr0 : Kd.C (Kd.int .i64) w A0 l0.length l0) (hc0 : l0.length ≤ c0) (h : Zf.f k l0 a1 = some r) :
  Calls Try.prog 146 #[.slice A0 l0.length c0, .int .i64 a1] w fun e w' => e = .returned (.bool r) ∧ Qs w w' := by
 have aG := Qa.mk hr0
 have aH := Qa.mk hc0
 clear hr0 hc0
 have H := h
 unfold Zf.f at H
 clear h
 obtain ⟨aD, A3, H⟩ := zO H
 obtain rfl := Option.some.inj H
 go_enter Try.func146, Try.ntmps146
 go_wp2_with (first | ((with_reducible refine Qb (f := 157) rfl ?_); refine zD (some 7) Try.func157 #[.slice A0 l0.length c0, .int .i64 a1] ((Qw.calls k _ _ l0 a1 aD _ ?aA ?aC A3.out).mono ?_); (case aA => exact zc aG.out); (case aC => exact aH.out); rintro e w' ⟨rfl, ⟨nd, rfl⟩⟩; refine ⟨_, rfl, ?_⟩))
 go_ret
 exact ⟨by first | rfl | (simp; done) | (simp [*]; done), by repeat (first | exact Qs.refl _ | apply Qs.step)⟩
def Zh.l0 : Nat → Int → List Int → List Int → Int → Int → Option (Bool)
 | 0, _, _, _, _, _ => none
 | k + 1, x0, x1, x7, x8, x9 => if x9 < x8 then (if 0 ≤ x9 then (if x9 < (x7.length : Int) then ((Yb.f x0 (rd x7 x9)).bind fun aA => (if aA = true then (if x9 ≤ (x1.length : Int) then ((Zf.f k (x1.take (x9 : Int).toNat) (rd x7 x9)).bind fun aC => (if aC = true then (some false) else (Zh.l0 k x0 x1 x7 x8 (wrap64 (x9 + 1))))) else (none)) else (some false))) else (none)) else (none)) else (some true)
def Zh.f (k : Nat) (a0 : Int) (l1 : List Int) : Option (Bool) := Zh.l0 k a0 l1 l1 (l1.length : Int) 0
set_option maxHeartbeats 8000000 in
set_option maxRecDepth 100000 in
theorem Zh.calls (k : Nat) (a0 : Int) (A1 : Option Addr) (c1 : Nat) (l1 : List Int) (r : Bool) (w : World) (hr1 : Kd.C (Kd.int .i64) w A1 l1.length l1) (hc1 : l1.length ≤ c1) (h : Zh.f k a0 l1 = some r) :
  Calls Try.prog 95 #[.int .i64 a0, .slice A1 l1.length c1] w fun e w' => e = .returned (.bool r) ∧ Qs w w' := by
 have HR1 := Qa.mk hr1
 have bF := Qa.mk hc1
 clear hr1 hc1
 have H := h
 unfold Zh.f at H
 clear h
 have H' := Qa.mk H; clear H
 go_enter Try.func95, Try.ntmps95
 go_wp2
 go_loopg [9] k (fun kq v9 w' => ∃ (aA : Int), v9 = .int .i64 aA ∧ Qa (Zh.l0 kq a0 l1 l1 (l1.length : Int) aA = some r) ∧ Qa (kq ≤ k) ∧ Qs w w')
 case atStart => exact ⟨(0), zF, H', ⟨Nat.le_refl _⟩, by repeat (first | exact Qs.refl _ | apply Qs.step)⟩
 case round =>
 clear H'
 obtain ⟨aA, rfl, HA, bG, ⟨m1, rfl⟩⟩ := hrel
 cases gk with
 | zero => exact absurd HA.out (by simp [Zh.l0])
 | succ k1 =>
 have H := HA.out
 clear HA
 simp only [Zh.l0] at H
 replace H := Z5 H
 rcases H with ⟨bA, H⟩ | ⟨bA, H⟩
 ·replace H := Zq H
  rcases H with ⟨bI, H⟩ | ⟨c4, H⟩
  ·replace H := Zq H
   rcases H with ⟨bJ, H⟩ | ⟨c5, H⟩
   ·obtain ⟨bB, A6, H⟩ := zO H
    by_cases c7 : bB = true
    ·subst c7
     replace H := (if_pos rfl).symm.trans H
     have bK := eq_true (zA : 0 ≤ aA)
     replace H := Xw H
     rcases H with ⟨bL, bM, H⟩ | ⟨c9, H⟩
     ·obtain ⟨bC, bH, H⟩ := zO H
      by_cases c11 : bC = true
      ·subst c11
       replace H := (if_pos rfl).symm.trans H
       obtain rfl := Option.some.inj H
       have aC : 0 ≤ (aA : Int) := zA
       have aD : aA < (l1.length : Int) := zA
       obtain ⟨aG, aI, aH⟩ := Kd.at_int HR1.out aA aC aD
       cases aI
       replace aC := eq_true aC
       replace aD := eq_true aD
       go_wp2_with (first | ((with_reducible refine Qb (f := 86) rfl ?_); refine zD (some 16) Try.func86 _ ((Yb.calls a0 (rd l1 aA) true _ A6.out).mono ?_); rintro e w' ⟨rfl, ⟨nd, rfl⟩⟩; refine ⟨_, rfl, ?_⟩; obtain ⟨bN, aQ, _, aT, _⟩ := info_parts info3; obtain ⟨bD, aW, aX⟩ := jAu (P := Try.prog) (Value.int .i64) 0 27 3 .i64 Try.underlying27 aQ aT (some aG) c1 l1 aA (zA) (zA) bF.out; have aJ := Qa.mk (Kd.C_of_reads (h1 := fun _ => rfl) (aW _ (Kd.reads_of_C HR1.out))); have aK := Qa.mk aX; clear aW aX aQ aT) | (go_at_call 146; have hq_ : (aA : Int) < (l1.length : Int) := zA; refine jAp (args' := #[.slice _ (l1.take (aA : Int).toNat).length _, .int .i64 (rd l1 aA)]) (by rw [List.length_take, Nat.min_eq_left (by omega)]) ?_; clear hq_; (with_reducible refine (Zf.calls k1 _ _ (l1.take (aA : Int).toNat) (rd l1 aA) true _ ?aM ?aN bH.out).mono ?_); (case aM => exact zc aJ.out); (case aN => exact aK.out); rintro e w' ⟨rfl, ⟨nd, rfl⟩⟩))
       go_ret
       exact ⟨by first | rfl | (simp; done) | (simp [*]; done), by repeat (first | exact Qs.refl _ | apply Qs.step)⟩
      replace c11 := Bool.eq_false_iff.mpr c11
      subst c11
      replace H := (if_neg zFf).symm.trans H
      have H' := Qa.mk H; clear H
      have aC : 0 ≤ (aA : Int) := zA
      have aD : aA < (l1.length : Int) := zA
      obtain ⟨aG, aI, aH⟩ := Kd.at_int HR1.out aA aC aD
      cases aI
      replace aC := eq_true aC
      replace aD := eq_true aD
      go_wp2_with (first | ((with_reducible refine Qb (f := 86) rfl ?_); refine zD (some 16) Try.func86 _ ((Yb.calls a0 (rd l1 aA) true _ A6.out).mono ?_); rintro e w' ⟨rfl, ⟨nd, rfl⟩⟩; refine ⟨_, rfl, ?_⟩; obtain ⟨bO, aU, _, aV, _⟩ := info_parts info3; obtain ⟨bE, aY, aZ⟩ := jAu (P := Try.prog) (Value.int .i64) 0 27 3 .i64 Try.underlying27 aU aV (some aG) c1 l1 aA (zA) (zA) bF.out; have aJ := Qa.mk (Kd.C_of_reads (h1 := fun _ => rfl) (aY _ (Kd.reads_of_C HR1.out))); have aK := Qa.mk aZ; clear aY aZ aU aV) | (go_at_call 146; have hq_ : (aA : Int) < (l1.length : Int) := zA; refine jAp (args' := #[.slice _ (l1.take (aA : Int).toNat).length _, .int .i64 (rd l1 aA)]) (by rw [List.length_take, Nat.min_eq_left (by omega)]) ?_; clear hq_; (with_reducible refine (Zf.calls k1 _ _ (l1.take (aA : Int).toNat) (rd l1 aA) false _ ?aM ?aN bH.out).mono ?_); (case aM => exact zc aJ.out); (case aN => exact aK.out); rintro e w' ⟨rfl, ⟨nd, rfl⟩⟩))
      go_roundg k1
      case measure => have := bG.out; omega
      case rel => exact ⟨(wrap64 (aA + 1)), zF, H', ⟨by have := bG.out; omega⟩, by repeat (first | exact Qs.refl _ | apply Qs.step)⟩
     exact absurd H (by simp)
    replace c7 := Bool.eq_false_iff.mpr c7
    subst c7
    replace H := (if_neg zFf).symm.trans H
    obtain rfl := Option.some.inj H
    have aC : 0 ≤ (aA : Int) := zA
    have aD : aA < (l1.length : Int) := zA
    obtain ⟨aG, aI, aH⟩ := Kd.at_int HR1.out aA aC aD
    cases aI
    replace aC := eq_true aC
    replace aD := eq_true aD
    go_wp2_with (first | ((with_reducible refine Qb (f := 86) rfl ?_); refine zD (some 16) Try.func86 _ ((Yb.calls a0 (rd l1 aA) false _ A6.out).mono ?_); rintro e w' ⟨rfl, ⟨nd, rfl⟩⟩; refine ⟨_, rfl, ?_⟩))
    go_ret
    exact ⟨by first | rfl | (simp; done) | (simp [*]; done), by repeat (first | exact Qs.refl _ | apply Qs.step)⟩
   exact absurd H (by simp)
  exact absurd H (by simp)
 obtain rfl := Option.some.inj H
 go_wp2
 go_ret
 exact ⟨by first | rfl | (simp; done) | (simp [*]; done), by repeat (first | exact Qs.refl _ | apply Qs.step)⟩
def Xe.f (k : Nat) (aC : Int) (aH : ByteArray) (a1 : Int) (a2 : Int) : Option (Int) := (Z6.f k aC aH).bind fun aA => (if aA.2 = true then ((Zh.f k aC (([a1, a2] : List Int))).bind fun aD => (if aD = true then (if aA.1.length = 344 then ((Jm.f k aA.1 a1 a2).bind fun aG => (some aG)) else (none)) else (some (-1)))) else (some (-1)))
set_option maxHeartbeats 8000000 in
set_option maxRecDepth 100000 in
theorem Xe.calls (k : Nat) (aH : Int) (aK : ByteArray) (a1 : Int) (a2 : Int) (r : Int) (w : World) (h : Xe.f k aH aK a1 a2 = some r) :
  Calls Try.prog 72 #[.agg #[.int .i64 aH, .string aK], .int .i64 a1, .int .i64 a2] w fun e w' => e = .returned (.int .i64 r) ∧ Below w.heap.size w w' := by
 have dA := Try.underlying25
 have HB := Qa.mk (Below.refl w.heap.size w)
 have H := h
 unfold Xe.f at H
 clear h
 obtain ⟨⟨aI, aZ⟩, A4, H⟩ := zO H
 dsimp only at H
 by_cases c5 : aZ = true
 ·subst c5
  replace H := (if_pos rfl).symm.trans H
  generalize aQ : (([a1, a2] : List Int) : List Int) = aX at H
  have aJ := Qa.mk aQ.symm
  clear aQ
  obtain ⟨bA, A6, H⟩ := zO H
  by_cases c7 : bA = true
  ·subst c7
   replace H := (if_pos rfl).symm.trans H
   replace H := Xw H
   rcases H with ⟨dB, dC, H⟩ | ⟨c8, H⟩
   ·obtain ⟨bB, A9, H⟩ := zO H
    obtain rfl := Option.some.inj H
    go_enter Try.func72, Try.ntmps72
    go_wp2_with (first | ((with_reducible refine Qf (N := 3) rfl ?_); (try (refine Xa (by rfl) ?_; dsimp only)); refine zBx (N := 3) #[.int .i64 aH, .string aK] 25 ?_; intro aT hg dL hbox hb; have aA := Qa.mk (hbox); have aU := zS hg; have aC := zS hg; replace HB := zX hb; clear hb hbox hg; obtain ⟨bG, bH, bI, bJ⟩ := zq2 aA.out) | ((with_reducible refine Qb (f := 105) rfl ?_); refine zD (some 11) Try.func105 _ ((Z6.calls k aH aK aI true _ A4.out).mono ?_); rintro e dM ⟨aY, rfl, ho0, hb⟩; refine ⟨_, rfl, ?_⟩; have aD := Qa.mk (Kd.R_lower ho0 (Ql (zG aC.out))); replace aA := zV aA.out hb; replace HB := zX1 aC.out hb; (try clear hb); (try clear ho0); obtain ⟨bK, bL, bM, bN⟩ := zq2 aA.out) | ((with_reducible refine Qf (N := 21) rfl ?_); (try (refine Xa (by rfl) ?_; dsimp only)); refine Kd.R_lit (Kd.int .i64) _ 3 ?hg (N := 21) ?hd (xs := ([a1, a2] : List Int)) (inner := [.int .i64 a1, .int .i64 a2]) (ok := fun _ => True) (okp := fun _ => True) ?hr ?hp (fun _ hk => hk) trivial (Below.refl _ _) (Nat.le_refl _) (by simp) ?_; (case hd => rfl); (case hg => rfl); (case hr => first | (go_simp; done) | (go_simp; rfl)); (case hp => exact (Xb.one (show Kd.M (Kd.int .i64) _ _ _ a1 [.int .i64 a1] from rfl) (Xb.one (show Kd.M (Kd.int .i64) _ _ _ a2 [.int .i64 a2] from rfl) (Xb.none _ _)))); intro bC dN aV hb hg_ hnew_; clear hg_ hnew_; (first | rw [← aJ.out] at aV | (simp only [Int.reduceToNat] at aV; rw [← aJ.out] at aV)); replace aD := zW aD.out hb; have aG := Qa.mk (Kd.R_lower aV (Ql (zG aC.out))); replace aA := zV aA.out hb; replace HB := zX1 aC.out hb; clear hb aV; obtain ⟨dD, dE, cB⟩ := Kd.R_slice aG.out; subst cB) | (go_at_call 95; (with_reducible refine (Zh.calls k aH _ _ aX true _ ?aM ?aN A6.out).mono ?_); (case aM => exact zc ((Kd.R_reads' aG.out).2.2)); (case aN => exact (Kd.R_reads' aG.out).2.1); rintro e w' ⟨rfl, ⟨nd, rfl⟩⟩; obtain ⟨cK, dF, bD, bE, cO, dG, bF⟩ := Kd.R_form aD.out (by have hl_ := Nat.le_of_eq (Eq.symm (zA : aI.length = 344)); omega); (first | cases bD | (injection bD with ea_ en_ ec_; (first | subst ea_ | (injection ea_ with ea_; subst ea_)); subst ec_; clear en_)); have dH := Qa.mk bE; have dI := Qa.mk bF; clear bE cO bF) | ((with_reducible refine Qb (f := 137) rfl ?_); refine zD (some 28) Try.func137 #[.pointer (some ⟨cK, 0, none⟩), .int .i64 a1, .int .i64 a2] ((Jm.calls k _ aI a1 a2 bB _ ?aM ?aN A9.out).mono ?_); (case aM => exact zc ((Kd.R_reads' aD.out).2.2)); (case aN => exact (zA : aI.length = 344)); rintro e w' ⟨rfl, ⟨nd, rfl⟩⟩; refine ⟨_, rfl, ?_⟩))
    go_ret
    exact ⟨zE, zG aC.out⟩
   exact absurd H (by simp)
  replace c7 := Bool.eq_false_iff.mpr c7
  subst c7
  replace H := (if_neg zFf).symm.trans H
  obtain rfl := Option.some.inj H
  go_enter Try.func72, Try.ntmps72
  go_wp2_with (first | ((with_reducible refine Qf (N := 3) rfl ?_); (try (refine Xa (by rfl) ?_; dsimp only)); refine zBx (N := 3) #[.int .i64 aH, .string aK] 25 ?_; intro aT hg dO hbox hb; have aA := Qa.mk (hbox); have aU := zS hg; have aC := zS hg; replace HB := zX hb; clear hb hbox hg; obtain ⟨bO, bP, bQ, bR⟩ := zq2 aA.out) | ((with_reducible refine Qb (f := 105) rfl ?_); refine zD (some 11) Try.func105 _ ((Z6.calls k aH aK aI true _ A4.out).mono ?_); rintro e dP ⟨aY, rfl, ho0, hb⟩; refine ⟨_, rfl, ?_⟩; have aD := Qa.mk (Kd.R_lower ho0 (Ql (zG aC.out))); replace aA := zV aA.out hb; replace HB := zX1 aC.out hb; (try clear hb); (try clear ho0); obtain ⟨bS, bT, bU, bV⟩ := zq2 aA.out) | ((with_reducible refine Qf (N := 21) rfl ?_); (try (refine Xa (by rfl) ?_; dsimp only)); refine Kd.R_lit (Kd.int .i64) _ 3 ?hg (N := 21) ?hd (xs := ([a1, a2] : List Int)) (inner := [.int .i64 a1, .int .i64 a2]) (ok := fun _ => True) (okp := fun _ => True) ?hr ?hp (fun _ hk => hk) trivial (Below.refl _ _) (Nat.le_refl _) (by simp) ?_; (case hd => rfl); (case hg => rfl); (case hr => first | (go_simp; done) | (go_simp; rfl)); (case hp => exact (Xb.one (show Kd.M (Kd.int .i64) _ _ _ a1 [.int .i64 a1] from rfl) (Xb.one (show Kd.M (Kd.int .i64) _ _ _ a2 [.int .i64 a2] from rfl) (Xb.none _ _)))); intro bC dQ aW hb hg_ hnew_; clear hg_ hnew_; (first | rw [← aJ.out] at aW | (simp only [Int.reduceToNat] at aW; rw [← aJ.out] at aW)); replace aD := zW aD.out hb; have aG := Qa.mk (Kd.R_lower aW (Ql (zG aC.out))); replace aA := zV aA.out hb; replace HB := zX1 aC.out hb; clear hb aW; obtain ⟨dJ, dK, cZ⟩ := Kd.R_slice aG.out; subst cZ) | (go_at_call 95; (with_reducible refine (Zh.calls k aH _ _ aX false _ ?aM ?aN A6.out).mono ?_); (case aM => exact zc ((Kd.R_reads' aG.out).2.2)); (case aN => exact (Kd.R_reads' aG.out).2.1); rintro e w' ⟨rfl, ⟨nd, rfl⟩⟩))
  go_ret
  exact ⟨zE, zG aC.out⟩
 replace c5 := Bool.eq_false_iff.mpr c5
 subst c5
 replace H := (if_neg zFf).symm.trans H
 obtain rfl := Option.some.inj H
 go_enter Try.func72, Try.ntmps72
 go_wp2_with (first | ((with_reducible refine Qf (N := 3) rfl ?_); (try (refine Xa (by rfl) ?_; dsimp only)); refine zBx (N := 3) #[.int .i64 aH, .string aK] 25 ?_; intro aT hg dR hbox hb; have aA := Qa.mk (hbox); have aU := zS hg; have aC := zS hg; replace HB := zX hb; clear hb hbox hg; obtain ⟨bW, bX, bY, bZ⟩ := zq2 aA.out) | ((with_reducible refine Qb (f := 105) rfl ?_); refine zD (some 11) Try.func105 _ ((Z6.calls k aH aK aI false _ A4.out).mono ?_); rintro e dS ⟨aY, rfl, ho0, hb⟩; refine ⟨_, rfl, ?_⟩; have aD := Qa.mk (Kd.R_lower ho0 (Ql (zG aC.out))); replace aA := zV aA.out hb; replace HB := zX1 aC.out hb; (try clear hb); (try clear ho0)))
 go_ret
 exact ⟨zE, zG aC.out⟩
mutual
def Q7.l0 : Nat → List (List Int) → Int → Int → ByteArray → Option ((List (List Int)))
 | 0, _, _, _, _ => none
 | k + 1, x3, x4, aA, aC => if x4 < aA then ((Jb.f k aA aC).bind fun aD => (Q7.j1 k x3 x4 aD aA aC)) else (Q7.j1 k x3 x4 false aA aC)
def Q7.j1 : Nat → List (List Int) → Int → Bool → Int → ByteArray → Option ((List (List Int)))
 | 0, _, _, _, _, _ => none
 | k + 1, x3, x4, aD, aA, aC => if aD = true then (Q7.l1 k x3 x4 (([] : List Int)) 0 aA aC) else (some x3)
def Q7.l1 : Nat → List (List Int) → Int → List Int → Int → Int → ByteArray → Option ((List (List Int)))
 | 0, _, _, _, _, _, _ => none
 | k + 1, x3, x4, x5, x6, aA, aC => if x6 < aA then (if x4 = x6 then (if x5.length < 17592186044416 then (Q7.l1 k x3 x4 (x5 ++ [0]) (wrap64 (x6 + 1)) aA aC) else (none)) else ((Jy.f k aA aC x4 x6).bind fun aD => (if x5.length < 17592186044416 then (Q7.l1 k x3 x4 (x5 ++ [aD]) (wrap64 (x6 + 1)) aA aC) else (none)))) else (if x3.length < 5864062014805 then (Q7.l0 k (x3 ++ [x5]) (wrap64 (x4 + 1)) aA aC) else (none))
end
def Q7.f (k : Nat) (aA : Int) (aC : ByteArray) : Option ((List (List Int))) := Q7.l0 k (([] : List (List Int))) 0 aA aC
set_option maxHeartbeats 8000000 in
set_option maxRecDepth 100000 in
theorem Q7.calls (k : Nat) (aG : Int) (aH : ByteArray) (r : List (List Int)) (w : World) (h : Q7.f k aG aH = some r) :
  Calls Try.prog 73 #[.agg #[.int .i64 aG, .string aH]] w fun e w' => ∃ dY : Value, e = .returned (dY) ∧ Kd.S (Kd.slice 3 (Kd.int .i64)) 27 w' w.heap.size (fun _ => True) dY r ∧ Below w.heap.size w w' := by
 have eO := Try.underlying25
 have HB := Qa.mk (Below.refl w.heap.size w)
 have H := h
 unfold Q7.f at H
 clear h
 generalize aW : (([] : List (List Int)) : List (List Int)) = bQ at H
 have aX := Qa.mk aW.symm
 clear aW
 have H' := Qa.mk H; clear H
 go_enter Try.func73, Try.ntmps73
 go_wp2_with (first | ((with_reducible refine Qf (N := 1) rfl ?_); refine zBx (N := 1) #[.int .i64 aG, .string aH] 25 ?_; intro aI hg w2 hbox hb; have aA := Qa.mk (hbox); have dQ := zS hg; have aC := zS hg; replace HB := zX hb; clear hb hbox hg) | ((with_reducible refine Qf (N := 8) rfl ?_); refine Kd.S_lit (Kd.slice 3 (Kd.int .i64)) _ 27 ?hg (N := 8) ?hd (xs := ([] : List (List Int))) (inner := []) (ok := fun _ => True) (okp := fun _ => True) ?hr ?hp (fun _ hk => hk) trivial (Below.refl _ _) (Nat.le_refl _) (by simp) ?_; (case hd => rfl); (case hg => rfl); (case hr => first | (go_simp; done) | (go_simp; rfl)); (case hp => exact (Xb.none _ _)); intro dZ w3 bR hb hg_ hnew_; clear hg_ hnew_; (first | rw [← aX.out] at bR | (simp only [Int.reduceToNat] at bR; rw [← aX.out] at bR)); have bG := Qa.mk (Kd.S_lower bR (Ql (zG aC.out))); replace aA := zV aA.out hb; replace HB := zX1 aC.out hb; clear hb bR))
 go_loopg [3, 4] k (fun kq v3 v4 w' => ∃ (aM : List (List Int)) (aN : Int), v4 = .int .i64 aN ∧ Qa (Q7.l0 kq aM aN aG aH = some r) ∧ Qa (kq ≤ k) ∧ Qa (Kd.S (Kd.slice 3 (Kd.int .i64)) 27 w' w.heap.size (fun _ => True) v3 aM) ∧ Qa (w'.heap[aI]? = some (.cells #[.int .i64 aG, .string aH] 25 (0, 0))) ∧ Qa (Below w.heap.size w w'))
 case atStart => exact ⟨(bQ), (0), zF, H', ⟨Nat.le_refl _⟩, ⟨zT bG.out⟩, ⟨zK aA.out⟩, ⟨zG aC.out⟩⟩
 case round =>
 clear H'
 obtain ⟨aM, aN, rfl, HA, bE, aD, aA, HB⟩ := hrel
 cases gk with
 | zero => exact absurd HA.out (by simp [Q7.l0])
 | succ k1 =>
 have H := HA.out
 clear HA
 simp only [Q7.l0] at H
 have dR := Qa.mk H
 clear H
 go_upto_region 3 with (fail)
 go_cut [16] (fun v16 wc => ∃ (kq : Nat) (aQ : Bool), v16 = .bool aQ ∧ Qa (Q7.j1 kq aM aN aQ aG aH = some r) ∧ Qa (kq ≤ k1) ∧ Qa (Kd.S (Kd.slice 3 (Kd.int .i64)) 27 wc w.heap.size (fun _ => True) u3 aM) ∧ Qa (wc.heap[aI]? = some (.cells #[.int .i64 aG, .string aH] 25 (0, 0))) ∧ Qa (Below w.heap.size w wc))
 case first =>
  have H := dR.out
  clear dR
  replace H := Z5 H
  rcases H with ⟨aY, H⟩ | ⟨aY, H⟩
  ·(first | rw [aY] | (simp only [Zu, Xo]; rw [aY]) | skip)
   obtain ⟨bF, A7, H⟩ := zO H
   have H' := Qa.mk H; clear H
   obtain ⟨dS, dU, dV, dW⟩ := zq2 aA.out
   go_wp2_with (first | (go_at_call 24; (with_reducible refine (Jb.calls k1 aG aH bF _ A7.out).mono ?_); rintro e w9 ⟨rfl, hb⟩; replace aD := Qa.mk (Kd.S_below (zT aD.out) hb); replace aA := zV aA.out hb; replace HB := zX1 aC.out hb; (try clear hb); (try clear hb2); (try clear hk); (try clear hi)))
   go_meet
   case rel => exact ⟨_, (bF), zF, H', ⟨by have := bE.out; first | omega | exact Nat.le_refl _⟩, ⟨zT aD.out⟩, ⟨zK aA.out⟩, ⟨zG aC.out⟩⟩
  (first | rw [aY] | (simp only [Zu, Xo]; rw [aY]) | skip)
  have H' := Qa.mk H; clear H
  obtain ⟨dA, dB, dC, dD⟩ := zq2 aA.out
  go_wp2
  go_meet
  case rel => exact ⟨_, (false), zF, H', ⟨by have := bE.out; first | omega | exact Nat.le_refl _⟩, ⟨zT aD.out⟩, ⟨zK aA.out⟩, ⟨zG aC.out⟩⟩
 case rest =>
 clear dR
 obtain ⟨kq, aQ, rfl, HA, bO, aD, aA, HB⟩ := hcut
 cases kq with
 | zero => exact absurd HA.out (by simp [Q7.j1])
 | succ eB =>
 have H := HA.out
 clear HA
 simp only [Q7.j1] at H
 by_cases c11 : aQ = true
 ·subst c11
  replace H := (if_pos rfl).symm.trans H
  generalize aZ : (([] : List Int) : List Int) = bS at H
  have bA := Qa.mk aZ.symm
  clear aZ
  have H' := Qa.mk H; clear H
  go_wp2_with (first | ((with_reducible refine Qf (N := 19) rfl ?_); refine Kd.R_lit (Kd.int .i64) _ 3 ?hg (N := 19) ?hd (xs := ([] : List Int)) (inner := []) (ok := fun _ => True) (okp := fun _ => True) ?hr ?hp (fun _ hk => hk) trivial (Below.refl _ _) (Nat.le_refl _) (by simp) ?_; (case hd => rfl); (case hg => rfl); (case hr => first | (go_simp; done) | (go_simp; rfl)); (case hp => exact (Xb.none _ _)); intro eD eQ aU hb hg_ hnew_; clear hg_ hnew_; (first | rw [← bA.out] at aU | (simp only [Int.reduceToNat] at aU; rw [← bA.out] at aU)); replace aD := Qa.mk (Kd.S_elder' (zT aD.out) (Kd.R_base aU) hb); have bH := Qa.mk (Kd.R_lower aU (Ql (zG aC.out))); replace aA := zV aA.out hb; replace HB := zX1 aC.out hb; clear hb aU))
  go_loopg [5, 6] eB (fun kq v5 v6 w' => ∃ (aK : List Int) (aV : Int), v6 = .int .i64 aV ∧ Qa (Q7.l1 kq aM aN aK aV aG aH = some r) ∧ Qa (kq ≤ eB) ∧ Qa (Kd.S (Kd.slice 3 (Kd.int .i64)) 27 w' w.heap.size (fun k_ => some k_ ≠ (v5 : Value).ownBlock) u3 aM) ∧ Qa (Kd.R (Kd.int .i64) 3 w' w.heap.size (fun _ => True) v5 aK) ∧ Qa (w'.heap[aI]? = some (.cells #[.int .i64 aG, .string aH] 25 (0, 0))) ∧ Qa (Below w.heap.size w w'))
  case atStart => exact ⟨(bS), (0), zF, H', ⟨Nat.le_refl _⟩, ⟨zT (Kd.S_mono aD.out (fun _ hk => hk.2))⟩, ⟨zR bH.out⟩, ⟨zK aA.out⟩, ⟨zG aC.out⟩⟩
  case round =>
  clear H'
  try clear c11
  obtain ⟨aK, aV, rfl, HA, bP, aD, aJ, aA, HB⟩ := hrel
  cases gk with
  | zero => exact absurd HA.out (by simp [Q7.l1])
  | succ k3 =>
  have H := HA.out
  clear HA
  simp only [Q7.l1] at H
  replace H := Z5 H
  rcases H with ⟨bT, H⟩ | ⟨bT, H⟩
  ·replace H := Zi H
   rcases H with ⟨bU, bV, H⟩ | ⟨c15, bU, bV, H⟩
   ·replace H := Vt H
    rcases H with ⟨c16, H⟩ | ⟨c16, H⟩
    ·have bW := Qa.mk c16
     clear c16
     generalize bB : (aK ++ [0] : List Int) = bX at H
     have bI := Qa.mk bB.symm
     clear bB
     have H' := Qa.mk H; clear H
     obtain ⟨dE, dF, dG, dH⟩ := zq2 aA.out
     go_wp2_with (first | ((with_reducible refine Z9 (b := .append) (xs := #[.tmp 33, .tmp 35]) rfl ?_); at_builtin; refine Kd.R_append (Kd.int .i64) (w0 := w) w.heap.size rfl (.tmp 33) (.tmp 35) 27 3 (.int .i64 0) 8 rfl Try.underlying27 info3 rfl (by decide) (by omega) u5 aK 0 [.int .i64 0] (fun _ => True) (fun _ => False) rfl rfl ?aP (fun _ hk => hk.elim) ?aF ?aO ?aB ?aS ?aL ?_; (case aP => exact rfl); (case aB => exact (zG aC.out)); (case aF => exact (fun _ _ => trivial)); (case aO => exact (zR aJ.out)); (case aS => exact (Ql (zG aC.out))); (case aL => have := bW.out; omega); intro eF eT ho hb hg hat; rw [← bI.out] at ho; replace aD := Qa.mk (Kd.S_after (ok := (fun _ => True)) (by (with_reducible repeat (first | apply Kd.S_alloc | apply Kd.S_drewN | apply Kd.S_drew)); exact Kd.S_mono aD.out (fun _ hk => ⟨trivial, hk⟩)) hg hat); replace aA := Qa.mk (Yh (g := aI) (o := .cells #[.int .i64 aG, .string aH] 25 (0, 0)) (zK aA.out) hg (Kd.R_ne aJ.out aA.out (by decide))); have bJ := Qa.mk (ho); replace HB := Qa.mk (hb); clear aJ; clear ho hb hg hat))
     go_roundg k3
     case measure => have := bE.out; have := bO.out; have := bP.out; omega
     case rel => exact ⟨(bX), (wrap64 (aV + 1)), zF, H', ⟨by have := bE.out; have := bO.out; have := bP.out; omega⟩, ⟨zT (Kd.S_mono aD.out (fun _ hk => hk.2))⟩, ⟨zR bJ.out⟩, ⟨zK aA.out⟩, ⟨zG aC.out⟩⟩
    exact absurd H (by simp)
   obtain ⟨aT, eP, H⟩ := zO H
   replace H := Vt H
   rcases H with ⟨c20, H⟩ | ⟨c20, H⟩
   ·have bY := Qa.mk c20
    clear c20
    generalize bC : (aK ++ [aT] : List Int) = bZ at H
    have bK := Qa.mk bC.symm
    clear bC
    have H' := Qa.mk H; clear H
    obtain ⟨dI, dJ, dK, dL⟩ := zq2 aA.out
    go_wp2_with (first | ((with_reducible refine Qb (f := 136) rfl ?_); refine zD (some 32) Try.func136 _ ((Jy.calls k3 aG aH aN aV aT _ eP.out).mono ?_); rintro e eU ⟨rfl, hb⟩; refine ⟨_, rfl, ?_⟩; replace aD := Qa.mk (Kd.S_below (zT aD.out) hb); replace aJ := zW aJ.out hb; replace aA := zV aA.out hb; replace HB := zX1 aC.out hb; (try clear hb)) | ((with_reducible refine Z9 (b := .append) (xs := #[.tmp 33, .tmp 35]) rfl ?_); at_builtin; refine Kd.R_append (Kd.int .i64) (w0 := w) w.heap.size rfl (.tmp 33) (.tmp 35) 27 3 (.int .i64 0) 8 rfl Try.underlying27 info3 rfl (by decide) (by omega) u5 aK aT [.int .i64 aT] (fun _ => True) (fun _ => False) rfl rfl ?aP (fun _ hk => hk.elim) ?aF ?aO ?aB ?aS ?aL ?_; (case aP => exact rfl); (case aB => exact (zG aC.out)); (case aF => exact (fun _ _ => trivial)); (case aO => exact (zR aJ.out)); (case aS => exact (Ql (zG aC.out))); (case aL => have := bY.out; omega); intro eG eX ho hb hg hat; rw [← bK.out] at ho; replace aD := Qa.mk (Kd.S_after (ok := (fun _ => True)) (by (with_reducible repeat (first | apply Kd.S_alloc | apply Kd.S_drewN | apply Kd.S_drew)); exact Kd.S_mono aD.out (fun _ hk => ⟨trivial, hk⟩)) hg hat); replace aA := Qa.mk (Yh (g := aI) (o := .cells #[.int .i64 aG, .string aH] 25 (0, 0)) (zK aA.out) hg (Kd.R_ne aJ.out aA.out (by decide))); have bL := Qa.mk (ho); replace HB := Qa.mk (hb); clear aJ; clear ho hb hg hat))
    go_roundg k3
    case measure => have := bE.out; have := bO.out; have := bP.out; omega
    case rel => exact ⟨(bZ), (wrap64 (aV + 1)), zF, H', ⟨by have := bE.out; have := bO.out; have := bP.out; omega⟩, ⟨zT (Kd.S_mono aD.out (fun _ hk => hk.2))⟩, ⟨zR bL.out⟩, ⟨zK aA.out⟩, ⟨zG aC.out⟩⟩
   exact absurd H (by simp)
  replace H := Vt H
  rcases H with ⟨c24, H⟩ | ⟨c24, H⟩
  ·have cB := Qa.mk c24
   clear c24
   generalize bD : (aM ++ [aK] : List (List Int)) = cK at H
   have bM := Qa.mk bD.symm
   clear bD
   have H' := Qa.mk H; clear H
   obtain ⟨dM, dN, dO, dP⟩ := zq2 aA.out
   obtain ⟨cO, cZ, dX⟩ := Kd.R_slice aJ.out
   subst dX
   go_wp2_with (first | ((with_reducible refine Z9 (b := .append) (xs := #[.tmp 37, .tmp 39]) rfl ?_); at_builtin; refine Kd.S_append (Kd.slice 3 (Kd.int .i64)) (w0 := w) w.heap.size rfl (.tmp 37) (.tmp 39) 44 27 (.slice none 0 0) 24 rfl Try.underlying44 jFo rfl (by decide) (by omega) u3 aM aK [.slice cO aK.length cZ] (fun _ => True) (fun k_ => some k_ = (.slice cO aK.length cZ : Value).ownBlock) rfl rfl ?aP (fun k_ hk_ => ((Kd.R_mono (ok' := fun k_ => ((fun _ => True)) k_ ∧ some k_ ≠ (u3 : Value).ownBlock) (Kd.R_apart' (aJ.out) (Kd.S_typed aD.out) (by decide)) (fun k_ hk => ⟨trivial, hk.2⟩))).1 k_ hk_.symm) ?aF ?aO ?aB ?aS ?aL ?_; (case aP => exact Kd.M_row (Kd.R_mono (Kd.R_tight rfl (Kd.R_mono (ok' := fun k_ => ((fun _ => True)) k_ ∧ some k_ ≠ (u3 : Value).ownBlock) (Kd.R_apart' (aJ.out) (Kd.S_typed aD.out) (by decide)) (fun k_ hk => ⟨trivial, hk.2⟩))) (fun _ h_ => h_))); (case aB => exact (zG aC.out)); (case aF => exact (fun _ _ => trivial)); (case aO => exact (by (with_reducible repeat (first | apply Kd.S_alloc | apply Kd.S_drewN | apply Kd.S_drew)); exact Kd.S_mono aD.out (fun k_ hk => ⟨trivial, fun e_ => hk e_⟩))); (case aS => exact (Ql (zG aC.out))); (case aL => have := cB.out; omega); intro eH eY ho hb hg hat; rw [← bM.out] at ho; replace aA := Qa.mk (Yh (g := aI) (o := .cells #[.int .i64 aG, .string aH] 25 (0, 0)) (zK aA.out) hg (Kd.S_ne aD.out aA.out (by decide))); have bN := Qa.mk (ho); replace HB := Qa.mk (hb); clear aD aJ; clear ho hb hg hat))
   go_roundg k3
   case measure => have := bE.out; have := bO.out; have := bP.out; omega
   case rel => exact ⟨(cK), (wrap64 (aN + 1)), zF, H', ⟨by have := bE.out; have := bO.out; have := bP.out; omega⟩, ⟨zT bN.out⟩, ⟨zK aA.out⟩, ⟨zG aC.out⟩⟩
  exact absurd H (by simp)
 replace c11 := Bool.eq_false_iff.mpr c11
 subst c11
 replace H := (if_neg zFf).symm.trans H
 obtain rfl := Option.some.inj H
 go_wp2
 go_ret
 exact ⟨_, zE, zT aD.out, zG aC.out⟩
def Zn.l0 : Nat → Int → Int → Option (Int)
 | 0, _, _ => none
 | k + 1, x0, x3 => if x0 > 0 then (Zn.l0 k (x0 / 2) (wrap64 (x3 + (Go.bits .and .i64 x0 1)))) else (some x3)
def Zn.f (k : Nat) (a0 : Int) : Option (Int) := Zn.l0 k a0 0
theorem Zn.mono_l : ∀ k, (∀ y0 y1, LeO (Zn.l0 k y0 y1) (Zn.l0 (k + 1) y0 y1))
 | 0 => fun _ _ r h => by simp [Zn.l0] at h
 | k + 1 => by
  have aA := Zn.mono_l k
  ·intro y0 y1
   unfold Zn.l0
   repeat' first
   | (with_reducible first | exact aA .. | exact LeO.refl _ | exact LeO.none _ | refine LeO.ite ?_ ?_ | refine LeO.bind ?_ (fun _ => ?_))
   | exact aA .. | exact LeO.none _ | refine LeO.ite ?_ ?_ | refine LeO.bind ?_ (fun _ => ?_)
theorem Zn.mono : ∀ a0 k, LeO (Zn.f k a0) (Zn.f (k + 1) a0) := by
 intro a0 k
 have aA := Zn.mono_l k
 unfold Zn.f
 repeat' first
   | (with_reducible first | exact aA .. | exact LeO.refl _ | exact LeO.none _ | refine LeO.ite ?_ ?_ | refine LeO.bind ?_ (fun _ => ?_))
   | exact aA .. | exact LeO.none _ | refine LeO.ite ?_ ?_ | refine LeO.bind ?_ (fun _ => ?_)
set_option maxHeartbeats 8000000 in
set_option maxRecDepth 100000 in
theorem Zn.calls (k : Nat) (a0 : Int) (r : Int) (w : World) (h : Zn.f k a0 = some r) :
  Calls Try.prog 139 #[.int .i64 a0] w fun e w' => e = .returned (.int .i64 r) ∧ Qs w w' := by
 have H := h
 unfold Zn.f at H
 clear h
 have H' := Qa.mk H; clear H
 go_enter Try.func139, Try.ntmps139
 go_wp2
 go_loopg [0, 3] k (fun kq v0 v3 w' => ∃ (aA : Int) (aC : Int), v0 = .int .i64 aA ∧ v3 = .int .i64 aC ∧ Qa (Zn.l0 kq aA aC = some r) ∧ Qa (kq ≤ k) ∧ Qs w w')
 case atStart => exact ⟨(a0), (0), zF, zF, H', ⟨Nat.le_refl _⟩, by repeat (first | exact Qs.refl _ | apply Qs.step)⟩
 case round =>
 clear H'
 obtain ⟨aA, aC, rfl, rfl, HA, aG, ⟨m1, rfl⟩⟩ := hrel
 cases gk with
 | zero => exact absurd HA.out (by simp [Zn.l0])
 | succ k1 =>
 have H := HA.out
 clear HA
 simp only [Zn.l0] at H
 replace H := Vt H
 rcases H with ⟨c2, H⟩ | ⟨c2, H⟩
 ·have aD : decide (0 < aA) = true := decide_eq_true c2
  clear c2
  have H' := Qa.mk H; clear H
  go_wp2
  go_roundg k1
  case measure => have := aG.out; omega
  case rel => exact ⟨(aA / 2), (wrap64 (aC + (Go.bits .and .i64 aA 1))), zF, zF, H', ⟨by have := aG.out; omega⟩, by repeat (first | exact Qs.refl _ | apply Qs.step)⟩
 have aD : decide (0 < aA) = false := decide_eq_false c2
 clear c2
 obtain rfl := Option.some.inj H
 go_wp2
 go_ret
 exact ⟨by first | rfl | (simp; done) | (simp [*]; done), by repeat (first | exact Qs.refl _ | apply Qs.step)⟩
mutual
def Qh.l0 : Nat → Int → Int → Int → Int → ByteArray → Option (Bool)
 | 0, _, _, _, _, _ => none
 | k + 1, x1, x5, x6, aA, aC => if x6 < aA then ((Jf.f x1 x6).bind fun aD => (if aD = true then ((Jj.f k aA aC x5 x6).bind fun aG => (if aG = true then (some false) else ((Jf.f x5 x6).bind fun aH => (if aH = true then ((Jj.f k aA aC x1 x6).bind fun aI => (if aI = true then (some false) else (Qh.l0 k x1 x5 (wrap64 (x6 + 1)) aA aC))) else (Qh.l0 k x1 x5 (wrap64 (x6 + 1)) aA aC))))) else ((Jf.f x5 x6).bind fun aJ => (if aJ = true then ((Jj.f k aA aC x1 x6).bind fun aK => (if aK = true then (some false) else (Qh.l0 k x1 x5 (wrap64 (x6 + 1)) aA aC))) else (Qh.l0 k x1 x5 (wrap64 (x6 + 1)) aA aC))))) else (Qh.l1 k x1 0 aA aC)
def Qh.l1 : Nat → Int → Int → Int → ByteArray → Option (Bool)
 | 0, _, _, _, _ => none
 | k + 1, x1, x7, aA, aC => if x7 < aA then (Qh.l2 k x1 x7 (wrap64 (x7 + 1)) aA aC) else (some true)
def Qh.l2 : Nat → Int → Int → Int → Int → ByteArray → Option (Bool)
 | 0, _, _, _, _, _ => none
 | k + 1, x1, x7, x8, aA, aC => if x8 < aA then (Qh.l3 k x1 x7 x8 0 aA aC) else (Qh.l1 k x1 (wrap64 (x7 + 1)) aA aC)
def Qh.l3 : Nat → Int → Int → Int → Int → Int → ByteArray → Option (Bool)
 | 0, _, _, _, _, _, _ => none
 | k + 1, x1, x7, x8, x9, aA, aC => if x9 < aA then (Qh.l4 k x1 x7 x8 x9 (wrap64 (x9 + 1)) aA aC) else (Qh.l2 k x1 x7 (wrap64 (x8 + 1)) aA aC)
def Qh.l4 : Nat → Int → Int → Int → Int → Int → Int → ByteArray → Option (Bool)
 | 0, _, _, _, _, _, _, _ => none
 | k + 1, x1, x7, x8, x9, aD, aA, aC => if aD < aA then ((Jf.f x1 x7).bind fun aG => (if aG = true then ((Jf.f x1 x8).bind fun aH => (if aH = true then ((Jf.f x1 x9).bind fun aI => (if aI = true then (Qh.j5 k x1 x7 x8 x9 aD true aA aC) else ((Jf.f x1 aD).bind fun aJ => (Qh.j5 k x1 x7 x8 x9 aD aJ aA aC)))) else (Qh.j5 k x1 x7 x8 x9 aD true aA aC))) else (Qh.j5 k x1 x7 x8 x9 aD true aA aC))) else (Qh.l3 k x1 x7 x8 (wrap64 (x9 + 1)) aA aC)
def Qh.j5 : Nat → Int → Int → Int → Int → Int → Bool → Int → ByteArray → Option (Bool)
 | 0, _, _, _, _, _, _, _, _ => none
 | k + 1, x1, x7, x8, x9, aG, x93, aA, aC => if x93 = true then (Qh.l4 k x1 x7 x8 x9 (wrap64 (aG + 1)) aA aC) else ((J4.f k aA aC (([x7, x8, x9, aG] : List Int))).bind fun aD => (if 0 ≤ (IntKind.u64.wrap (x7)) then (if 0 ≤ (IntKind.u64.wrap (x8)) then (if aD.1 = (wrap64 ((shl .i64 1 (IntKind.u64.wrap (x7))) + (shl .i64 1 (IntKind.u64.wrap (x8))))) then (some false) else (Qh.l4 k x1 x7 x8 x9 (wrap64 (aG + 1)) aA aC)) else (none)) else (none)))
end
def Qh.f (k : Nat) (aA : Int) (aC : ByteArray) (a1 : Int) : Option (Bool) := if 0 ≤ (IntKind.u64.wrap (aA)) then (Qh.l0 k a1 (wrap64 ((wrap64 ((shl .i64 1 (IntKind.u64.wrap (aA))) - 1)) - a1)) 0 aA aC) else (none)
set_option maxHeartbeats 8000000 in
set_option maxRecDepth 100000 in
theorem Qh.calls (k : Nat) (aD : Int) (aH : ByteArray) (a1 : Int) (r : Bool) (w : World) (h : Qh.f k aD aH a1 = some r) :
  Calls Try.prog 140 #[.agg #[.int .i64 aD, .string aH], .int .i64 a1] w fun e w' => e = .returned (.bool r) ∧ Below w.heap.size w w' := by
 have kP := Try.underlying25
 have HB := Qa.mk (Below.refl w.heap.size w)
 have H := h
 unfold Qh.f at H
 clear h
 obtain ⟨dY, bT⟩ : ∃ j_ : Int, (IntKind.u64.wrap (aD)) = j_ := ⟨_, rfl⟩
 first | rw [bT] at H | simp only [bT] at H
 replace H := Xw H
 rcases H with ⟨dA, dB, H⟩ | ⟨c4, H⟩
 ·obtain ⟨bS, bI⟩ : ∃ j_ : Int, (shl .i64 1 (dY)) = j_ := ⟨_, rfl⟩
  first | rw [bI] at H | simp only [bI] at H
  have dZ : (IntKind.i64.wrap (1 * 2 ^ min (dY).toNat 64)) = bS := bI
  have eB := Yc bI
  have kC : (IntKind.i64.wrap (2 ^ min (dY).toNat 64)) = bS := by have h_ := dZ; rw [Int.one_mul] at h_; exact h_
  have kD : (dY) ≤ 64 → (IntKind.i64.wrap (2 ^ (dY).toNat)) = bS := fun hle_ => by have h_ := eB hle_; rw [Int.one_mul] at h_; exact h_
  have kE : (wrap64 (1 * 2 ^ min (dY).toNat 64)) = bS := (Zu _).symm.trans dZ
  have kF : (dY) ≤ 64 → (wrap64 (1 * 2 ^ (dY).toNat)) = bS := fun h_ => (Zu _).symm.trans (eB h_)
  have H' := Qa.mk H; clear H
  go_enter Try.func140, Try.ntmps140
  go_wp2_with (first | ((with_reducible refine Qf (N := 2) rfl ?_); refine zBx (N := 2) #[.int .i64 aD, .string aH] 25 ?_; intro aW hg w6 hbox hb; have aA := Qa.mk (hbox); have jH := zS hg; have aC := zS hg; replace HB := zX hb; clear hb hbox hg; obtain ⟨aX, aY, aZ, bA⟩ := zq2 aA.out))
  go_loopg [6] k (fun kq v6 w' => ∃ (aG : Int), v6 = .int .i64 aG ∧ Qa (Qh.l0 kq a1 (wrap64 ((wrap64 ((bS) - 1)) - a1)) aG aD aH = some r) ∧ Qa (kq ≤ k) ∧ Qa (w'.heap[aW]? = some (.cells #[.int .i64 aD, .string aH] 25 (0, 0))) ∧ Qa (Below w.heap.size w w'))
  case atStart => exact ⟨(0), zF, H', ⟨Nat.le_refl _⟩, ⟨zK aA.out⟩, ⟨zG aC.out⟩⟩
  case round =>
  clear H'
  try clear c4
  try clear dA
  try clear dB
  try clear aX
  try clear aY
  try clear aZ
  try clear bA
  obtain ⟨aG, rfl, HA, bF, aA, HB⟩ := hrel
  cases gk with
  | zero => exact absurd HA.out (by simp [Qh.l0])
  | succ k1 =>
  have H := HA.out
  clear HA
  simp only [Qh.l0] at H
  replace H := Z5 H
  rcases H with ⟨dC, H⟩ | ⟨dC, H⟩
  ·obtain ⟨eQ, A9, H⟩ := zO H
   by_cases c10 : eQ = true
   ·subst c10
    replace H := (if_pos rfl).symm.trans H
    obtain ⟨eT, fG, H⟩ := zO H
    by_cases c12 : eT = true
    ·subst c12
     replace H := (if_pos rfl).symm.trans H
     obtain rfl := Option.some.inj H
     obtain ⟨fH, fI, fJ, fK⟩ := zq2 aA.out
     go_wp2_with (first | ((with_reducible refine Qb (f := 129) rfl ?_); refine zD (some 28) Try.func129 _ ((Jf.calls a1 aG true _ A9.out).mono ?_); rintro e w' ⟨rfl, ⟨nd, rfl⟩⟩; refine ⟨_, rfl, ?_⟩) | (go_at_call 132; (with_reducible refine (Jj.calls k1 aD aH (wrap64 ((wrap64 ((bS) - 1)) - a1)) aG true _ fG.out).mono ?_); rintro e kS ⟨rfl, hb⟩; replace aA := zV aA.out hb; replace HB := zX1 aC.out hb; (try clear hb); (try clear hb2); (try clear hk); (try clear hi)))
     go_ret
     exact ⟨by first | rfl | (simp [Za, J7] <;> rfl) | (simp only [← bT, ← bI]; first | rfl | (simp [Za, J7] <;> rfl)) | (simp [*, Za, J7] <;> rfl), zG aC.out⟩
    replace c12 := Bool.eq_false_iff.mpr c12
    subst c12
    replace H := (if_neg zFf).symm.trans H
    obtain ⟨eU, jI, H⟩ := zO H
    by_cases c16 : eU = true
    ·subst c16
     replace H := (if_pos rfl).symm.trans H
     obtain ⟨eX, kG, H⟩ := zO H
     by_cases c18 : eX = true
     ·subst c18
      replace H := (if_pos rfl).symm.trans H
      obtain rfl := Option.some.inj H
      obtain ⟨fM, fO, fP, fQ⟩ := zq2 aA.out
      go_wp2_with (first | ((with_reducible refine Qb (f := 129) rfl ?_); refine zD (some 28) Try.func129 _ ((Jf.calls a1 aG true _ A9.out).mono ?_); rintro e w' ⟨rfl, ⟨nd, rfl⟩⟩; refine ⟨_, rfl, ?_⟩) | (go_at_call 132; (with_reducible refine (Jj.calls k1 aD aH (wrap64 ((wrap64 ((bS) - 1)) - a1)) aG false _ fG.out).mono ?_); rintro e kT ⟨rfl, hb⟩; replace aA := zV aA.out hb; replace HB := zX1 aC.out hb; (try clear hb); (try clear hb2); (try clear hk); (try clear hi)) | (go_at_call 129; (with_reducible refine (Jf.calls (wrap64 ((wrap64 ((bS) - 1)) - a1)) aG true _ jI.out).mono ?_); rintro e w' ⟨rfl, ⟨nd, rfl⟩⟩; obtain ⟨fT, fU, fV, fZ⟩ := zq2 aA.out) | (go_at_call 132; (with_reducible refine (Jj.calls k1 aD aH a1 aG true _ kG.out).mono ?_); rintro e kU ⟨rfl, hb⟩; replace aA := zV aA.out hb; replace HB := zX1 aC.out hb; (try clear hb); (try clear hb2); (try clear hk); (try clear hi)))
      go_ret
      exact ⟨by first | rfl | (simp [Za, J7] <;> rfl) | (simp only [← bT, ← bI]; first | rfl | (simp [Za, J7] <;> rfl)) | (simp [*, Za, J7] <;> rfl), zG aC.out⟩
     replace c18 := Bool.eq_false_iff.mpr c18
     subst c18
     replace H := (if_neg zFf).symm.trans H
     have H' := Qa.mk H; clear H
     obtain ⟨gB, gD, gF, gG⟩ := zq2 aA.out
     go_wp2_with (first | ((with_reducible refine Qb (f := 129) rfl ?_); refine zD (some 28) Try.func129 _ ((Jf.calls a1 aG true _ A9.out).mono ?_); rintro e w' ⟨rfl, ⟨nd, rfl⟩⟩; refine ⟨_, rfl, ?_⟩) | (go_at_call 132; (with_reducible refine (Jj.calls k1 aD aH (wrap64 ((wrap64 ((bS) - 1)) - a1)) aG false _ fG.out).mono ?_); rintro e kV ⟨rfl, hb⟩; replace aA := zV aA.out hb; replace HB := zX1 aC.out hb; (try clear hb); (try clear hb2); (try clear hk); (try clear hi)) | (go_at_call 129; (with_reducible refine (Jf.calls (wrap64 ((wrap64 ((bS) - 1)) - a1)) aG true _ jI.out).mono ?_); rintro e w' ⟨rfl, ⟨nd, rfl⟩⟩; obtain ⟨gH, gJ, gK, gL⟩ := zq2 aA.out) | (go_at_call 132; (with_reducible refine (Jj.calls k1 aD aH a1 aG false _ kG.out).mono ?_); rintro e kW ⟨rfl, hb⟩; replace aA := zV aA.out hb; replace HB := zX1 aC.out hb; (try clear hb); (try clear hb2); (try clear hk); (try clear hi)))
     go_roundg k1
     case measure => have := bF.out; omega
     case rel => exact ⟨(wrap64 (aG + 1)), zF, H', ⟨by have := bF.out; omega⟩, ⟨zK aA.out⟩, ⟨zG aC.out⟩⟩
    replace c16 := Bool.eq_false_iff.mpr c16
    subst c16
    replace H := (if_neg zFf).symm.trans H
    have H' := Qa.mk H; clear H
    obtain ⟨gM, gN, gP, gQ⟩ := zq2 aA.out
    go_wp2_with (first | ((with_reducible refine Qb (f := 129) rfl ?_); refine zD (some 28) Try.func129 _ ((Jf.calls a1 aG true _ A9.out).mono ?_); rintro e w' ⟨rfl, ⟨nd, rfl⟩⟩; refine ⟨_, rfl, ?_⟩) | (go_at_call 132; (with_reducible refine (Jj.calls k1 aD aH (wrap64 ((wrap64 ((bS) - 1)) - a1)) aG false _ fG.out).mono ?_); rintro e kX ⟨rfl, hb⟩; replace aA := zV aA.out hb; replace HB := zX1 aC.out hb; (try clear hb); (try clear hb2); (try clear hk); (try clear hi)) | (go_at_call 129; (with_reducible refine (Jf.calls (wrap64 ((wrap64 ((bS) - 1)) - a1)) aG false _ jI.out).mono ?_); rintro e w' ⟨rfl, ⟨nd, rfl⟩⟩))
    go_roundg k1
    case measure => have := bF.out; omega
    case rel => exact ⟨(wrap64 (aG + 1)), zF, H', ⟨by have := bF.out; omega⟩, ⟨zK aA.out⟩, ⟨zG aC.out⟩⟩
   replace c10 := Bool.eq_false_iff.mpr c10
   subst c10
   replace H := (if_neg zFf).symm.trans H
   obtain ⟨eY, jJ, H⟩ := zO H
   by_cases gT : eY = true
   ·subst gT
    replace H := (if_pos rfl).symm.trans H
    obtain ⟨eZ, kH, H⟩ := zO H
    by_cases c32 : eZ = true
    ·subst c32
     replace H := (if_pos rfl).symm.trans H
     obtain rfl := Option.some.inj H
     obtain ⟨gU, gV, gW, gX⟩ := zq2 aA.out
     go_wp2_with (first | ((with_reducible refine Qb (f := 129) rfl ?_); refine zD (some 28) Try.func129 _ ((Jf.calls a1 aG false _ A9.out).mono ?_); rintro e w' ⟨rfl, ⟨nd, rfl⟩⟩; refine ⟨_, rfl, ?_⟩) | (go_at_call 129; (with_reducible refine (Jf.calls (wrap64 ((wrap64 ((bS) - 1)) - a1)) aG true _ jJ.out).mono ?_); rintro e w' ⟨rfl, ⟨nd, rfl⟩⟩) | (go_at_call 132; (with_reducible refine (Jj.calls k1 aD aH a1 aG true _ kH.out).mono ?_); rintro e kY ⟨rfl, hb⟩; replace aA := zV aA.out hb; replace HB := zX1 aC.out hb; (try clear hb); (try clear hb2); (try clear hk); (try clear hi)))
     go_ret
     exact ⟨by first | rfl | (simp [Za, J7] <;> rfl) | (simp only [← bT, ← bI]; first | rfl | (simp [Za, J7] <;> rfl)) | (simp [*, Za, J7] <;> rfl), zG aC.out⟩
    replace c32 := Bool.eq_false_iff.mpr c32
    subst c32
    replace H := (if_neg zFf).symm.trans H
    have H' := Qa.mk H; clear H
    obtain ⟨gY, gZ, iA, iB⟩ := zq2 aA.out
    go_wp2_with (first | ((with_reducible refine Qb (f := 129) rfl ?_); refine zD (some 28) Try.func129 _ ((Jf.calls a1 aG false _ A9.out).mono ?_); rintro e w' ⟨rfl, ⟨nd, rfl⟩⟩; refine ⟨_, rfl, ?_⟩) | (go_at_call 129; (with_reducible refine (Jf.calls (wrap64 ((wrap64 ((bS) - 1)) - a1)) aG true _ jJ.out).mono ?_); rintro e w' ⟨rfl, ⟨nd, rfl⟩⟩) | (go_at_call 132; (with_reducible refine (Jj.calls k1 aD aH a1 aG false _ kH.out).mono ?_); rintro e kZ ⟨rfl, hb⟩; replace aA := zV aA.out hb; replace HB := zX1 aC.out hb; (try clear hb); (try clear hb2); (try clear hk); (try clear hi)))
    go_roundg k1
    case measure => have := bF.out; omega
    case rel => exact ⟨(wrap64 (aG + 1)), zF, H', ⟨by have := bF.out; omega⟩, ⟨zK aA.out⟩, ⟨zG aC.out⟩⟩
   replace gT := Bool.eq_false_iff.mpr gT
   subst gT
   replace H := (if_neg zFf).symm.trans H
   have H' := Qa.mk H; clear H
   obtain ⟨iC, iD, iE, iF⟩ := zq2 aA.out
   go_wp2_with (first | ((with_reducible refine Qb (f := 129) rfl ?_); refine zD (some 28) Try.func129 _ ((Jf.calls a1 aG false _ A9.out).mono ?_); rintro e w' ⟨rfl, ⟨nd, rfl⟩⟩; refine ⟨_, rfl, ?_⟩) | (go_at_call 129; (with_reducible refine (Jf.calls (wrap64 ((wrap64 ((bS) - 1)) - a1)) aG false _ jJ.out).mono ?_); rintro e w' ⟨rfl, ⟨nd, rfl⟩⟩))
   go_roundg k1
   case measure => have := bF.out; omega
   case rel => exact ⟨(wrap64 (aG + 1)), zF, H', ⟨by have := bF.out; omega⟩, ⟨zK aA.out⟩, ⟨zG aC.out⟩⟩
  have H' := Qa.mk H; clear H
  obtain ⟨aQ, aT, aU, aV⟩ := zq2 aA.out
  go_wp2
  go_loopg [7] k1 (fun kq v7 w' => ∃ (aJ : Int), v7 = .int .i64 aJ ∧ Qa (Qh.l1 kq a1 aJ aD aH = some r) ∧ Qa (kq ≤ k1) ∧ Qa (w'.heap[aW]? = some (.cells #[.int .i64 aD, .string aH] 25 (0, 0))) ∧ Qa (Below w.heap.size w w'))
  case atStart => exact ⟨(0), zF, H', ⟨Nat.le_refl _⟩, ⟨zK aA.out⟩, ⟨zG aC.out⟩⟩
  case round =>
  clear H'
  try clear c4
  try clear dA
  try clear dB
  try clear c8
  try clear dC
  try clear aQ
  try clear aT
  try clear aX
  try clear aY
  try clear aU
  try clear aV
  try clear aZ
  try clear bA
  obtain ⟨aJ, rfl, HA, bU, aA, HB⟩ := hrel
  cases gk with
  | zero => exact absurd HA.out (by simp [Qh.l1])
  | succ k2 =>
  have H := HA.out
  clear HA
  simp only [Qh.l1] at H
  replace H := Z5 H
  rcases H with ⟨bP, H⟩ | ⟨bP, H⟩
  ·have H' := Qa.mk H; clear H
   obtain ⟨bB, bC, bD, bE⟩ := zq2 aA.out
   go_wp2
   go_loopg [8] k2 (fun kq v8 w' => ∃ (aM : Int), v8 = .int .i64 aM ∧ Qa (Qh.l2 kq a1 aJ aM aD aH = some r) ∧ Qa (kq ≤ k2) ∧ Qa (w'.heap[aW]? = some (.cells #[.int .i64 aD, .string aH] 25 (0, 0))) ∧ Qa (Below w.heap.size w w'))
   case atStart => exact ⟨(wrap64 (aJ + 1)), zF, H', ⟨Nat.le_refl _⟩, ⟨zK aA.out⟩, ⟨zG aC.out⟩⟩
   case round =>
   clear H'
   try clear c4
   try clear dA
   try clear dB
   try clear c8
   try clear dC
   try clear jK
   try clear bP
   try clear aQ
   try clear aT
   try clear bB
   try clear bC
   try clear aX
   try clear aY
   try clear aU
   try clear aV
   try clear bD
   try clear bE
   try clear aZ
   try clear bA
   obtain ⟨aM, rfl, HA, bV, aA, HB⟩ := hrel
   cases gk with
   | zero => exact absurd HA.out (by simp [Qh.l2])
   | succ k3 =>
   have H := HA.out
   clear HA
   simp only [Qh.l2] at H
   replace H := Z5 H
   rcases H with ⟨bW, H⟩ | ⟨bW, H⟩
   ·have H' := Qa.mk H; clear H
    obtain ⟨bJ, bK, bL, bM⟩ := zq2 aA.out
    go_wp2
    go_loopg [9] k3 (fun kq v9 w' => ∃ (aN : Int), v9 = .int .i64 aN ∧ Qa (Qh.l3 kq a1 aJ aM aN aD aH = some r) ∧ Qa (kq ≤ k3) ∧ Qa (w'.heap[aW]? = some (.cells #[.int .i64 aD, .string aH] 25 (0, 0))) ∧ Qa (Below w.heap.size w w'))
    case atStart => exact ⟨(0), zF, H', ⟨Nat.le_refl _⟩, ⟨zK aA.out⟩, ⟨zG aC.out⟩⟩
    case round =>
    clear H'
    try clear c4
    try clear dA
    try clear dB
    try clear c8
    try clear dC
    try clear jK
    try clear bP
    try clear kI
    try clear bW
    try clear aQ
    try clear aT
    try clear bB
    try clear bC
    try clear bJ
    try clear bK
    try clear aX
    try clear aY
    try clear aU
    try clear aV
    try clear bD
    try clear bE
    try clear bL
    try clear bM
    try clear aZ
    try clear bA
    obtain ⟨aN, rfl, HA, dD, aA, HB⟩ := hrel
    cases gk with
    | zero => exact absurd HA.out (by simp [Qh.l3])
    | succ k4 =>
    have H := HA.out
    clear HA
    simp only [Qh.l3] at H
    replace H := Z5 H
    rcases H with ⟨dE, H⟩ | ⟨dE, H⟩
    ·have H' := Qa.mk H; clear H
     obtain ⟨bX, bY, bZ, cB⟩ := zq2 aA.out
     go_wp2
     go_loopg [10] k4 (fun kq v10 w' => ∃ (aI : Int), v10 = .int .i64 aI ∧ Qa (Qh.l4 kq a1 aJ aM aN aI aD aH = some r) ∧ Qa (kq ≤ k4) ∧ Qa (w'.heap[aW]? = some (.cells #[.int .i64 aD, .string aH] 25 (0, 0))) ∧ Qa (Below w.heap.size w w'))
     case atStart => exact ⟨(wrap64 (aN + 1)), zF, H', ⟨Nat.le_refl _⟩, ⟨zK aA.out⟩, ⟨zG aC.out⟩⟩
     case round =>
     clear H'
     try clear c4
     try clear dA
     try clear dB
     try clear c8
     try clear dC
     try clear jK
     try clear bP
     try clear kI
     try clear bW
     try clear kQ
     try clear dE
     try clear aQ
     try clear aT
     try clear bB
     try clear bC
     try clear bJ
     try clear bK
     try clear bX
     try clear bY
     try clear aX
     try clear aY
     try clear aU
     try clear aV
     try clear bD
     try clear bE
     try clear bL
     try clear bM
     try clear bZ
     try clear cB
     try clear aZ
     try clear bA
     obtain ⟨aI, rfl, HA, dQ, aA, HB⟩ := hrel
     cases gk with
     | zero => exact absurd HA.out (by simp [Qh.l4])
     | succ k5 =>
     have H := HA.out
     clear HA
     simp only [Qh.l4] at H
     replace H := Z5 H
     rcases H with ⟨eD, H⟩ | ⟨eD, H⟩
     ·have eO := Qa.mk H
      clear H
      obtain ⟨dR, dS, dU, dV⟩ := zq2 aA.out
      go_upto_region 19 with (fail)
      go_cut [93] (fun v93 wc => ∃ (kq : Nat) (bN : Bool), v93 = .bool bN ∧ Qa (Qh.j5 kq a1 aJ aM aN aI bN aD aH = some r) ∧ Qa (kq ≤ k5) ∧ Qa (wc.heap[aW]? = some (.cells #[.int .i64 aD, .string aH] 25 (0, 0))) ∧ Qa (Below w.heap.size w wc))
      case first =>
       have H := eO.out
       clear eO
       obtain ⟨fA, iG, H⟩ := zO H
       by_cases c49 : fA = true
       ·subst c49
        replace H := (if_pos rfl).symm.trans H
        obtain ⟨fB, jL, H⟩ := zO H
        by_cases c51 : fB = true
        ·subst c51
         replace H := (if_pos rfl).symm.trans H
         obtain ⟨fC, kJ, H⟩ := zO H
         by_cases c53 : fC = true
         ·subst c53
          replace H := (if_pos rfl).symm.trans H
          have H' := Qa.mk H; clear H
          go_wp2_with (first | ((with_reducible refine Qb (f := 129) rfl ?_); refine zD (some 76) Try.func129 _ ((Jf.calls a1 aJ true _ iG.out).mono ?_); rintro e w' ⟨rfl, ⟨nd, rfl⟩⟩; refine ⟨_, rfl, ?_⟩) | (go_at_call 129; (with_reducible refine (Jf.calls a1 aM true _ jL.out).mono ?_); rintro e w' ⟨rfl, ⟨nd, rfl⟩⟩) | (go_at_call 129; (with_reducible refine (Jf.calls a1 aN true _ kJ.out).mono ?_); rintro e w' ⟨rfl, ⟨nd, rfl⟩⟩))
          go_meet
          case rel => exact ⟨_, (true), zF, H', ⟨by have := bF.out; have := bU.out; have := bV.out; have := dD.out; have := dQ.out; first | omega | exact Nat.le_refl _⟩, ⟨zK aA.out⟩, ⟨zG aC.out⟩⟩
         replace c53 := Bool.eq_false_iff.mpr c53
         subst c53
         replace H := (if_neg zFf).symm.trans H
         obtain ⟨eF, kR, H⟩ := zO H
         have H' := Qa.mk H; clear H
         go_wp2_with (first | ((with_reducible refine Qb (f := 129) rfl ?_); refine zD (some 76) Try.func129 _ ((Jf.calls a1 aJ true _ iG.out).mono ?_); rintro e w' ⟨rfl, ⟨nd, rfl⟩⟩; refine ⟨_, rfl, ?_⟩) | (go_at_call 129; (with_reducible refine (Jf.calls a1 aM true _ jL.out).mono ?_); rintro e w' ⟨rfl, ⟨nd, rfl⟩⟩) | (go_at_call 129; (with_reducible refine (Jf.calls a1 aN false _ kJ.out).mono ?_); rintro e w' ⟨rfl, ⟨nd, rfl⟩⟩) | (go_at_call 129; (with_reducible refine (Jf.calls a1 aI eF _ kR.out).mono ?_); rintro e w' ⟨rfl, ⟨nd, rfl⟩⟩))
         go_meet
         case rel => exact ⟨_, (eF), zF, H', ⟨by have := bF.out; have := bU.out; have := bV.out; have := dD.out; have := dQ.out; first | omega | exact Nat.le_refl _⟩, ⟨zK aA.out⟩, ⟨zG aC.out⟩⟩
        replace c51 := Bool.eq_false_iff.mpr c51
        subst c51
        replace H := (if_neg zFf).symm.trans H
        have H' := Qa.mk H; clear H
        go_wp2_with (first | ((with_reducible refine Qb (f := 129) rfl ?_); refine zD (some 76) Try.func129 _ ((Jf.calls a1 aJ true _ iG.out).mono ?_); rintro e w' ⟨rfl, ⟨nd, rfl⟩⟩; refine ⟨_, rfl, ?_⟩) | (go_at_call 129; (with_reducible refine (Jf.calls a1 aM false _ jL.out).mono ?_); rintro e w' ⟨rfl, ⟨nd, rfl⟩⟩))
        go_meet
        case rel => exact ⟨_, (true), zF, H', ⟨by have := bF.out; have := bU.out; have := bV.out; have := dD.out; have := dQ.out; first | omega | exact Nat.le_refl _⟩, ⟨zK aA.out⟩, ⟨zG aC.out⟩⟩
       replace c49 := Bool.eq_false_iff.mpr c49
       subst c49
       replace H := (if_neg zFf).symm.trans H
       have H' := Qa.mk H; clear H
       go_wp2_with (first | ((with_reducible refine Qb (f := 129) rfl ?_); refine zD (some 76) Try.func129 _ ((Jf.calls a1 aJ false _ iG.out).mono ?_); rintro e w' ⟨rfl, ⟨nd, rfl⟩⟩; refine ⟨_, rfl, ?_⟩))
       go_meet
       case rel => exact ⟨_, (true), zF, H', ⟨by have := bF.out; have := bU.out; have := bV.out; have := dD.out; have := dQ.out; first | omega | exact Nat.le_refl _⟩, ⟨zK aA.out⟩, ⟨zG aC.out⟩⟩
      case rest =>
      clear eO
      try clear c4
      try clear dA
      try clear dB
      try clear c8
      try clear dC
      try clear jK
      try clear bP
      try clear kI
      try clear bW
      try clear kQ
      try clear dE
      try clear lC
      try clear eD
      try clear aQ
      try clear aT
      try clear bB
      try clear bC
      try clear bJ
      try clear bK
      try clear bX
      try clear bY
      try clear dR
      try clear dS
      try clear aX
      try clear aY
      try clear aU
      try clear aV
      try clear bD
      try clear bE
      try clear bL
      try clear bM
      try clear bZ
      try clear cB
      try clear dU
      try clear dV
      try clear aZ
      try clear bA
      obtain ⟨kq, bN, rfl, HA, dW, aA, HB⟩ := hcut
      cases kq with
      | zero => exact absurd HA.out (by simp [Qh.j5])
      | succ dX =>
      have H := HA.out
      clear HA
      simp only [Qh.j5] at H
      by_cases iH : bN = true
      ·subst iH
       replace H := (if_pos rfl).symm.trans H
       have H' := Qa.mk H; clear H
       go_wp2
       go_roundg dX
       case measure => have := bF.out; have := bU.out; have := bV.out; have := dD.out; have := dQ.out; have := dW.out; omega
       case rel => exact ⟨(wrap64 (aI + 1)), zF, H', ⟨by have := bF.out; have := bU.out; have := bV.out; have := dD.out; have := dQ.out; have := dW.out; omega⟩, ⟨zK aA.out⟩, ⟨zG aC.out⟩⟩
      replace iH := Bool.eq_false_iff.mpr iH
      subst iH
      replace H := (if_neg zFf).symm.trans H
      generalize dF : (([aJ, aM, aN, aI] : List Int) : List Int) = cK at H
      have bO := Qa.mk dF.symm
      clear dF
      obtain ⟨⟨eG, eH⟩, eP, H⟩ := zO H
      dsimp only at H
      obtain ⟨bQ, cO⟩ : ∃ j_ : Int, (IntKind.u64.wrap (aJ)) = j_ := ⟨_, rfl⟩
      first | rw [cO] at H | simp only [cO] at H
      (try rw [cO] at eP)
      replace H := Xw H
      rcases H with ⟨kK, kL, H⟩ | ⟨lD, H⟩
      ·obtain ⟨dG, bG⟩ : ∃ j_ : Int, (shl .i64 1 (bQ)) = j_ := ⟨_, rfl⟩
       first | rw [bG] at H | simp only [bG] at H
       (try rw [bG] at eP)
       have dH : (IntKind.i64.wrap (1 * 2 ^ min (bQ).toNat 64)) = dG := bG
       have dI := Yc bG
       have jM : (IntKind.i64.wrap (2 ^ min (bQ).toNat 64)) = dG := by have h_ := dH; rw [Int.one_mul] at h_; exact h_
       have jN : (bQ) ≤ 64 → (IntKind.i64.wrap (2 ^ (bQ).toNat)) = dG := fun hle_ => by have h_ := dI hle_; rw [Int.one_mul] at h_; exact h_
       have jO : (wrap64 (1 * 2 ^ min (bQ).toNat 64)) = dG := (Zu _).symm.trans dH
       have jP : (bQ) ≤ 64 → (wrap64 (1 * 2 ^ (bQ).toNat)) = dG := fun h_ => (Zu _).symm.trans (dI h_)
       obtain ⟨bR, cZ⟩ : ∃ j_ : Int, (IntKind.u64.wrap (aM)) = j_ := ⟨_, rfl⟩
       first | rw [cZ] at H | simp only [cZ] at H
       (try rw [cZ] at eP)
       replace H := Xw H
       rcases H with ⟨kM, kN, H⟩ | ⟨lF, H⟩
       ·obtain ⟨dJ, bH⟩ : ∃ j_ : Int, (shl .i64 1 (bR)) = j_ := ⟨_, rfl⟩
        first | rw [bH] at H | simp only [bH] at H
        (try rw [bH] at eP)
        have dK : (IntKind.i64.wrap (1 * 2 ^ min (bR).toNat 64)) = dJ := bH
        have dL := Yc bH
        have jQ : (IntKind.i64.wrap (2 ^ min (bR).toNat 64)) = dJ := by have h_ := dK; rw [Int.one_mul] at h_; exact h_
        have jR : (bR) ≤ 64 → (IntKind.i64.wrap (2 ^ (bR).toNat)) = dJ := fun hle_ => by have h_ := dL hle_; rw [Int.one_mul] at h_; exact h_
        have jS : (wrap64 (1 * 2 ^ min (bR).toNat 64)) = dJ := (Zu _).symm.trans dK
        have jT : (bR) ≤ 64 → (wrap64 (1 * 2 ^ (bR).toNat)) = dJ := fun h_ => (Zu _).symm.trans (dL h_)
        replace H := Zi H
        rcases H with ⟨fD, fE, H⟩ | ⟨lG, fD, fE, H⟩
        ·obtain rfl := Option.some.inj H
         obtain ⟨iI, iJ, iK, iL⟩ := zq2 aA.out
         go_wp2_with (first | ((with_reducible refine Qf (N := 100) rfl ?_); refine Kd.R_lit (Kd.int .i64) _ 3 ?hg (N := 100) ?hd (xs := ([aJ, aM, aN, aI] : List Int)) (inner := [.int .i64 aJ, .int .i64 aM, .int .i64 aN, .int .i64 aI]) (ok := fun _ => True) (okp := fun _ => True) ?hr ?hp (fun _ hk => hk) trivial (Below.refl _ _) (Nat.le_refl _) (by simp) ?_; (case hd => rfl); (case hg => rfl); (case hr => first | (go_simp; done) | (go_simp; rfl)); (case hp => exact (Xb.one (show Kd.M (Kd.int .i64) _ _ _ aJ [.int .i64 aJ] from rfl) (Xb.one (show Kd.M (Kd.int .i64) _ _ _ aM [.int .i64 aM] from rfl) (Xb.one (show Kd.M (Kd.int .i64) _ _ _ aN [.int .i64 aN] from rfl) (Xb.one (show Kd.M (Kd.int .i64) _ _ _ aI [.int .i64 aI] from rfl) (Xb.none _ _)))))); intro fF lH dM hb hg_ hnew_; clear hg_ hnew_; (first | rw [← bO.out] at dM | (simp only [Int.reduceToNat] at dM; rw [← bO.out] at dM)); have aK := Qa.mk (Kd.R_lower dM (Ql (zG aC.out))); replace aA := zV aA.out hb; replace HB := zX1 aC.out hb; clear hb dM; obtain ⟨jU, jV, jW⟩ := Kd.R_slice aK.out; subst jW) | ((with_reducible refine Qb (f := 108) rfl ?_); refine zD (some 101) Try.func108 #[.agg #[.int .i64 aD, .string aH], .slice jU cK.length jV] ((J4.calls dX aD aH _ _ cK eG eH _ ?dN ?dO eP.out).mono ?_); (case dN => exact zc ((Kd.R_reads' aK.out).2.2)); (case dO => exact (Kd.R_reads' aK.out).2.1); rintro e lI ⟨rfl, hb⟩; refine ⟨_, rfl, ?_⟩; replace aK := zW aK.out hb; replace aA := zV aA.out hb; replace HB := zX1 aC.out hb; (try clear hb)))
         go_ret
         exact ⟨by first | rfl | (simp [Za, J7] <;> rfl) | (simp only [← bT, ← bI, ← cO, ← bG, ← cZ, ← bH]; first | rfl | (simp [Za, J7] <;> rfl)) | (simp [*, Za, J7] <;> rfl), zG aC.out⟩
        have H' := Qa.mk H; clear H
        obtain ⟨iM, iN, iO, iP⟩ := zq2 aA.out
        go_wp2_with (first | ((with_reducible refine Qf (N := 100) rfl ?_); refine Kd.R_lit (Kd.int .i64) _ 3 ?hg (N := 100) ?hd (xs := ([aJ, aM, aN, aI] : List Int)) (inner := [.int .i64 aJ, .int .i64 aM, .int .i64 aN, .int .i64 aI]) (ok := fun _ => True) (okp := fun _ => True) ?hr ?hp (fun _ hk => hk) trivial (Below.refl _ _) (Nat.le_refl _) (by simp) ?_; (case hd => rfl); (case hg => rfl); (case hr => first | (go_simp; done) | (go_simp; rfl)); (case hp => exact (Xb.one (show Kd.M (Kd.int .i64) _ _ _ aJ [.int .i64 aJ] from rfl) (Xb.one (show Kd.M (Kd.int .i64) _ _ _ aM [.int .i64 aM] from rfl) (Xb.one (show Kd.M (Kd.int .i64) _ _ _ aN [.int .i64 aN] from rfl) (Xb.one (show Kd.M (Kd.int .i64) _ _ _ aI [.int .i64 aI] from rfl) (Xb.none _ _)))))); intro fF lJ dP hb hg_ hnew_; clear hg_ hnew_; (first | rw [← bO.out] at dP | (simp only [Int.reduceToNat] at dP; rw [← bO.out] at dP)); have aK := Qa.mk (Kd.R_lower dP (Ql (zG aC.out))); replace aA := zV aA.out hb; replace HB := zX1 aC.out hb; clear hb dP; obtain ⟨jX, jY, jZ⟩ := Kd.R_slice aK.out; subst jZ) | ((with_reducible refine Qb (f := 108) rfl ?_); refine zD (some 101) Try.func108 #[.agg #[.int .i64 aD, .string aH], .slice jX cK.length jY] ((J4.calls dX aD aH _ _ cK eG eH _ ?dN ?dO eP.out).mono ?_); (case dN => exact zc ((Kd.R_reads' aK.out).2.2)); (case dO => exact (Kd.R_reads' aK.out).2.1); rintro e lK ⟨rfl, hb⟩; refine ⟨_, rfl, ?_⟩; replace aK := zW aK.out hb; replace aA := zV aA.out hb; replace HB := zX1 aC.out hb; (try clear hb)))
        go_roundg dX
        case measure => have := bF.out; have := bU.out; have := bV.out; have := dD.out; have := dQ.out; have := dW.out; omega
        case rel => exact ⟨(wrap64 (aI + 1)), zF, H', ⟨by have := bF.out; have := bU.out; have := bV.out; have := dD.out; have := dQ.out; have := dW.out; omega⟩, ⟨zK aA.out⟩, ⟨zG aC.out⟩⟩
       exact absurd H (by simp)
      exact absurd H (by simp)
     have H' := Qa.mk H; clear H
     obtain ⟨iQ, iR, iT, iU⟩ := zq2 aA.out
     go_wp2
     go_roundg k5
     case measure => have := bF.out; have := bU.out; have := bV.out; have := dD.out; have := dQ.out; omega
     case rel => exact ⟨(wrap64 (aN + 1)), zF, H', ⟨by have := bF.out; have := bU.out; have := bV.out; have := dD.out; have := dQ.out; omega⟩, ⟨zK aA.out⟩, ⟨zG aC.out⟩⟩
    have H' := Qa.mk H; clear H
    obtain ⟨iV, iW, iX, iY⟩ := zq2 aA.out
    go_wp2
    go_roundg k4
    case measure => have := bF.out; have := bU.out; have := bV.out; have := dD.out; omega
    case rel => exact ⟨(wrap64 (aM + 1)), zF, H', ⟨by have := bF.out; have := bU.out; have := bV.out; have := dD.out; omega⟩, ⟨zK aA.out⟩, ⟨zG aC.out⟩⟩
   have H' := Qa.mk H; clear H
   obtain ⟨iZ, jA, jB, jC⟩ := zq2 aA.out
   go_wp2
   go_roundg k3
   case measure => have := bF.out; have := bU.out; have := bV.out; omega
   case rel => exact ⟨(wrap64 (aJ + 1)), zF, H', ⟨by have := bF.out; have := bU.out; have := bV.out; omega⟩, ⟨zK aA.out⟩, ⟨zG aC.out⟩⟩
  obtain rfl := Option.some.inj H
  obtain ⟨jD, jE, jF, jG⟩ := zq2 aA.out
  go_wp2
  go_ret
  exact ⟨by first | rfl | (simp [Za, J7] <;> rfl) | (simp only [← bT, ← bI]; first | rfl | (simp [Za, J7] <;> rfl)) | (simp [*, Za, J7] <;> rfl), zG aC.out⟩
 exact absurd H (by simp)
mutual
def Zb.j0 : Nat → Int → List Int → Bool → Int → ByteArray → Option (List Int)
 | 0, _, _, _, _, _ => none
 | k + 1, x1, x5, aD, aA, aC => if aD = true then (some x5) else (Zb.l0 k x1 x5 0 aA aC)
def Zb.l0 : Nat → Int → List Int → Int → Int → ByteArray → Option (List Int)
 | 0, _, _, _, _, _ => none
 | k + 1, x1, x5, x6, aA, aC => if 0 ≤ (IntKind.u64.wrap (aA)) then (if x6 < (shl .i64 1 (IntKind.u64.wrap (aA))) then ((Zn.f k x6).bind fun aD => (if aD = x1 then ((Qh.f k aA aC x6).bind fun aG => (if aG = true then (if x5.length < 17592186044416 then (Zb.l0 k x1 (x5 ++ [x6]) (wrap64 (x6 + 1)) aA aC) else (none)) else (Zb.l0 k x1 x5 (wrap64 (x6 + 1)) aA aC))) else (Zb.l0 k x1 x5 (wrap64 (x6 + 1)) aA aC))) else (some x5)) else (none)
end
def Zb.f (k : Nat) (aA : Int) (aD : ByteArray) (a1 : Int) : Option (List Int) := (some (([] : List Int) : List Int)).bind fun aC => ((Jb.f k aA aD).bind fun aG => (if aG = true then ((Zz.f a1 0 aA).bind fun aH => (Zb.j0 k a1 aC (!aH) aA aD)) else (Zb.j0 k a1 aC true aA aD)))
set_option maxHeartbeats 8000000 in
set_option maxRecDepth 100000 in
theorem Zb.calls (k : Nat) (aD : Int) (aJ : ByteArray) (a1 : Int) (r : List Int) (w : World) (h : Zb.f k aD aJ a1 = some r) :
  Calls Try.prog 74 #[.agg #[.int .i64 aD, .string aJ], .int .i64 a1] w fun e w' => ∃ dV : Value, e = .returned (dV) ∧ Kd.R (Kd.int .i64) 3 w' w.heap.size (fun _ => True) dV r ∧ Below w.heap.size w w' := by
 have eD := Try.underlying25
 have HB := Qa.mk (Below.refl w.heap.size w)
 have H := h
 unfold Zb.f at H
 clear h
 obtain ⟨aU, aV, H⟩ := zs H
 have dN := Qa.mk H
 clear H
 go_enter Try.func74, Try.ntmps74
 go_upto_region 2 with (first | ((with_reducible refine Qf (N := 2) rfl ?_); refine zBx (N := 2) #[.int .i64 aD, .string aJ] 25 ?_; intro aN hg w4 hbox hb; have aA := Qa.mk (hbox); have dO := zS hg; have aC := zS hg; replace HB := zX hb; clear hb hbox hg) | ((with_reducible refine Qf (N := 7) rfl ?_); refine Kd.R_lit (Kd.int .i64) _ 3 ?hg (N := 7) ?hd (xs := ([] : List Int)) (inner := []) (ok := fun _ => True) (okp := fun _ => True) ?hr ?hp (fun _ hk => hk) trivial (Below.refl _ _) (Nat.le_refl _) (by simp) ?_; (case hd => rfl); (case hg => rfl); (case hr => first | (go_simp; done) | (go_simp; rfl)); (case hp => exact (Xb.none _ _)); intro bG w5 bH hb hg_ hnew_; clear hg_ hnew_; (first | rw [← aV.out] at bH | (simp only [Int.reduceToNat] at bH; rw [← aV.out] at bH)); have aH := Qa.mk (Kd.R_lower bH (Ql (zG aC.out))); replace aA := zV aA.out hb; replace HB := zX1 aC.out hb; clear hb bH))
 (try simp only [Act.put, List.setIfInBounds_toArray, List.set_cons_zero, List.set_cons_succ])
 go_cut [17] (fun v17 wc => ∃ (kq : Nat) (aT : Bool), v17 = .bool aT ∧ Qa (Zb.j0 kq a1 aU aT aD aJ = some r) ∧ Qa (kq ≤ k) ∧ Qa (Kd.R (Kd.int .i64) 3 wc w.heap.size (fun _ => True) bG aU) ∧ Qa (wc.heap[aN]? = some (.cells #[.int .i64 aD, .string aJ] 25 (0, 0))) ∧ Qa (Below w.heap.size w wc))
 case first =>
  have H := dN.out
  clear dN
  obtain ⟨bI, A7, H⟩ := zO H
  by_cases c8 : bI = true
  ·subst c8
   replace H := (if_pos rfl).symm.trans H
   obtain ⟨bC, A9, H⟩ := zO H
   have H' := Qa.mk H; clear H
   obtain ⟨bP, bQ, bR, bS⟩ := zq2 aA.out
   go_wp2_with (first | ((with_reducible refine Qb (f := 24) rfl ?_); refine zD (some 9) Try.func24 _ ((Jb.calls k aD aJ true _ A7.out).mono ?_); rintro e eF ⟨rfl, hb⟩; refine ⟨_, rfl, ?_⟩; replace aH := zW aH.out hb; replace aA := zV aA.out hb; replace HB := zX1 aC.out hb; (try clear hb); obtain ⟨bT, bU, bV, bW⟩ := zq2 aA.out) | (go_at_call 89; (with_reducible refine (Zz.calls a1 0 aD bC _ A9.out).mono ?_); rintro e w' ⟨rfl, ⟨nd, rfl⟩⟩))
   go_meet
   case rel => exact ⟨_, (!bC), zF, H', ⟨by first | omega | exact Nat.le_refl _⟩, ⟨zR aH.out⟩, ⟨zK aA.out⟩, ⟨zG aC.out⟩⟩
  replace c8 := Bool.eq_false_iff.mpr c8
  subst c8
  replace H := (if_neg zFf).symm.trans H
  have H' := Qa.mk H; clear H
  obtain ⟨bX, bY, bZ, cB⟩ := zq2 aA.out
  go_wp2_with (first | ((with_reducible refine Qb (f := 24) rfl ?_); refine zD (some 9) Try.func24 _ ((Jb.calls k aD aJ false _ A7.out).mono ?_); rintro e eG ⟨rfl, hb⟩; refine ⟨_, rfl, ?_⟩; replace aH := zW aH.out hb; replace aA := zV aA.out hb; replace HB := zX1 aC.out hb; (try clear hb)))
  go_meet
  case rel => exact ⟨_, (true), zF, H', ⟨by first | omega | exact Nat.le_refl _⟩, ⟨zR aH.out⟩, ⟨zK aA.out⟩, ⟨zG aC.out⟩⟩
 case rest =>
 clear dN
 obtain ⟨kq, aT, rfl, HA, HJ2, aI, aA, HB⟩ := hcut
 cases kq with
 | zero => exact absurd HA.out (by simp [Zb.j0])
 | succ dW =>
 have H := HA.out
 clear HA
 simp only [Zb.j0] at H
 by_cases c15 : aT = true
 ·subst c15
  replace H := (if_pos rfl).symm.trans H
  obtain rfl := Option.some.inj H
  go_wp2
  go_ret
  exact ⟨_, zE, zR aI.out, zG aC.out⟩
 replace c15 := Bool.eq_false_iff.mpr c15
 subst c15
 replace H := (if_neg zFf).symm.trans H
 have H' := Qa.mk H; clear H
 go_wp2
 go_loopg [5, 6] dW (fun kq v5 v6 w' => ∃ (aQ : List Int) (aG : Int), v6 = .int .i64 aG ∧ Qa (Zb.l0 kq a1 aQ aG aD aJ = some r) ∧ Qa (kq ≤ dW) ∧ Qa (Kd.R (Kd.int .i64) 3 w' w.heap.size (fun _ => True) v5 aQ) ∧ Qa (w'.heap[aN]? = some (.cells #[.int .i64 aD, .string aJ] 25 (0, 0))) ∧ Qa (Below w.heap.size w w'))
 case atStart => exact ⟨(aU), (0), zF, H', ⟨Nat.le_refl _⟩, ⟨zR aI.out⟩, ⟨zK aA.out⟩, ⟨zG aC.out⟩⟩
 case round =>
 clear H'
 try clear c15
 obtain ⟨aQ, aG, rfl, HA, bF, aI, aA, HB⟩ := hrel
 cases gk with
 | zero => exact absurd HA.out (by simp [Zb.l0])
 | succ k2 =>
 have H := HA.out
 clear HA
 simp only [Zb.l0] at H
 obtain ⟨aK, aW⟩ : ∃ j_ : Int, (IntKind.u64.wrap (aD)) = j_ := ⟨_, rfl⟩
 first | rw [aW] at H | simp only [aW] at H
 replace H := Xw H
 rcases H with ⟨dX, dY, H⟩ | ⟨c17, H⟩
 ·obtain ⟨aX, aM⟩ : ∃ j_ : Int, (shl .i64 1 (aK)) = j_ := ⟨_, rfl⟩
  first | rw [aM] at H | simp only [aM] at H
  have aY : (IntKind.i64.wrap (1 * 2 ^ min (aK).toNat 64)) = aX := aM
  have aZ := Yc aM
  have dP : (IntKind.i64.wrap (2 ^ min (aK).toNat 64)) = aX := by have h_ := aY; rw [Int.one_mul] at h_; exact h_
  have dQ : (aK) ≤ 64 → (IntKind.i64.wrap (2 ^ (aK).toNat)) = aX := fun hle_ => by have h_ := aZ hle_; rw [Int.one_mul] at h_; exact h_
  have dR : (wrap64 (1 * 2 ^ min (aK).toNat 64)) = aX := (Zu _).symm.trans aY
  have dS : (aK) ≤ 64 → (wrap64 (1 * 2 ^ (aK).toNat)) = aX := fun h_ => (Zu _).symm.trans (aZ h_)
  replace H := Z5 H
  rcases H with ⟨bJ, H⟩ | ⟨bJ, H⟩
  ·obtain ⟨bA, dU, H⟩ := zO H
   replace H := Zi H
   rcases H with ⟨bK, bL, H⟩ | ⟨c21, bK, bL, H⟩
   ·obtain ⟨bM, dZ, H⟩ := zO H
    by_cases c23 : bM = true
    ·subst c23
     replace H := (if_pos rfl).symm.trans H
     replace H := Vt H
     rcases H with ⟨c24, H⟩ | ⟨c24, H⟩
     ·have bN := Qa.mk c24
      clear c24
      generalize bB : (aQ ++ [aG] : List Int) = bO at H
      have bD := Qa.mk bB.symm
      clear bB
      have H' := Qa.mk H; clear H
      obtain ⟨cK, cO, cZ, dA⟩ := zq2 aA.out
      go_wp2_with (first | ((with_reducible refine Qb (f := 139) rfl ?_); refine zD (some 28) Try.func139 _ ((Zn.calls k2 aG bA _ dU.out).mono ?_); rintro e w' ⟨rfl, ⟨nd, rfl⟩⟩; refine ⟨_, rfl, ?_⟩) | (go_at_call 140; (with_reducible refine (Qh.calls k2 aD aJ aG true _ dZ.out).mono ?_); rintro e eH ⟨rfl, hb⟩; replace aI := zW aI.out hb; replace aA := zV aA.out hb; replace HB := zX1 aC.out hb; (try clear hb); (try clear hb2); (try clear hk); (try clear hi)) | ((with_reducible refine Z9 (b := .append) (xs := #[.tmp 36, .tmp 38]) rfl ?_); at_builtin; refine Kd.R_append (Kd.int .i64) (w0 := w) w.heap.size rfl (.tmp 36) (.tmp 38) 27 3 (.int .i64 0) 8 rfl Try.underlying27 info3 rfl (by decide) (by omega) u5 aQ aG [.int .i64 aG] (fun _ => True) (fun _ => False) rfl rfl ?aP (fun _ hk => hk.elim) ?aF ?aO ?aB ?aS ?aL ?_; (case aP => exact rfl); (case aB => exact (zG aC.out)); (case aF => exact (fun _ _ => trivial)); (case aO => exact (zR aI.out)); (case aS => exact (Ql (zG aC.out))); (case aL => have := bN.out; omega); intro eB eO ho hb hg hat; rw [← bD.out] at ho; replace aA := Qa.mk (Yh (g := aN) (o := .cells #[.int .i64 aD, .string aJ] 25 (0, 0)) (zK aA.out) hg (Kd.R_ne aI.out aA.out (by decide))); have bE := Qa.mk (ho); replace HB := Qa.mk (hb); clear aI; clear ho hb hg hat))
      go_roundg k2
      case measure => have := HJ2.out; have := bF.out; omega
      case rel => exact ⟨(bO), (wrap64 (aG + 1)), zF, H', ⟨by have := HJ2.out; have := bF.out; omega⟩, ⟨zR bE.out⟩, ⟨zK aA.out⟩, ⟨zG aC.out⟩⟩
     exact absurd H (by simp)
    replace c23 := Bool.eq_false_iff.mpr c23
    subst c23
    replace H := (if_neg zFf).symm.trans H
    have H' := Qa.mk H; clear H
    obtain ⟨dB, dC, dD, dE⟩ := zq2 aA.out
    go_wp2_with (first | ((with_reducible refine Qb (f := 139) rfl ?_); refine zD (some 28) Try.func139 _ ((Zn.calls k2 aG bA _ dU.out).mono ?_); rintro e w' ⟨rfl, ⟨nd, rfl⟩⟩; refine ⟨_, rfl, ?_⟩) | (go_at_call 140; (with_reducible refine (Qh.calls k2 aD aJ aG false _ dZ.out).mono ?_); rintro e eP ⟨rfl, hb⟩; replace aI := zW aI.out hb; replace aA := zV aA.out hb; replace HB := zX1 aC.out hb; (try clear hb); (try clear hb2); (try clear hk); (try clear hi)))
    go_roundg k2
    case measure => have := HJ2.out; have := bF.out; omega
    case rel => exact ⟨(aQ), (wrap64 (aG + 1)), zF, H', ⟨by have := HJ2.out; have := bF.out; omega⟩, ⟨zR aI.out⟩, ⟨zK aA.out⟩, ⟨zG aC.out⟩⟩
   have H' := Qa.mk H; clear H
   obtain ⟨dF, dG, dH, dI⟩ := zq2 aA.out
   go_wp2_with (first | ((with_reducible refine Qb (f := 139) rfl ?_); refine zD (some 28) Try.func139 _ ((Zn.calls k2 aG bA _ dU.out).mono ?_); rintro e w' ⟨rfl, ⟨nd, rfl⟩⟩; refine ⟨_, rfl, ?_⟩))
   go_roundg k2
   case measure => have := HJ2.out; have := bF.out; omega
   case rel => exact ⟨(aQ), (wrap64 (aG + 1)), zF, H', ⟨by have := HJ2.out; have := bF.out; omega⟩, ⟨zR aI.out⟩, ⟨zK aA.out⟩, ⟨zG aC.out⟩⟩
  obtain rfl := Option.some.inj H
  obtain ⟨dJ, dK, dL, dM⟩ := zq2 aA.out
  go_wp2
  go_ret
  exact ⟨_, by first | rfl | (simp [Za, J7] <;> rfl) | (simp only [← aW, ← aM]; first | rfl | (simp [Za, J7] <;> rfl)) | (simp [*, Za, J7] <;> rfl), zR aI.out, zG aC.out⟩
 exact absurd H (by simp)
mutual
def Qi.l0 : Nat → List (List Int) → Int → Int → ByteArray → Option ((List (List Int)))
 | 0, _, _, _, _ => none
 | k + 1, x3, x4, aA, aC => if x4 < aA then ((Jb.f k aA aC).bind fun aD => (Qi.j1 k x3 x4 aD aA aC)) else (Qi.j1 k x3 x4 false aA aC)
def Qi.j1 : Nat → List (List Int) → Int → Bool → Int → ByteArray → Option ((List (List Int)))
 | 0, _, _, _, _, _ => none
 | k + 1, x3, x4, aD, aA, aC => if aD = true then (Qi.l1 k x3 x4 (wrap64 (x4 + 1)) aA aC) else (some x3)
def Qi.l1 : Nat → List (List Int) → Int → Int → Int → ByteArray → Option ((List (List Int)))
 | 0, _, _, _, _, _ => none
 | k + 1, x3, x4, x5, aA, aC => if x5 < aA then ((Jy.f k aA aC x4 x5).bind fun aD => ((Jy.f k aA aC x5 x4).bind fun aG => ((Zz.f (wrap64 (aD - aG)) (-1) 1).bind fun aH => (if aH = true then (if x3.length < 5864062014805 then (Qi.l1 k (x3 ++ [(([x4, x5] : List Int))]) x4 (wrap64 (x5 + 1)) aA aC) else (none)) else (Qi.l1 k x3 x4 (wrap64 (x5 + 1)) aA aC))))) else (Qi.l0 k x3 (wrap64 (x4 + 1)) aA aC)
end
def Qi.f (k : Nat) (aA : Int) (aC : ByteArray) : Option ((List (List Int))) := Qi.l0 k (([] : List (List Int))) 0 aA aC
def Qi.T8 : Bool × List (List Nat × List Nat) := (true, [([], []), ([], []), ([], []), ([0, 1, 2], [0, 1, 2]), ([], []), ([], []), ([], []), ([4, 5, 6, 3], [4, 5, 6]), ([3, 7], [3, 7]), ([8, 7], [8])])
def Qi.B8 : List Nat := [0, 0, 0, 7, 0, 0, 0, 127, 255, 511]
theorem Qi.tab8 : Uc .any (opsOf Try.f75 8) = Qi.T8 := by kernel_rfl
theorem Qi.bits8 : X6 Qi.T8.2 Qi.B8 = true := by kernel_rfl
set_option maxHeartbeats 8000000 in
set_option maxRecDepth 100000 in
theorem Qi.calls (k : Nat) (aG : Int) (aH : ByteArray) (r : List (List Int)) (w : World) (h : Qi.f k aG aH = some r) :
  Calls Try.prog 75 #[.agg #[.int .i64 aG, .string aH]] w fun e w' => ∃ dM : Value, e = .returned (dM) ∧ Kd.S (Kd.slice 3 (Kd.int .i64)) 27 w' w.heap.size (fun _ => True) dM r ∧ Below w.heap.size w w' := by
 have dV := Try.underlying25
 have HB := Qa.mk (Below.refl w.heap.size w)
 have H := h
 unfold Qi.f at H
 clear h
 generalize aY : (([] : List (List Int)) : List (List Int)) = bL at H
 have aZ := Qa.mk aY.symm
 clear aY
 have H' := Qa.mk H; clear H
 go_enter Try.func75, Try.ntmps75
 go_wp2_with (first | ((with_reducible refine Qf (N := 1) rfl ?_); refine zBx (N := 1) #[.int .i64 aG, .string aH] 25 ?_; intro aK hg w2 hbox hb; have aA := Qa.mk (hbox); have dF := zS hg; have aC := zS hg; replace HB := zX hb; clear hb hbox hg) | ((with_reducible refine Qf (N := 6) rfl ?_); refine Kd.S_lit (Kd.slice 3 (Kd.int .i64)) _ 27 ?hg (N := 6) ?hd (xs := ([] : List (List Int))) (inner := []) (ok := fun _ => True) (okp := fun _ => True) ?hr ?hp (fun _ hk => hk) trivial (Below.refl _ _) (Nat.le_refl _) (by simp) ?_; (case hd => rfl); (case hg => rfl); (case hr => first | (go_simp; done) | (go_simp; rfl)); (case hp => exact (Xb.none _ _)); intro dN w3 bM hb hg_ hnew_; clear hg_ hnew_; (first | rw [← aZ.out] at bM | (simp only [Int.reduceToNat] at bM; rw [← aZ.out] at bM)); have bG := Qa.mk (Kd.S_lower bM (Ql (zG aC.out))); replace aA := zV aA.out hb; replace HB := zX1 aC.out hb; clear hb bM))
 go_loopg [3, 4] k (fun kq v3 v4 w' => ∃ (aW : List (List Int)) (aI : Int), v4 = .int .i64 aI ∧ Qa (Qi.l0 kq aW aI aG aH = some r) ∧ Qa (kq ≤ k) ∧ Qa (Kd.S (Kd.slice 3 (Kd.int .i64)) 27 w' w.heap.size (fun _ => True) v3 aW) ∧ Qa (w'.heap[aK]? = some (.cells #[.int .i64 aG, .string aH] 25 (0, 0))) ∧ Qa (Below w.heap.size w w'))
 case atStart => exact ⟨(bL), (0), zF, H', ⟨Nat.le_refl _⟩, ⟨zT bG.out⟩, ⟨zK aA.out⟩, ⟨zG aC.out⟩⟩
 case round =>
 clear H'
 obtain ⟨aW, aI, rfl, HA, bE, aD, aA, HB⟩ := hrel
 cases gk with
 | zero => exact absurd HA.out (by simp [Qi.l0])
 | succ k1 =>
 have H := HA.out
 clear HA
 simp only [Qi.l0] at H
 have dG := Qa.mk H
 clear H
 go_upto_region 3 with (fail)
 go_cut [14] (fun v14 wc => ∃ (kq : Nat) (aU : Bool), v14 = .bool aU ∧ Qa (Qi.j1 kq aW aI aU aG aH = some r) ∧ Qa (kq ≤ k1) ∧ Qa (Kd.S (Kd.slice 3 (Kd.int .i64)) 27 wc w.heap.size (fun _ => True) u3 aW) ∧ Qa (wc.heap[aK]? = some (.cells #[.int .i64 aG, .string aH] 25 (0, 0))) ∧ Qa (Below w.heap.size w wc))
 case first =>
  have H := dG.out
  clear dG
  replace H := Z5 H
  rcases H with ⟨bA, H⟩ | ⟨bA, H⟩
  ·(first | rw [bA] | (simp only [Zu, Xo]; rw [bA]) | skip)
   obtain ⟨bF, A7, H⟩ := zO H
   have H' := Qa.mk H; clear H
   obtain ⟨dH, dI, dJ, dK⟩ := zq2 aA.out
   go_wp2_with (first | (go_at_call 24; (with_reducible refine (Jb.calls k1 aG aH bF _ A7.out).mono ?_); rintro e w9 ⟨rfl, hb⟩; replace aD := Qa.mk (Kd.S_below (zT aD.out) hb); replace aA := zV aA.out hb; replace HB := zX1 aC.out hb; (try clear hb); (try clear hb2); (try clear hk); (try clear hi)))
   go_meet
   case rel => exact ⟨_, (bF), zF, H', ⟨by have := bE.out; first | omega | exact Nat.le_refl _⟩, ⟨zT aD.out⟩, ⟨zK aA.out⟩, ⟨zG aC.out⟩⟩
  (first | rw [bA] | (simp only [Zu, Xo]; rw [bA]) | skip)
  have H' := Qa.mk H; clear H
  obtain ⟨bT, bU, bV, bW⟩ := zq2 aA.out
  go_wp2
  go_meet
  case rel => exact ⟨_, (false), zF, H', ⟨by have := bE.out; first | omega | exact Nat.le_refl _⟩, ⟨zT aD.out⟩, ⟨zK aA.out⟩, ⟨zG aC.out⟩⟩
 case rest =>
 clear dG
 obtain ⟨kq, aU, rfl, HA, bJ, aD, aA, HB⟩ := hcut
 cases kq with
 | zero => exact absurd HA.out (by simp [Qi.j1])
 | succ dO =>
 have H := HA.out
 clear HA
 simp only [Qi.j1] at H
 by_cases c11 : aU = true
 ·subst c11
  replace H := (if_pos rfl).symm.trans H
  have H' := Qa.mk H; clear H
  go_wp2
  go_loopg [3, 5] dO (fun kq v3 v5 w' => ∃ (aT : List (List Int)) (aJ : Int), v5 = .int .i64 aJ ∧ Qa (Qi.l1 kq aT aI aJ aG aH = some r) ∧ Qa (kq ≤ dO) ∧ Qa (Kd.S (Kd.slice 3 (Kd.int .i64)) 27 w' w.heap.size (fun _ => True) v3 aT) ∧ Qa (w'.heap[aK]? = some (.cells #[.int .i64 aG, .string aH] 25 (0, 0))) ∧ Qa (Below w.heap.size w w'))
  case atStart => exact ⟨(aW), (wrap64 (aI + 1)), zF, H', ⟨Nat.le_refl _⟩, ⟨zT aD.out⟩, ⟨zK aA.out⟩, ⟨zG aC.out⟩⟩
  case round =>
  clear H'
  try clear c11
  obtain ⟨aT, aJ, rfl, HA, bK, aD, aA, HB⟩ := hrel
  cases gk with
  | zero => exact absurd HA.out (by simp [Qi.l1])
  | succ k3 =>
  have H := HA.out
  clear HA
  simp only [Qi.l1] at H
  replace H := Z5 H
  rcases H with ⟨bN, H⟩ | ⟨bN, H⟩
  ·obtain ⟨aM, dP, H⟩ := zO H
   obtain ⟨aN, dQ, H⟩ := zO H
   obtain ⟨bO, dR, H⟩ := zO H
   by_cases c16 : bO = true
   ·subst c16
    replace H := (if_pos rfl).symm.trans H
    generalize bB : (([aI, aJ] : List Int) : List Int) = aV at H
    have bC := Qa.mk bB.symm
    clear bB
    replace H := Vt H
    rcases H with ⟨c17, H⟩ | ⟨c17, H⟩
    ·have bP := Qa.mk c17
     clear c17
     generalize bD : (aT ++ [aV] : List (List Int)) = bQ at H
     have bH := Qa.mk bD.symm
     clear bD
     have H' := Qa.mk H; clear H
     obtain ⟨bX, bY, bZ, cB⟩ := zq2 aA.out
     try go_wp2
     replace aD := Qa.mk (Kd.S_drew aD.out)
     replace aA := Qa.mk (Jo aA.out)
     replace HB := Qa.mk (Qt HB.out)
     refine Ya (n := 10) (S := fun w' => w'.cell? ⟨aK, 0, none⟩ = some (.int .i64 aG) ∧ w'.cell? ⟨aK, 1, none⟩ = some (.string aH)) (ds := []) #[false, false, false, false, false, false, false, false, false, false] (by kernel_rfl) rfl rfl ⟨(Qo aA.out 0).trans rfl, (Qo aA.out 1).trans rfl⟩ (fun hHeld => ?_); refine Z0 Qi.tab8 Qi.bits8 (fun HT_ HW_ => ?_)
     generalize wr.drew = dW at aD aA HB hHeld ⊢
     refine zP 1 (some 26) rfl rfl ?_
     refine zP 2 (some 27) rfl rfl ?_
     refine zP 5 (some 30) rfl rfl ?_
     refine zP 6 (some 31) rfl rfl ?_
     refine zY2 0 (some 25) rfl rfl hHeld ?_
     refine zY2 4 (some 29) rfl rfl hHeld ?_
     refine zU 3 (some 28) rfl rfl (fun K hK => ?_)
     refine Xx Try.func136 (by kernel_rfl) rfl #[.agg #[.int .i64 aG, .string aH], .int .i64 aI, .int .i64 aJ] (by rfl) rfl rfl zM ?_
     with_reducible refine (Jy.calls k3 aG aH aI aJ aM _ dP.out).mono ?_
     rintro e dX ⟨rfl, hb⟩
     refine ⟨_, rfl, ?_⟩
     replace aD := Qa.mk (Kd.S_below (zT aD.out) hb)
     replace aA := zV aA.out hb
     replace HB := zX1 aC.out hb
     (try clear hb)
     refine hK.out _ _ (zh2 aA.out) (fun hHeld => ?_)
     clear hK K
     refine zN ?_
     refine zU 7 (some 32) rfl rfl (fun K hK => ?_)
     refine Xx Try.func136 (by kernel_rfl) rfl #[.agg #[.int .i64 aG, .string aH], .int .i64 aJ, .int .i64 aI] (by rfl) rfl rfl zM ?_
     with_reducible refine (Jy.calls k3 aG aH aJ aI aN _ dQ.out).mono ?_
     rintro e dY ⟨rfl, hb⟩
     refine ⟨_, rfl, ?_⟩
     replace aD := Qa.mk (Kd.S_below (zT aD.out) hb)
     replace aA := zV aA.out hb
     replace HB := zX1 aC.out hb
     (try clear hb)
     refine hK.out _ _ (zh2 aA.out) (fun hHeld => ?_)
     clear hK K
     refine zN ?_
     refine zP 8 (some 33) rfl rfl ?_
     refine zU 9 (some 34) rfl rfl (fun K hK => ?_)
     refine Xx Try.func89 (by kernel_rfl) rfl #[.int .i64 (wrap64 (aM - aN)), .int .i64 (-1), .int .i64 1] (by rfl) rfl rfl zM ?_
     with_reducible refine (Zz.calls (wrap64 (aM - aN)) (-1) 1 true _ dR.out).mono ?_
     rintro e w' ⟨rfl, ⟨nd, rfl⟩⟩
     refine ⟨_, rfl, ?_⟩
     refine hK.out _ _ (zh2 aA.out) (fun hHeld => ?_)
     clear hK K
     refine zN ?_
     refine Vh (Xu HT_.out (by kernel_rfl)) ?_
     try go_wp2_with (first | ((with_reducible refine Qf (N := 38) rfl ?_); refine Kd.R_lit (Kd.int .i64) _ 3 ?hg (N := 38) ?hd (xs := ([aI, aJ] : List Int)) (inner := [.int .i64 aI, .int .i64 aJ]) (ok := fun _ => True) (okp := fun _ => True) ?hr ?hp (fun _ hk => hk) trivial (Below.refl _ _) (Nat.le_refl _) (by simp) ?_; (case hd => rfl); (case hg => rfl); (case hr => first | (go_simp; done) | (go_simp; rfl)); (case hp => exact (Xb.one (show Kd.M (Kd.int .i64) _ _ _ aI [.int .i64 aI] from rfl) (Xb.one (show Kd.M (Kd.int .i64) _ _ _ aJ [.int .i64 aJ] from rfl) (Xb.none _ _)))); intro dS dZ aX hb hg_ hnew_; clear hg_ hnew_; (first | rw [← bC.out] at aX | (simp only [Int.reduceToNat] at aX; rw [← bC.out] at aX)); replace aD := Qa.mk (Kd.S_elder' (zT aD.out) (Kd.R_base aX) hb); have aQ := Qa.mk (Kd.R_lower aX (Ql (zG aC.out))); replace aA := zV aA.out hb; replace HB := zX1 aC.out hb; clear hb aX; obtain ⟨bR, bS, dL⟩ := Kd.R_slice aQ.out; subst dL) | ((with_reducible refine Z9 (b := .append) (xs := #[.tmp 35, .tmp 39]) rfl ?_); at_builtin; refine Kd.S_append (Kd.slice 3 (Kd.int .i64)) (w0 := w) w.heap.size rfl (.tmp 35) (.tmp 39) 44 27 (.slice none 0 0) 24 rfl Try.underlying44 jFo rfl (by decide) (by omega) u3 aT aV [.slice bR aV.length bS] (fun _ => True) (fun k_ => some k_ = (.slice bR aV.length bS : Value).ownBlock) rfl rfl ?aP (fun k_ hk_ => ((Kd.R_mono (ok' := fun k_ => ((fun _ => True)) k_ ∧ some k_ ≠ (u3 : Value).ownBlock) (Kd.R_apart' (aQ.out) (Kd.S_typed aD.out) (by decide)) (fun k_ hk => ⟨trivial, hk.2⟩))).1 k_ hk_.symm) ?aF ?aO ?aB ?aS ?aL ?_; (case aP => exact Kd.M_row (Kd.R_mono (Kd.R_tight rfl (Kd.R_mono (ok' := fun k_ => ((fun _ => True)) k_ ∧ some k_ ≠ (u3 : Value).ownBlock) (Kd.R_apart' (aQ.out) (Kd.S_typed aD.out) (by decide)) (fun k_ hk => ⟨trivial, hk.2⟩))) (fun _ h_ => h_))); (case aB => exact (zG aC.out)); (case aF => exact (fun _ _ => trivial)); (case aO => exact (by (with_reducible repeat (first | apply Kd.S_alloc | apply Kd.S_drewN | apply Kd.S_drew)); exact Kd.S_mono aD.out (fun k_ hk => ⟨trivial, fun e_ => hk.2 e_⟩))); (case aS => exact (Ql (zG aC.out))); (case aL => have := bP.out; omega); intro dU eB ho hb hg hat; rw [← bH.out] at ho; replace aA := Qa.mk (Yh (g := aK) (o := .cells #[.int .i64 aG, .string aH] 25 (0, 0)) (zK aA.out) hg (Kd.S_ne aD.out aA.out (by decide))); have bI := Qa.mk (ho); replace HB := Qa.mk (hb); clear aD aQ; clear ho hb hg hat))
     go_roundg k3
     case measure => have := bE.out; have := bJ.out; have := bK.out; omega
     case rel => exact ⟨(bQ), (wrap64 (aJ + 1)), zF, H', ⟨by have := bE.out; have := bJ.out; have := bK.out; omega⟩, ⟨zT bI.out⟩, ⟨zK aA.out⟩, ⟨zG aC.out⟩⟩
    exact absurd H (by simp)
   replace c16 := Bool.eq_false_iff.mpr c16
   subst c16
   replace H := (if_neg zFf).symm.trans H
   have H' := Qa.mk H; clear H
   obtain ⟨cK, cO, cZ, dA⟩ := zq2 aA.out
   try go_wp2
   replace aD := Qa.mk (Kd.S_drew aD.out)
   replace aA := Qa.mk (Jo aA.out)
   replace HB := Qa.mk (Qt HB.out)
   refine Ya (n := 10) (S := fun w' => w'.cell? ⟨aK, 0, none⟩ = some (.int .i64 aG) ∧ w'.cell? ⟨aK, 1, none⟩ = some (.string aH)) (ds := []) #[false, false, false, false, false, false, false, false, false, false] (by kernel_rfl) rfl rfl ⟨(Qo aA.out 0).trans rfl, (Qo aA.out 1).trans rfl⟩ (fun hHeld => ?_); refine Z0 Qi.tab8 Qi.bits8 (fun HT_ HW_ => ?_)
   generalize wr.drew = eD at aD aA HB hHeld ⊢
   refine zP 1 (some 26) rfl rfl ?_
   refine zP 2 (some 27) rfl rfl ?_
   refine zP 5 (some 30) rfl rfl ?_
   refine zP 6 (some 31) rfl rfl ?_
   refine zY2 0 (some 25) rfl rfl hHeld ?_
   refine zY2 4 (some 29) rfl rfl hHeld ?_
   refine zU 3 (some 28) rfl rfl (fun K hK => ?_)
   refine Xx Try.func136 (by kernel_rfl) rfl #[.agg #[.int .i64 aG, .string aH], .int .i64 aI, .int .i64 aJ] (by rfl) rfl rfl zM ?_
   with_reducible refine (Jy.calls k3 aG aH aI aJ aM _ dP.out).mono ?_
   rintro e eF ⟨rfl, hb⟩
   refine ⟨_, rfl, ?_⟩
   replace aD := Qa.mk (Kd.S_below (zT aD.out) hb)
   replace aA := zV aA.out hb
   replace HB := zX1 aC.out hb
   (try clear hb)
   refine hK.out _ _ (zh2 aA.out) (fun hHeld => ?_)
   clear hK K
   refine zN ?_
   refine zU 7 (some 32) rfl rfl (fun K hK => ?_)
   refine Xx Try.func136 (by kernel_rfl) rfl #[.agg #[.int .i64 aG, .string aH], .int .i64 aJ, .int .i64 aI] (by rfl) rfl rfl zM ?_
   with_reducible refine (Jy.calls k3 aG aH aJ aI aN _ dQ.out).mono ?_
   rintro e eG ⟨rfl, hb⟩
   refine ⟨_, rfl, ?_⟩
   replace aD := Qa.mk (Kd.S_below (zT aD.out) hb)
   replace aA := zV aA.out hb
   replace HB := zX1 aC.out hb
   (try clear hb)
   refine hK.out _ _ (zh2 aA.out) (fun hHeld => ?_)
   clear hK K
   refine zN ?_
   refine zP 8 (some 33) rfl rfl ?_
   refine zU 9 (some 34) rfl rfl (fun K hK => ?_)
   refine Xx Try.func89 (by kernel_rfl) rfl #[.int .i64 (wrap64 (aM - aN)), .int .i64 (-1), .int .i64 1] (by rfl) rfl rfl zM ?_
   with_reducible refine (Zz.calls (wrap64 (aM - aN)) (-1) 1 false _ dR.out).mono ?_
   rintro e w' ⟨rfl, ⟨nd, rfl⟩⟩
   refine ⟨_, rfl, ?_⟩
   refine hK.out _ _ (zh2 aA.out) (fun hHeld => ?_)
   clear hK K
   refine zN ?_
   refine Vh (Xu HT_.out (by kernel_rfl)) ?_
   try go_wp2
   go_roundg k3
   case measure => have := bE.out; have := bJ.out; have := bK.out; omega
   case rel => exact ⟨(aT), (wrap64 (aJ + 1)), zF, H', ⟨by have := bE.out; have := bJ.out; have := bK.out; omega⟩, ⟨zT aD.out⟩, ⟨zK aA.out⟩, ⟨zG aC.out⟩⟩
  have H' := Qa.mk H; clear H
  obtain ⟨dB, dC, dD, dE⟩ := zq2 aA.out
  go_wp2
  go_roundg k3
  case measure => have := bE.out; have := bJ.out; have := bK.out; omega
  case rel => exact ⟨(aT), (wrap64 (aI + 1)), zF, H', ⟨by have := bE.out; have := bJ.out; have := bK.out; omega⟩, ⟨zT aD.out⟩, ⟨zK aA.out⟩, ⟨zG aC.out⟩⟩
 replace c11 := Bool.eq_false_iff.mpr c11
 subst c11
 replace H := (if_neg zFf).symm.trans H
 obtain rfl := Option.some.inj H
 go_wp2
 go_ret
 exact ⟨_, zE, zT aD.out, zG aC.out⟩
mutual
def Je.l0 : Nat → List Int → Int → Int → Int → ByteArray → Option (Int)
 | 0, _, _, _, _, _ => none
 | k + 1, x3, x5, x6, aA, aC => if x6 < aA then (Je.l1 k x3 x5 x6 (wrap64 (x6 + 1)) aA aC) else (some x5)
def Je.l1 : Nat → List Int → Int → Int → Int → Int → ByteArray → Option (Int)
 | 0, _, _, _, _, _, _ => none
 | k + 1, x3, x5, x6, x7, aA, aC => if x7 < aA then (if x3.length = 344 then ((Jm.f k x3 x6 x7).bind fun aD => ((Jm.f k x3 x7 x6).bind fun aG => (Je.l1 k x3 (wrap64 (x5 + (wrap64 (aD * aG)))) x6 (wrap64 (x7 + 1)) aA aC))) else (none)) else (Je.l0 k x3 x5 (wrap64 (x6 + 1)) aA aC)
end
def Je.f (k : Nat) (aC : Int) (aD : ByteArray) : Option (Int) := (Z6.f k aC aD).bind fun aA => (if aA.2 = true then (Je.l0 k aA.1 0 0 aC aD) else (some 0))
set_option maxHeartbeats 8000000 in
set_option maxRecDepth 100000 in
theorem Je.calls (k : Nat) (aG : Int) (aH : ByteArray) (r : Int) (w : World) (h : Je.f k aG aH = some r) :
  Calls Try.prog 76 #[.agg #[.int .i64 aG, .string aH]] w fun e w' => e = .returned (.int .i64 r) ∧ Below w.heap.size w w' := by
 have dG := Try.underlying25
 have HB := Qa.mk (Below.refl w.heap.size w)
 have H := h
 unfold Je.f at H
 clear h
 obtain ⟨⟨aD, bI⟩, A2, H⟩ := zO H
 dsimp only at H
 by_cases c3 : bI = true
 ·subst c3
  replace H := (if_pos rfl).symm.trans H
  have H' := Qa.mk H; clear H
  go_enter Try.func76, Try.ntmps76
  go_wp2_with (first | ((with_reducible refine Qf (N := 1) rfl ?_); refine zBx (N := 1) #[.int .i64 aG, .string aH] 25 ?_; intro aK hg w4 hbox hb; have aA := Qa.mk (hbox); have bD := zS hg; have aC := zS hg; replace HB := zX hb; clear hb hbox hg; obtain ⟨aN, aQ, aT, aU⟩ := zq2 aA.out) | ((with_reducible refine Qb (f := 105) rfl ?_); refine zD (some 10) Try.func105 _ ((Z6.calls k aG aH aD true _ A2.out).mono ?_); rintro e w6 ⟨aV, rfl, ho0, hb⟩; refine ⟨_, rfl, ?_⟩; have aW := Qa.mk (Kd.R_lower ho0 (Ql (zG aC.out))); replace aA := zV aA.out hb; replace HB := zX1 aC.out hb; (try clear hb); (try clear ho0)))
  go_loopg [5, 6] k (fun kq v5 v6 w' => ∃ (bA : Int) (aI : Int), v5 = .int .i64 bA ∧ v6 = .int .i64 aI ∧ Qa (Je.l0 kq aD bA aI aG aH = some r) ∧ Qa (kq ≤ k) ∧ Qa (Kd.R (Kd.int .i64) 115 w' w.heap.size (fun _ => True) aV aD) ∧ Qa (w'.heap[aK]? = some (.cells #[.int .i64 aG, .string aH] 25 (0, 0))) ∧ Qa (Below w.heap.size w w'))
  case atStart => exact ⟨(0), (0), zF, zF, H', ⟨Nat.le_refl _⟩, ⟨zR aW.out⟩, ⟨zK aA.out⟩, ⟨zG aC.out⟩⟩
  case round =>
  clear H'
  try clear c3
  try clear aN
  try clear aQ
  try clear aT
  try clear aU
  obtain ⟨bA, aI, rfl, rfl, HA, bO, aM, aA, HB⟩ := hrel
  cases gk with
  | zero => exact absurd HA.out (by simp [Je.l0])
  | succ k1 =>
  have H := HA.out
  clear HA
  simp only [Je.l0] at H
  replace H := Z5 H
  rcases H with ⟨bJ, H⟩ | ⟨bJ, H⟩
  ·have H' := Qa.mk H; clear H
   obtain ⟨bE, bF, bG, bH⟩ := zq2 aA.out
   go_wp2
   go_loopg [5, 7] k1 (fun kq v5 v7 w' => ∃ (aX : Int) (aJ : Int), v5 = .int .i64 aX ∧ v7 = .int .i64 aJ ∧ Qa (Je.l1 kq aD aX aI aJ aG aH = some r) ∧ Qa (kq ≤ k1) ∧ Qa (Kd.R (Kd.int .i64) 115 w' w.heap.size (fun _ => True) aV aD) ∧ Qa (w'.heap[aK]? = some (.cells #[.int .i64 aG, .string aH] 25 (0, 0))) ∧ Qa (Below w.heap.size w w'))
   case atStart => exact ⟨(bA), (wrap64 (aI + 1)), zF, zF, H', ⟨Nat.le_refl _⟩, ⟨zR aM.out⟩, ⟨zK aA.out⟩, ⟨zG aC.out⟩⟩
   case round =>
   clear H'
   try clear c3
   try clear c7
   try clear bJ
   try clear aN
   try clear aQ
   try clear bE
   try clear bF
   try clear aT
   try clear aU
   try clear bG
   try clear bH
   obtain ⟨aX, aJ, rfl, rfl, HA, bP, aM, aA, HB⟩ := hrel
   cases gk with
   | zero => exact absurd HA.out (by simp [Je.l1])
   | succ k2 =>
   have H := HA.out
   clear HA
   simp only [Je.l1] at H
   replace H := Z5 H
   rcases H with ⟨dC, H⟩ | ⟨dC, H⟩
   ·replace H := Xw H
    rcases H with ⟨dE, dF, H⟩ | ⟨c10, H⟩
    ·obtain ⟨bB, dH, H⟩ := zO H
     obtain ⟨bC, dI, H⟩ := zO H
     have H' := Qa.mk H; clear H
     obtain ⟨bQ, bR, bS, bT⟩ := zq2 aA.out
     obtain ⟨bK, dJ, bL, bM, dD, dK, bN⟩ := Kd.R_form aM.out (by have hl_ := Nat.le_of_eq (Eq.symm (zA : aD.length = 344)); omega)
     (first | cases bL | (injection bL with ea_ en_ ec_; (first | subst ea_ | (injection ea_ with ea_; subst ea_)); subst ec_; clear en_))
     have dL := Qa.mk bM
     have dM := Qa.mk bN
     clear bM dD bN
     go_wp2_with (first | ((with_reducible refine Qb (f := 137) rfl ?_); refine zD (some 33) Try.func137 #[.pointer (some ⟨bK, 0, none⟩), .int .i64 aI, .int .i64 aJ] ((Jm.calls k2 _ aD aI aJ bB _ ?aY ?aZ dH.out).mono ?_); (case aY => exact zc ((Kd.R_reads' aM.out).2.2)); (case aZ => exact (zA : aD.length = 344)); rintro e w' ⟨rfl, ⟨nd, rfl⟩⟩; refine ⟨_, rfl, ?_⟩) | ((with_reducible refine Qb (f := 137) rfl ?_); refine zD (some 37) Try.func137 #[.pointer (some ⟨bK, 0, none⟩), .int .i64 aJ, .int .i64 aI] ((Jm.calls k2 _ aD aJ aI bC _ ?aY ?aZ dI.out).mono ?_); (case aY => exact zc ((Kd.R_reads' aM.out).2.2)); (case aZ => exact (zA : aD.length = 344)); rintro e w' ⟨rfl, ⟨nd, rfl⟩⟩; refine ⟨_, rfl, ?_⟩))
     go_roundg k2
     case measure => have := bO.out; have := bP.out; omega
     case rel => exact ⟨(wrap64 (aX + (wrap64 (bB * bC)))), (wrap64 (aJ + 1)), zF, zF, H', ⟨by have := bO.out; have := bP.out; omega⟩, ⟨zR aM.out⟩, ⟨zK aA.out⟩, ⟨zG aC.out⟩⟩
    exact absurd H (by simp)
   have H' := Qa.mk H; clear H
   obtain ⟨bU, bV, bW, bX⟩ := zq2 aA.out
   go_wp2
   go_roundg k2
   case measure => have := bO.out; have := bP.out; omega
   case rel => exact ⟨(aX), (wrap64 (aI + 1)), zF, zF, H', ⟨by have := bO.out; have := bP.out; omega⟩, ⟨zR aM.out⟩, ⟨zK aA.out⟩, ⟨zG aC.out⟩⟩
  obtain rfl := Option.some.inj H
  obtain ⟨bY, bZ, cB, cK⟩ := zq2 aA.out
  go_wp2
  go_ret
  exact ⟨zE, zG aC.out⟩
 replace c3 := Bool.eq_false_iff.mpr c3
 subst c3
 replace H := (if_neg zFf).symm.trans H
 obtain rfl := Option.some.inj H
 go_enter Try.func76, Try.ntmps76
 go_wp2_with (first | ((with_reducible refine Qf (N := 1) rfl ?_); refine zBx (N := 1) #[.int .i64 aG, .string aH] 25 ?_; intro aK hg dN hbox hb; have aA := Qa.mk (hbox); have bD := zS hg; have aC := zS hg; replace HB := zX hb; clear hb hbox hg; obtain ⟨cO, cZ, dA, dB⟩ := zq2 aA.out) | ((with_reducible refine Qb (f := 105) rfl ?_); refine zD (some 10) Try.func105 _ ((Z6.calls k aG aH aD false _ A2.out).mono ?_); rintro e dO ⟨aV, rfl, ho0, hb⟩; refine ⟨_, rfl, ?_⟩; have aW := Qa.mk (Kd.R_lower ho0 (Ql (zG aC.out))); replace aA := zV aA.out hb; replace HB := zX1 aC.out hb; (try clear hb); (try clear ho0)))
 go_ret
 exact ⟨zE, zG aC.out⟩
mutual
def Qv.l0 : Nat → Int → Int → Int → ByteArray → Option (Int)
 | 0, _, _, _, _ => none
 | k + 1, x3, x4, aA, aC => if x4 < aA then (Qv.l1 k x3 x4 (wrap64 (x4 + 1)) aA aC) else (some x3)
def Qv.l1 : Nat → Int → Int → Int → Int → ByteArray → Option (Int)
 | 0, _, _, _, _, _ => none
 | k + 1, x3, x4, x5, aA, aC => if x5 < aA then ((Jy.f k aA aC x4 x5).bind fun aD => ((Jy.f k aA aC x5 x4).bind fun aG => (Qv.l1 k (wrap64 (x3 + (wrap64 (aD * aG)))) x4 (wrap64 (x5 + 1)) aA aC))) else (Qv.l0 k x3 (wrap64 (x4 + 1)) aA aC)
end
def Qv.f (k : Nat) (aA : Int) (aC : ByteArray) : Option (Int) := (Jb.f k aA aC).bind fun aD => (if aD = true then (Qv.l0 k 0 0 aA aC) else (some 0))
def Qv.T10 : Bool × List (List Nat × List Nat) := (true, [([], []), ([], []), ([], []), ([], []), ([1, 2, 3], [1, 2, 3]), ([], []), ([], []), ([], []), ([5, 6, 7, 4], [5, 6, 7]), ([4, 8], [4, 8]), ([0, 9], [0, 9]), ([10, 8, 0, 1, 2, 3, 4, 5, 6, 7, 8, 9, 10], [0, 10])])
def Qv.B10 : List Nat := [0, 0, 0, 0, 14, 0, 0, 0, 254, 510, 1023, 2047]
theorem Qv.tab10 : Uc .any (opsOf Try.f77 10) = Qv.T10 := by kernel_rfl
theorem Qv.bits10 : X6 Qv.T10.2 Qv.B10 = true := by kernel_rfl
set_option maxHeartbeats 8000000 in
set_option maxRecDepth 100000 in
theorem Qv.calls (k : Nat) (aD : Int) (aG : ByteArray) (r : Int) (w : World) (h : Qv.f k aD aG = some r) :
  Calls Try.prog 77 #[.agg #[.int .i64 aD, .string aG]] w fun e w' => e = .returned (.int .i64 r) ∧ Below w.heap.size w w' := by
 have bX := Try.underlying25
 have HB := Qa.mk (Below.refl w.heap.size w)
 have H := h
 unfold Qv.f at H
 clear h
 obtain ⟨bC, A2, H⟩ := zO H
 by_cases c3 : bC = true
 ·subst c3
  replace H := (if_pos rfl).symm.trans H
  have H' := Qa.mk H; clear H
  go_enter Try.func77, Try.ntmps77
  go_wp2_with (first | ((with_reducible refine Qf (N := 1) rfl ?_); refine zBx (N := 1) #[.int .i64 aD, .string aG] 25 ?_; intro aH hg w4 hbox hb; have aA := Qa.mk (hbox); have aX := zS hg; have aC := zS hg; replace HB := zX hb; clear hb hbox hg; obtain ⟨aK, aM, aN, aQ⟩ := zq2 aA.out) | ((with_reducible refine Qb (f := 24) rfl ?_); refine zD (some 7) Try.func24 _ ((Jb.calls k aD aG true _ A2.out).mono ?_); rintro e w6 ⟨rfl, hb⟩; refine ⟨_, rfl, ?_⟩; replace aA := zV aA.out hb; replace HB := zX1 aC.out hb; (try clear hb)))
  go_loopg [3, 4] k (fun kq v3 v4 w' => ∃ (aU : Int) (aI : Int), v3 = .int .i64 aU ∧ v4 = .int .i64 aI ∧ Qa (Qv.l0 kq aU aI aD aG = some r) ∧ Qa (kq ≤ k) ∧ Qa (w'.heap[aH]? = some (.cells #[.int .i64 aD, .string aG] 25 (0, 0))) ∧ Qa (Below w.heap.size w w'))
  case atStart => exact ⟨(0), (0), zF, zF, H', ⟨Nat.le_refl _⟩, ⟨zK aA.out⟩, ⟨zG aC.out⟩⟩
  case round =>
  clear H'
  try clear c3
  try clear aK
  try clear aM
  try clear aN
  try clear aQ
  obtain ⟨aU, aI, rfl, rfl, HA, bE, aA, HB⟩ := hrel
  cases gk with
  | zero => exact absurd HA.out (by simp [Qv.l0])
  | succ k1 =>
  have H := HA.out
  clear HA
  simp only [Qv.l0] at H
  replace H := Z5 H
  rcases H with ⟨bD, H⟩ | ⟨bD, H⟩
  ·have H' := Qa.mk H; clear H
   obtain ⟨aY, aZ, bA, bB⟩ := zq2 aA.out
   go_wp2
   go_loopg [3, 5] k1 (fun kq v3 v5 w' => ∃ (aT : Int) (aJ : Int), v3 = .int .i64 aT ∧ v5 = .int .i64 aJ ∧ Qa (Qv.l1 kq aT aI aJ aD aG = some r) ∧ Qa (kq ≤ k1) ∧ Qa (w'.heap[aH]? = some (.cells #[.int .i64 aD, .string aG] 25 (0, 0))) ∧ Qa (Below w.heap.size w w'))
   case atStart => exact ⟨(aU), (wrap64 (aI + 1)), zF, zF, H', ⟨Nat.le_refl _⟩, ⟨zK aA.out⟩, ⟨zG aC.out⟩⟩
   case round =>
   clear H'
   try clear c3
   try clear c7
   try clear bD
   try clear aK
   try clear aM
   try clear aY
   try clear aZ
   try clear aN
   try clear aQ
   try clear bA
   try clear bB
   obtain ⟨aT, aJ, rfl, rfl, HA, bF, aA, HB⟩ := hrel
   cases gk with
   | zero => exact absurd HA.out (by simp [Qv.l1])
   | succ k2 =>
   have H := HA.out
   clear HA
   simp only [Qv.l1] at H
   replace H := Z5 H
   rcases H with ⟨bW, H⟩ | ⟨bW, H⟩
   ·obtain ⟨aV, bY, H⟩ := zO H
    obtain ⟨aW, bZ, H⟩ := zO H
    have H' := Qa.mk H; clear H
    obtain ⟨bG, bH, bI, bJ⟩ := zq2 aA.out
    try go_wp2
    replace aA := Qa.mk (Jo aA.out)
    replace HB := Qa.mk (Qt HB.out)
    refine Ya (n := 12) (S := fun w' => w'.cell? ⟨aH, 0, none⟩ = some (.int .i64 aD) ∧ w'.cell? ⟨aH, 1, none⟩ = some (.string aG)) (ds := []) #[false, false, false, false, false, false, false, false, false, false, false, false] (by kernel_rfl) rfl rfl ⟨(Qo aA.out 0).trans rfl, (Qo aA.out 1).trans rfl⟩ (fun hHeld => ?_); refine Z0 Qv.tab10 Qv.bits10 (fun HT_ HW_ => ?_)
    generalize wr.drew = cB at aA HB hHeld ⊢
    refine zP 0 (some 23) rfl rfl ?_
    refine zP 2 (some 25) rfl rfl ?_
    refine zP 3 (some 26) rfl rfl ?_
    refine zP 6 (some 29) rfl rfl ?_
    refine zP 7 (some 30) rfl rfl ?_
    refine zY2 1 (some 24) rfl rfl hHeld ?_
    refine zY2 5 (some 28) rfl rfl hHeld ?_
    refine zU 4 (some 27) rfl rfl (fun K hK => ?_)
    refine Xx Try.func136 (by kernel_rfl) rfl #[.agg #[.int .i64 aD, .string aG], .int .i64 aI, .int .i64 aJ] (by rfl) rfl rfl zM ?_
    with_reducible refine (Jy.calls k2 aD aG aI aJ aV _ bY.out).mono ?_
    rintro e cK ⟨rfl, hb⟩
    refine ⟨_, rfl, ?_⟩
    replace aA := zV aA.out hb
    replace HB := zX1 aC.out hb
    (try clear hb)
    refine hK.out _ _ (zh2 aA.out) (fun hHeld => ?_)
    clear hK K
    refine zN ?_
    refine zU 8 (some 31) rfl rfl (fun K hK => ?_)
    refine Xx Try.func136 (by kernel_rfl) rfl #[.agg #[.int .i64 aD, .string aG], .int .i64 aJ, .int .i64 aI] (by rfl) rfl rfl zM ?_
    with_reducible refine (Jy.calls k2 aD aG aJ aI aW _ bZ.out).mono ?_
    rintro e cO ⟨rfl, hb⟩
    refine ⟨_, rfl, ?_⟩
    replace aA := zV aA.out hb
    replace HB := zX1 aC.out hb
    (try clear hb)
    refine hK.out _ _ (zh2 aA.out) (fun hHeld => ?_)
    clear hK K
    refine zN ?_
    refine zP 9 (some 32) rfl rfl ?_
    refine zP 10 (some 33) rfl rfl ?_
    refine zP 11 (some 3) rfl rfl ?_
    refine Vh (Xu HT_.out (by kernel_rfl)) ?_
    try go_wp2
    go_roundg k2
    case measure => have := bE.out; have := bF.out; omega
    case rel => exact ⟨(wrap64 (aT + (wrap64 (aV * aW)))), (wrap64 (aJ + 1)), zF, zF, H', ⟨by have := bE.out; have := bF.out; omega⟩, ⟨zK aA.out⟩, ⟨zG aC.out⟩⟩
   have H' := Qa.mk H; clear H
   obtain ⟨bK, bL, bM, bN⟩ := zq2 aA.out
   go_wp2
   go_roundg k2
   case measure => have := bE.out; have := bF.out; omega
   case rel => exact ⟨(aT), (wrap64 (aI + 1)), zF, zF, H', ⟨by have := bE.out; have := bF.out; omega⟩, ⟨zK aA.out⟩, ⟨zG aC.out⟩⟩
  obtain rfl := Option.some.inj H
  obtain ⟨bO, bP, bQ, bR⟩ := zq2 aA.out
  go_wp2
  go_ret
  exact ⟨zE, zG aC.out⟩
 replace c3 := Bool.eq_false_iff.mpr c3
 subst c3
 replace H := (if_neg zFf).symm.trans H
 obtain rfl := Option.some.inj H
 go_enter Try.func77, Try.ntmps77
 go_wp2_with (first | ((with_reducible refine Qf (N := 1) rfl ?_); refine zBx (N := 1) #[.int .i64 aD, .string aG] 25 ?_; intro aH hg cZ hbox hb; have aA := Qa.mk (hbox); have aX := zS hg; have aC := zS hg; replace HB := zX hb; clear hb hbox hg; obtain ⟨bS, bT, bU, bV⟩ := zq2 aA.out) | ((with_reducible refine Qb (f := 24) rfl ?_); refine zD (some 7) Try.func24 _ ((Jb.calls k aD aG false _ A2.out).mono ?_); rintro e dA ⟨rfl, hb⟩; refine ⟨_, rfl, ?_⟩; replace aA := zV aA.out hb; replace HB := zX1 aC.out hb; (try clear hb)))
 go_ret
 exact ⟨zE, zG aC.out⟩
def X0.l0 : Nat → List Int → Int → Int → Option (Int)
 | 0, _, _, _ => none
 | k + 1, x0, x3, x4 => if x4 < (x0.length : Int) then (if 0 ≤ x4 then (X0.l0 k x0 (wrap64 (x3 + (rd x0 x4))) (wrap64 (x4 + 1))) else (none)) else (some x3)
def X0.f (k : Nat) (l0 : List Int) : Option (Int) := X0.l0 k l0 0 0
set_option maxHeartbeats 8000000 in
set_option maxRecDepth 100000 in
theorem X0.calls (k : Nat) (A0 : Option Addr) (c0 : Nat) (l0 : List Int) (r : Int) (w : World) (hr0 : Kd.C (Kd.int .i64) w A0 l0.length l0) (hc0 : l0.length ≤ c0) (h : X0.f k l0 = some r) :
  Calls Try.prog 78 #[.slice A0 l0.length c0] w fun e w' => e = .returned (.int .i64 r) ∧ Qs w w' := by
 have aN := Qa.mk hr0
 have aT := Qa.mk hc0
 clear hr0 hc0
 have H := h
 unfold X0.f at H
 clear h
 have H' := Qa.mk H; clear H
 go_enter Try.func78, Try.ntmps78
 go_wp2
 go_loopg [3, 4] k (fun kq v3 v4 w' => ∃ (aG : Int) (aA : Int), v3 = .int .i64 aG ∧ v4 = .int .i64 aA ∧ Qa (X0.l0 kq l0 aG aA = some r) ∧ Qa (kq ≤ k) ∧ Qs w w')
 case atStart => exact ⟨(0), (0), zF, zF, H', ⟨Nat.le_refl _⟩, by repeat (first | exact Qs.refl _ | apply Qs.step)⟩
 case round =>
 clear H'
 obtain ⟨aG, aA, rfl, rfl, HA, aM, ⟨m1, rfl⟩⟩ := hrel
 cases gk with
 | zero => exact absurd HA.out (by simp [X0.l0])
 | succ k1 =>
 have H := HA.out
 clear HA
 simp only [X0.l0] at H
 replace H := Z5 H
 rcases H with ⟨aJ, H⟩ | ⟨aJ, H⟩
 ·replace H := Zq H
  rcases H with ⟨aQ, H⟩ | ⟨c3, H⟩
  ·have H' := Qa.mk H; clear H
   have aC : 0 ≤ (aA : Int) := zA
   have aD : aA < (l0.length : Int) := zA
   obtain ⟨aK, aH, aI⟩ := Kd.at_int aN.out aA aC aD
   cases aH
   replace aC := eq_true aC
   replace aD := eq_true aD
   go_wp2
   go_roundg k1
   case measure => have := aM.out; omega
   case rel => exact ⟨(wrap64 (aG + (rd l0 aA))), (wrap64 (aA + 1)), zF, zF, H', ⟨by have := aM.out; omega⟩, by repeat (first | exact Qs.refl _ | apply Qs.step)⟩
  exact absurd H (by simp)
 obtain rfl := Option.some.inj H
 go_wp2
 go_ret
 exact ⟨by first | rfl | (simp; done) | (simp [*]; done), by repeat (first | exact Qs.refl _ | apply Qs.step)⟩
def Kr.f (a0 : Int) : Option (Int) := some (wrap64 (Int.tdiv (wrap64 ((wrap64 ((wrap64 (a0 * (wrap64 (a0 - 1)))) * (wrap64 (a0 - 2)))) * (wrap64 (a0 - 3)))) 24))
set_option maxHeartbeats 8000000 in
set_option maxRecDepth 100000 in
theorem Kr.calls (a0 : Int) (r : Int) (w : World) (h : Kr.f a0 = some r) :
  Calls Try.prog 79 #[.int .i64 a0] w fun e w' => e = .returned (.int .i64 r) ∧ Qs w w' := by
 have H := h
 unfold Kr.f at H
 clear h
 obtain rfl := Option.some.inj H
 go_enter Try.func79, Try.ntmps79
 go_wp2
 go_ret
 exact ⟨by first | rfl | (simp; done) | (simp [*]; done), by repeat (first | exact Qs.refl _ | apply Qs.step)⟩
def Ur.f (l0 : List Int) : Option (Bool) := some (decide ((l0.length : Int) > 1048576))
set_option maxHeartbeats 8000000 in
set_option maxRecDepth 100000 in
theorem Ur.calls (A0 : Option Addr) (c0 : Nat) (l0 : List Int) (r : Bool) (w : World) (hr0 : Kd.C (Kd.int .u8) w A0 l0.length l0) (hc0 : l0.length ≤ c0) (h : Ur.f l0 = some r) :
  Calls Try.prog 7 #[.slice A0 l0.length c0] w fun e w' => e = .returned (.bool r) ∧ Qs w w' := by
 have aA := Qa.mk hr0
 have aC := Qa.mk hc0
 clear hr0 hc0
 have H := h
 unfold Ur.f at H
 clear h
 obtain rfl := Option.some.inj H
 go_enter Try.func7, Try.ntmps7
 go_wp2
 go_ret
 exact ⟨by first | rfl | (simp; done) | (simp [*]; done), by repeat (first | exact Qs.refl _ | apply Qs.step)⟩
def Ze.l0 : Nat → List Int → List Int → Int → Option (Bool)
 | 0, _, _, _ => none
 | k + 1, x0, x1, x5 => if x5 < (x0.length : Int) then (if 0 ≤ x5 then (if x5 < (x1.length : Int) then (if (rd x0 x5) = (rd x1 x5) then (Ze.l0 k x0 x1 (wrap64 (x5 + 1))) else (some false)) else (none)) else (none)) else (some true)
def Ze.f (k : Nat) (l0 : List Int) (l1 : List Int) : Option (Bool) := if (l0.length : Int) = (l1.length : Int) then (Ze.l0 k l0 l1 0) else (some false)
set_option maxHeartbeats 8000000 in
set_option maxRecDepth 100000 in
theorem Ze.calls (k : Nat) (A0 : Option Addr) (c0 : Nat) (l0 : List Int) (A1 : Option Addr) (c1 : Nat) (l1 : List Int) (r : Bool) (w : World) (hr0 : Kd.C (Kd.int .i64) w A0 l0.length l0) (hc0 : l0.length ≤ c0) (hr1 : Kd.C (Kd.int .i64) w A1 l1.length l1) (hc1 : l1.length ≤ c1) (h : Ze.f k l0 l1 = some r) :
  Calls Try.prog 16 #[.slice A0 l0.length c0, .slice A1 l1.length c1] w fun e w' => e = .returned (.bool r) ∧ Qs w w' := by
 have aZ := Qa.mk hr0
 have bD := Qa.mk hc0
 clear hr0 hc0
 have HR1 := Qa.mk hr1
 have bE := Qa.mk hc1
 clear hr1 hc1
 have H := h
 unfold Ze.f at H
 clear h
 replace H := jFl H
 rcases H with ⟨c3, aN, aQ, H⟩ | ⟨c3, aN, aQ, H⟩
 ·have aT : (l0.length == l1.length) = true := by first | simpa using c3 | (simp at c3 ⊢; omega)
  clear c3
  have H' := Qa.mk H; clear H
  go_enter Try.func16, Try.ntmps16
  go_wp2
  repeat (go_quiet (fail); try go_wp2)
  go_loopg [5] k (fun kq v5 w' => ∃ (aA : Int), v5 = .int .i64 aA ∧ Qa (Ze.l0 kq l0 l1 aA = some r) ∧ Qa (kq ≤ k) ∧ Qs w w')
  case atStart => exact ⟨(0), zF, H', ⟨Nat.le_refl _⟩, by repeat (first | exact Qs.refl _ | apply Qs.step)⟩
  case round =>
  clear H'
  try clear c3
  try clear aN
  try clear aQ
  try clear aT
  obtain ⟨aA, rfl, HA, bA, ⟨m1, rfl⟩⟩ := hrel
  cases gk with
  | zero => exact absurd HA.out (by simp [Ze.l0])
  | succ k1 =>
  have H := HA.out
  clear HA
  simp only [Ze.l0] at H
  replace H := Z5 H
  rcases H with ⟨aW, H⟩ | ⟨aW, H⟩
  ·replace H := Zq H
   rcases H with ⟨bB, H⟩ | ⟨c5, H⟩
   ·replace H := Zq H
    rcases H with ⟨bC, H⟩ | ⟨c6, H⟩
    ·replace H := Zi H
     rcases H with ⟨aX, aY, H⟩ | ⟨c7, aX, aY, H⟩
     ·have H' := Qa.mk H; clear H
      have aC : 0 ≤ (aA : Int) := zA
      have aD : aA < (l0.length : Int) := zA
      obtain ⟨aU, aK, aI⟩ := Kd.at_int aZ.out aA aC aD
      cases aK
      replace aC := eq_true aC
      replace aD := eq_true aD
      have aG : 0 ≤ (aA : Int) := zA
      have aH : aA < (l1.length : Int) := zA
      obtain ⟨aV, aM, aJ⟩ := Kd.at_int HR1.out aA aG aH
      cases aM
      replace aG := eq_true aG
      replace aH := eq_true aH
      go_wp2
      repeat (go_quiet (fail); try go_wp2)
      go_roundg k1
      case measure => have := bA.out; omega
      case rel => exact ⟨(wrap64 (aA + 1)), zF, H', ⟨by have := bA.out; omega⟩, by repeat (first | exact Qs.refl _ | apply Qs.step)⟩
     obtain rfl := Option.some.inj H
     have aC : 0 ≤ (aA : Int) := zA
     have aD : aA < (l0.length : Int) := zA
     obtain ⟨aU, aK, aI⟩ := Kd.at_int aZ.out aA aC aD
     cases aK
     replace aC := eq_true aC
     replace aD := eq_true aD
     have aG : 0 ≤ (aA : Int) := zA
     have aH : aA < (l1.length : Int) := zA
     obtain ⟨aV, aM, aJ⟩ := Kd.at_int HR1.out aA aG aH
     cases aM
     replace aG := eq_true aG
     replace aH := eq_true aH
     go_wp2
     repeat (go_quiet (fail); try go_wp2)
     go_ret
     exact ⟨by first | rfl | (simp; done) | (simp [*]; done), by repeat (first | exact Qs.refl _ | apply Qs.step)⟩
    exact absurd H (by simp)
   exact absurd H (by simp)
  obtain rfl := Option.some.inj H
  go_wp2
  repeat (go_quiet (fail); try go_wp2)
  go_ret
  exact ⟨by first | rfl | (simp; done) | (simp [*]; done), by repeat (first | exact Qs.refl _ | apply Qs.step)⟩
 have aT : (l0.length == l1.length) = false := by first | simpa using c3 | (simp at c3 ⊢; omega)
 obtain rfl := Option.some.inj H
 go_enter Try.func16, Try.ntmps16
 go_wp2
 repeat (go_quiet (fail); try go_wp2)
 go_ret
 exact ⟨by first | rfl | (simp; done) | (simp [*]; done), by repeat (first | exact Qs.refl _ | apply Qs.step)⟩
def Zx.l0 : Nat → List (List Int) → List (List Int) → Int → Option (Bool)
 | 0, _, _, _ => none
 | k + 1, x0, x1, x5 => if x5 < (x0.length : Int) then (if 0 ≤ x5 then (if x5 < (x1.length : Int) then ((Ze.f k (Yz x0 x5) (Yz x1 x5)).bind fun aA => (if aA = true then (Zx.l0 k x0 x1 (wrap64 (x5 + 1))) else (some false))) else (none)) else (none)) else (some true)
def Zx.f (k : Nat) (l0 : List (List Int)) (l1 : List (List Int)) : Option (Bool) := if (l0.length : Int) = (l1.length : Int) then (Zx.l0 k l0 l1 0) else (some false)
set_option maxHeartbeats 8000000 in
set_option maxRecDepth 100000 in
theorem Zx.calls (k : Nat) (A0 : Option Addr) (c0 : Nat) (l0 : List (List Int)) (A1 : Option Addr) (c1 : Nat) (l1 : List (List Int)) (r : Bool) (w : World) (hr0 : Kd.C (Kd.slice 3 (Kd.int .i64)) w A0 l0.length l0) (hc0 : l0.length ≤ c0) (hr1 : Kd.C (Kd.slice 3 (Kd.int .i64)) w A1 l1.length l1) (hc1 : l1.length ≤ c1) (h : Zx.f k l0 l1 = some r) :
  Calls Try.prog 37 #[.slice A0 l0.length c0, .slice A1 l1.length c1] w fun e w' => e = .returned (.bool r) ∧ Qs w w' := by
 have bO := Qa.mk hr0
 have bS := Qa.mk hc0
 clear hr0 hc0
 have HR1 := Qa.mk hr1
 have bT := Qa.mk hc1
 clear hr1 hc1
 have H := h
 unfold Zx.f at H
 clear h
 replace H := jFl H
 rcases H with ⟨c3, bH, bI, H⟩ | ⟨c3, bH, bI, H⟩
 ·have bJ : (l0.length == l1.length) = true := by first | simpa using c3 | (simp at c3 ⊢; omega)
  clear c3
  have H' := Qa.mk H; clear H
  go_enter Try.func37, Try.ntmps37
  go_wp2
  repeat (go_quiet (fail); try go_wp2)
  go_loopg [5] k (fun kq v5 w' => ∃ (aA : Int), v5 = .int .i64 aA ∧ Qa (Zx.l0 kq l0 l1 aA = some r) ∧ Qa (kq ≤ k) ∧ Qs w w')
  case atStart => exact ⟨(0), zF, H', ⟨Nat.le_refl _⟩, by repeat (first | exact Qs.refl _ | apply Qs.step)⟩
  case round =>
  clear H'
  try clear c3
  try clear bH
  try clear bI
  try clear bJ
  obtain ⟨aA, rfl, HA, bP, ⟨m1, rfl⟩⟩ := hrel
  cases gk with
  | zero => exact absurd HA.out (by simp [Zx.l0])
  | succ k1 =>
  have H := HA.out
  clear HA
  simp only [Zx.l0] at H
  replace H := Z5 H
  rcases H with ⟨bM, H⟩ | ⟨bM, H⟩
  ·replace H := Zq H
   rcases H with ⟨bQ, H⟩ | ⟨c5, H⟩
   ·replace H := Zq H
    rcases H with ⟨bR, H⟩ | ⟨c6, H⟩
    ·obtain ⟨bN, A7, H⟩ := zO H
     by_cases c8 : bN = true
     ·subst c8
      replace H := (if_pos rfl).symm.trans H
      have H' := Qa.mk H; clear H
      have aV : 0 ≤ (aA : Int) := zA
      have aW : aA < (l0.length : Int) := zA
      obtain ⟨bK, bB, bC, bD, aZ, aN, aQ⟩ := jJc bO.out aA aV aW
      cases bD
      have aC := Qa.mk aQ
      have aD := Qa.mk aN
      clear aQ aN
      replace aV := eq_true aV
      replace aW := eq_true aW
      have aX : 0 ≤ (aA : Int) := zA
      have aY : aA < (l1.length : Int) := zA
      obtain ⟨bL, bE, bF, bG, bA, aT, aU⟩ := jJc HR1.out aA aX aY
      cases bG
      have aG := Qa.mk aU
      have aH := Qa.mk aT
      clear aU aT
      replace aX := eq_true aX
      replace aY := eq_true aY
      go_wp2_with (first | (go_at_call 16; (with_reducible refine (Ze.calls k1 _ _ (Yz l0 aA) _ _ (Yz l1 aA) true _ ?aI ?aJ ?aK ?aM A7.out).mono ?_); (case aI => exact zc aC.out); (case aJ => exact aD.out); (case aK => exact zc aG.out); (case aM => exact aH.out); rintro e w' ⟨rfl, ⟨nd, rfl⟩⟩; (try first | exact ⟨rfl, _, World.drewN_drewN _ _ _⟩ | exact ⟨rfl, _, Eq.trans (World.drewN_drewN _ _ _) (congrArg (World.drewN _) (Nat.add_assoc _ _ _))⟩)))
      repeat (go_quiet (first | (go_at_call 16; (with_reducible refine (Ze.calls k1 _ _ (Yz l0 aA) _ _ (Yz l1 aA) true _ ?aI ?aJ ?aK ?aM A7.out).mono ?_); (case aI => exact zc aC.out); (case aJ => exact aD.out); (case aK => exact zc aG.out); (case aM => exact aH.out); rintro e w' ⟨rfl, ⟨nd, rfl⟩⟩; (try first | exact ⟨rfl, _, World.drewN_drewN _ _ _⟩ | exact ⟨rfl, _, Eq.trans (World.drewN_drewN _ _ _) (congrArg (World.drewN _) (Nat.add_assoc _ _ _))⟩))); try go_wp2_with (first | (go_at_call 16; (with_reducible refine (Ze.calls k1 _ _ (Yz l0 aA) _ _ (Yz l1 aA) true _ ?aI ?aJ ?aK ?aM A7.out).mono ?_); (case aI => exact zc aC.out); (case aJ => exact aD.out); (case aK => exact zc aG.out); (case aM => exact aH.out); rintro e w' ⟨rfl, ⟨nd, rfl⟩⟩; (try first | exact ⟨rfl, _, World.drewN_drewN _ _ _⟩ | exact ⟨rfl, _, Eq.trans (World.drewN_drewN _ _ _) (congrArg (World.drewN _) (Nat.add_assoc _ _ _))⟩))))
      go_roundg k1
      case measure => have := bP.out; omega
      case rel => exact ⟨(wrap64 (aA + 1)), zF, H', ⟨by have := bP.out; omega⟩, by repeat (first | exact Qs.refl _ | apply Qs.step)⟩
     replace c8 := Bool.eq_false_iff.mpr c8
     subst c8
     replace H := (if_neg zFf).symm.trans H
     obtain rfl := Option.some.inj H
     have aV : 0 ≤ (aA : Int) := zA
     have aW : aA < (l0.length : Int) := zA
     obtain ⟨bK, bB, bC, bD, aZ, aN, aQ⟩ := jJc bO.out aA aV aW
     cases bD
     have aC := Qa.mk aQ
     have aD := Qa.mk aN
     clear aQ aN
     replace aV := eq_true aV
     replace aW := eq_true aW
     have aX : 0 ≤ (aA : Int) := zA
     have aY : aA < (l1.length : Int) := zA
     obtain ⟨bL, bE, bF, bG, bA, aT, aU⟩ := jJc HR1.out aA aX aY
     cases bG
     have aG := Qa.mk aU
     have aH := Qa.mk aT
     clear aU aT
     replace aX := eq_true aX
     replace aY := eq_true aY
     go_wp2_with (first | (go_at_call 16; (with_reducible refine (Ze.calls k1 _ _ (Yz l0 aA) _ _ (Yz l1 aA) false _ ?aI ?aJ ?aK ?aM A7.out).mono ?_); (case aI => exact zc aC.out); (case aJ => exact aD.out); (case aK => exact zc aG.out); (case aM => exact aH.out); rintro e w' ⟨rfl, ⟨nd, rfl⟩⟩; (try first | exact ⟨rfl, _, World.drewN_drewN _ _ _⟩ | exact ⟨rfl, _, Eq.trans (World.drewN_drewN _ _ _) (congrArg (World.drewN _) (Nat.add_assoc _ _ _))⟩)))
     repeat (go_quiet (first | (go_at_call 16; (with_reducible refine (Ze.calls k1 _ _ (Yz l0 aA) _ _ (Yz l1 aA) false _ ?aI ?aJ ?aK ?aM A7.out).mono ?_); (case aI => exact zc aC.out); (case aJ => exact aD.out); (case aK => exact zc aG.out); (case aM => exact aH.out); rintro e w' ⟨rfl, ⟨nd, rfl⟩⟩; (try first | exact ⟨rfl, _, World.drewN_drewN _ _ _⟩ | exact ⟨rfl, _, Eq.trans (World.drewN_drewN _ _ _) (congrArg (World.drewN _) (Nat.add_assoc _ _ _))⟩))); try go_wp2_with (first | (go_at_call 16; (with_reducible refine (Ze.calls k1 _ _ (Yz l0 aA) _ _ (Yz l1 aA) false _ ?aI ?aJ ?aK ?aM A7.out).mono ?_); (case aI => exact zc aC.out); (case aJ => exact aD.out); (case aK => exact zc aG.out); (case aM => exact aH.out); rintro e w' ⟨rfl, ⟨nd, rfl⟩⟩; (try first | exact ⟨rfl, _, World.drewN_drewN _ _ _⟩ | exact ⟨rfl, _, Eq.trans (World.drewN_drewN _ _ _) (congrArg (World.drewN _) (Nat.add_assoc _ _ _))⟩))))
     go_ret
     exact ⟨by first | rfl | (simp; done) | (simp [*]; done), by repeat (first | exact Qs.refl _ | apply Qs.step)⟩
    exact absurd H (by simp)
   exact absurd H (by simp)
  obtain rfl := Option.some.inj H
  go_wp2
  repeat (go_quiet (fail); try go_wp2)
  go_ret
  exact ⟨by first | rfl | (simp; done) | (simp [*]; done), by repeat (first | exact Qs.refl _ | apply Qs.step)⟩
 have bJ : (l0.length == l1.length) = false := by first | simpa using c3 | (simp at c3 ⊢; omega)
 obtain rfl := Option.some.inj H
 go_enter Try.func37, Try.ntmps37
 go_wp2
 repeat (go_quiet (fail); try go_wp2)
 go_ret
 exact ⟨by first | rfl | (simp; done) | (simp [*]; done), by repeat (first | exact Qs.refl _ | apply Qs.step)⟩
mutual
def Qy.l0 : Nat → List (List Int) → Int → Int → ByteArray → Option ((List (List Int)))
 | 0, _, _, _, _ => none
 | k + 1, x3, x4, aA, aC => if x4 < aA then (Qy.l1 k x3 x4 (wrap64 (x4 + 1)) aA aC) else (some x3)
def Qy.l1 : Nat → List (List Int) → Int → Int → Int → ByteArray → Option ((List (List Int)))
 | 0, _, _, _, _, _ => none
 | k + 1, x3, x4, x5, aA, aC => if x5 < aA then (Qy.l2 k x3 x4 x5 (wrap64 (x5 + 1)) aA aC) else (Qy.l0 k x3 (wrap64 (x4 + 1)) aA aC)
def Qy.l2 : Nat → List (List Int) → Int → Int → Int → Int → ByteArray → Option ((List (List Int)))
 | 0, _, _, _, _, _, _ => none
 | k + 1, x3, x4, x5, x6, aA, aC => if x6 < aA then (Qy.l3 k x3 x4 x5 x6 (wrap64 (x6 + 1)) aA aC) else (Qy.l1 k x3 x4 (wrap64 (x5 + 1)) aA aC)
def Qy.l3 : Nat → List (List Int) → Int → Int → Int → Int → Int → ByteArray → Option ((List (List Int)))
 | 0, _, _, _, _, _, _, _ => none
 | k + 1, x3, x4, x5, x6, x7, aA, aC => if x7 < aA then ((some (([x4, x5, x6, x7] : List Int) : List Int)).bind fun aD => ((Yf.f k aA aC aD).bind fun aG => (if aG < 0 then (if x3.length < 5864062014805 then (Qy.l3 k (x3 ++ [aD]) x4 x5 x6 (wrap64 (x7 + 1)) aA aC) else (none)) else (Qy.l3 k x3 x4 x5 x6 (wrap64 (x7 + 1)) aA aC)))) else (Qy.l2 k x3 x4 x5 (wrap64 (x6 + 1)) aA aC)
end
def Qy.f (k : Nat) (aA : Int) (aC : ByteArray) : Option ((List (List Int))) := (some (([] : List (List Int)) : List (List Int))).bind fun aD => ((Jb.f k aA aC).bind fun aG => (if aG = true then (Qy.l0 k aD 0 aA aC) else (some aD)))
set_option maxHeartbeats 8000000 in
set_option maxRecDepth 100000 in
theorem Qy.calls (k : Nat) (aH : Int) (aI : ByteArray) (r : List (List Int)) (w : World) (h : Qy.f k aH aI = some r) :
  Calls Try.prog 38 #[.agg #[.int .i64 aH, .string aI]] w fun e w' => ∃ fV : Value, e = .returned (fV) ∧ Kd.S (Kd.slice 3 (Kd.int .i64)) 27 w' w.heap.size (fun _ => True) fV r ∧ Below w.heap.size w w' := by
 have gB := Try.underlying25
 have HB := Qa.mk (Below.refl w.heap.size w)
 have H := h
 unfold Qy.f at H
 clear h
 obtain ⟨fI, bE, H⟩ := zs H
 obtain ⟨fJ, A2, H⟩ := zO H
 by_cases c3 : fJ = true
 ·subst c3
  replace H := (if_pos rfl).symm.trans H
  have H' := Qa.mk H; clear H
  go_enter Try.func38, Try.ntmps38
  go_wp2_with (first | ((with_reducible refine Qf (N := 1) rfl ?_); refine zBx (N := 1) #[.int .i64 aH, .string aI] 25 ?_; intro aT hg w4 hbox hb; have aA := Qa.mk (hbox); have dC := zS hg; have aC := zS hg; replace HB := zX hb; clear hb hbox hg) | ((with_reducible refine Qf (N := 9) rfl ?_); refine Kd.S_lit (Kd.slice 3 (Kd.int .i64)) _ 27 ?hg (N := 9) ?hd (xs := ([] : List (List Int))) (inner := []) (ok := fun _ => True) (okp := fun _ => True) ?hr ?hp (fun _ hk => hk) trivial (Below.refl _ _) (Nat.le_refl _) (by simp) ?_; (case hd => rfl); (case hg => rfl); (case hr => first | (go_simp; done) | (go_simp; rfl)); (case hp => exact (Xb.none _ _)); intro fK w5 dD hb hg_ hnew_; clear hg_ hnew_; (first | rw [← bE.out] at dD | (simp only [Int.reduceToNat] at dD; rw [← bE.out] at dD)); have aQ := Qa.mk (Kd.S_lower dD (Ql (zG aC.out))); replace aA := zV aA.out hb; replace HB := zX1 aC.out hb; clear hb dD; obtain ⟨aU, aV, aW, aX⟩ := zq2 aA.out) | ((with_reducible refine Qb (f := 24) rfl ?_); refine zD (some 11) Try.func24 _ ((Jb.calls k aH aI true _ A2.out).mono ?_); rintro e w8 ⟨rfl, hb⟩; refine ⟨_, rfl, ?_⟩; replace aQ := Qa.mk (Kd.S_below (zT aQ.out) hb); replace aA := zV aA.out hb; replace HB := zX1 aC.out hb; (try clear hb)))
  go_loopg [3, 4] k (fun kq v3 v4 w' => ∃ (bU : List (List Int)) (aJ : Int), v4 = .int .i64 aJ ∧ Qa (Qy.l0 kq bU aJ aH aI = some r) ∧ Qa (kq ≤ k) ∧ Qa (Kd.S (Kd.slice 3 (Kd.int .i64)) 27 w' w.heap.size (fun _ => True) v3 bU) ∧ Qa (w'.heap[aT]? = some (.cells #[.int .i64 aH, .string aI] 25 (0, 0))) ∧ Qa (Below w.heap.size w w'))
  case atStart => exact ⟨(fI), (0), zF, H', ⟨Nat.le_refl _⟩, ⟨zT aQ.out⟩, ⟨zK aA.out⟩, ⟨zG aC.out⟩⟩
  case round =>
  clear H'
  try clear c3
  try clear aU
  try clear aV
  try clear aW
  try clear aX
  obtain ⟨bU, aJ, rfl, HA, bS, aD, aA, HB⟩ := hrel
  cases gk with
  | zero => exact absurd HA.out (by simp [Qy.l0])
  | succ k1 =>
  have H := HA.out
  clear HA
  simp only [Qy.l0] at H
  replace H := Z5 H
  rcases H with ⟨bV, H⟩ | ⟨bV, H⟩
  ·have H' := Qa.mk H; clear H
   obtain ⟨aY, aZ, bA, bB⟩ := zq2 aA.out
   go_wp2
   go_loopg [3, 5] k1 (fun kq v3 v5 w' => ∃ (bM : List (List Int)) (aK : Int), v5 = .int .i64 aK ∧ Qa (Qy.l1 kq bM aJ aK aH aI = some r) ∧ Qa (kq ≤ k1) ∧ Qa (Kd.S (Kd.slice 3 (Kd.int .i64)) 27 w' w.heap.size (fun _ => True) v3 bM) ∧ Qa (w'.heap[aT]? = some (.cells #[.int .i64 aH, .string aI] 25 (0, 0))) ∧ Qa (Below w.heap.size w w'))
   case atStart => exact ⟨(bU), (wrap64 (aJ + 1)), zF, H', ⟨Nat.le_refl _⟩, ⟨zT aD.out⟩, ⟨zK aA.out⟩, ⟨zG aC.out⟩⟩
   case round =>
   clear H'
   try clear c3
   try clear c9
   try clear bV
   try clear aY
   try clear aZ
   try clear aU
   try clear aV
   try clear bA
   try clear bB
   try clear aW
   try clear aX
   obtain ⟨bM, aK, rfl, HA, bT, aD, aA, HB⟩ := hrel
   cases gk with
   | zero => exact absurd HA.out (by simp [Qy.l1])
   | succ k2 =>
   have H := HA.out
   clear HA
   simp only [Qy.l1] at H
   replace H := Z5 H
   rcases H with ⟨bN, H⟩ | ⟨bN, H⟩
   ·have H' := Qa.mk H; clear H
    obtain ⟨bF, bG, bH, bI⟩ := zq2 aA.out
    go_wp2
    go_loopg [3, 6] k2 (fun kq v3 v6 w' => ∃ (bO : List (List Int)) (aM : Int), v6 = .int .i64 aM ∧ Qa (Qy.l2 kq bO aJ aK aM aH aI = some r) ∧ Qa (kq ≤ k2) ∧ Qa (Kd.S (Kd.slice 3 (Kd.int .i64)) 27 w' w.heap.size (fun _ => True) v3 bO) ∧ Qa (w'.heap[aT]? = some (.cells #[.int .i64 aH, .string aI] 25 (0, 0))) ∧ Qa (Below w.heap.size w w'))
    case atStart => exact ⟨(bM), (wrap64 (aK + 1)), zF, H', ⟨Nat.le_refl _⟩, ⟨zT aD.out⟩, ⟨zK aA.out⟩, ⟨zG aC.out⟩⟩
    case round =>
    clear H'
    try clear c3
    try clear c9
    try clear bV
    try clear c11
    try clear bN
    try clear aY
    try clear aZ
    try clear bF
    try clear bG
    try clear aU
    try clear aV
    try clear bA
    try clear bB
    try clear bH
    try clear bI
    try clear aW
    try clear aX
    obtain ⟨bO, aM, rfl, HA, cB, aD, aA, HB⟩ := hrel
    cases gk with
    | zero => exact absurd HA.out (by simp [Qy.l2])
    | succ k3 =>
    have H := HA.out
    clear HA
    simp only [Qy.l2] at H
    replace H := Z5 H
    rcases H with ⟨cK, H⟩ | ⟨cK, H⟩
    ·have H' := Qa.mk H; clear H
     obtain ⟨bW, bX, bY, bZ⟩ := zq2 aA.out
     go_wp2
     go_loopg [3, 7] k3 (fun kq v3 v7 w' => ∃ (bD : List (List Int)) (aN : Int), v7 = .int .i64 aN ∧ Qa (Qy.l3 kq bD aJ aK aM aN aH aI = some r) ∧ Qa (kq ≤ k3) ∧ Qa (Kd.S (Kd.slice 3 (Kd.int .i64)) 27 w' w.heap.size (fun _ => True) v3 bD) ∧ Qa (w'.heap[aT]? = some (.cells #[.int .i64 aH, .string aI] 25 (0, 0))) ∧ Qa (Below w.heap.size w w'))
     case atStart => exact ⟨(bO), (wrap64 (aM + 1)), zF, H', ⟨Nat.le_refl _⟩, ⟨zT aD.out⟩, ⟨zK aA.out⟩, ⟨zG aC.out⟩⟩
     case round =>
     clear H'
     try clear c3
     try clear c9
     try clear bV
     try clear c11
     try clear bN
     try clear c13
     try clear cK
     try clear aY
     try clear aZ
     try clear bF
     try clear bG
     try clear bW
     try clear bX
     try clear aU
     try clear aV
     try clear bA
     try clear bB
     try clear bH
     try clear bI
     try clear bY
     try clear bZ
     try clear aW
     try clear aX
     obtain ⟨bD, aN, rfl, HA, dB, aD, aA, HB⟩ := hrel
     cases gk with
     | zero => exact absurd HA.out (by simp [Qy.l3])
     | succ k4 =>
     have H := HA.out
     clear HA
     simp only [Qy.l3] at H
     replace H := Z5 H
     rcases H with ⟨dE, H⟩ | ⟨dE, H⟩
     ·obtain ⟨bC, bJ, H⟩ := zs H
      obtain ⟨dF, fZ, H⟩ := zO H
      replace H := Z5 H
      rcases H with ⟨dG, H⟩ | ⟨dG, H⟩
      ·replace H := Vt H
       rcases H with ⟨c18, H⟩ | ⟨c18, H⟩
       ·have dH := Qa.mk c18
        clear c18
        generalize cO : (bD ++ [bC] : List (List Int)) = fM at H
        have dI := Qa.mk cO.symm
        clear cO
        have H' := Qa.mk H; clear H
        obtain ⟨dK, dL, dM, dN⟩ := zq2 aA.out
        go_wp2_with (first | ((with_reducible refine Qf (N := 48) rfl ?_); refine Kd.R_lit (Kd.int .i64) _ 3 ?hg (N := 48) ?hd (xs := ([aJ, aK, aM, aN] : List Int)) (inner := [.int .i64 aJ, .int .i64 aK, .int .i64 aM, .int .i64 aN]) (ok := fun _ => True) (okp := fun _ => True) ?hr ?hp (fun _ hk => hk) trivial (Below.refl _ _) (Nat.le_refl _) (by simp) ?_; (case hd => rfl); (case hg => rfl); (case hr => first | (go_simp; done) | (go_simp; rfl)); (case hp => exact (Xb.one (show Kd.M (Kd.int .i64) _ _ _ aJ [.int .i64 aJ] from rfl) (Xb.one (show Kd.M (Kd.int .i64) _ _ _ aK [.int .i64 aK] from rfl) (Xb.one (show Kd.M (Kd.int .i64) _ _ _ aM [.int .i64 aM] from rfl) (Xb.one (show Kd.M (Kd.int .i64) _ _ _ aN [.int .i64 aN] from rfl) (Xb.none _ _)))))); intro fO gF bK hb hg_ hnew_; clear hg_ hnew_; (first | rw [← bJ.out] at bK | (simp only [Int.reduceToNat] at bK; rw [← bJ.out] at bK)); replace aD := Qa.mk (Kd.S_elder' (zT aD.out) (Kd.R_base bK) hb); have aG := Qa.mk (Kd.R_lower bK (Ql (zG aC.out))); replace aA := zV aA.out hb; replace HB := zX1 aC.out hb; clear hb bK; obtain ⟨dO, dP, dQ, dR⟩ := zq2 aA.out; obtain ⟨cZ, dA, fP⟩ := Kd.R_slice aG.out; subst fP) | ((with_reducible refine Qb (f := 114) rfl ?_); refine zD (some 51) Try.func114 #[.agg #[.int .i64 aH, .string aI], .slice cZ bC.length dA] ((Yf.calls k4 aH aI _ _ bC dF _ ?bP ?bQ fZ.out).mono ?_); (case bP => exact zc ((Kd.R_reads' aG.out).2.2)); (case bQ => exact (Kd.R_reads' aG.out).2.1); rintro e gG ⟨rfl, hb⟩; refine ⟨_, rfl, ?_⟩; replace aD := Qa.mk (Kd.S_below (zT aD.out) hb); replace aG := zW aG.out hb; replace aA := zV aA.out hb; replace HB := zX1 aC.out hb; (try clear hb)) | ((with_reducible refine Z9 (b := .append) (xs := #[.tmp 53, .tmp 55]) rfl ?_); at_builtin; refine Kd.S_append (Kd.slice 3 (Kd.int .i64)) (w0 := w) w.heap.size rfl (.tmp 53) (.tmp 55) 44 27 (.slice none 0 0) 24 rfl Try.underlying44 jFo rfl (by decide) (by omega) u3 bD bC [.slice cZ bC.length dA] (fun _ => True) (fun k_ => some k_ = (.slice cZ bC.length dA : Value).ownBlock) rfl rfl ?aP (fun k_ hk_ => ((Kd.R_mono (ok' := fun k_ => ((fun _ => True)) k_ ∧ some k_ ≠ (u3 : Value).ownBlock) (Kd.R_apart' (aG.out) (Kd.S_typed aD.out) (by decide)) (fun k_ hk => ⟨trivial, hk.2⟩))).1 k_ hk_.symm) ?aF ?aO ?aB ?aS ?aL ?_; (case aP => exact Kd.M_row (Kd.R_mono (Kd.R_tight rfl (Kd.R_mono (ok' := fun k_ => ((fun _ => True)) k_ ∧ some k_ ≠ (u3 : Value).ownBlock) (Kd.R_apart' (aG.out) (Kd.S_typed aD.out) (by decide)) (fun k_ hk => ⟨trivial, hk.2⟩))) (fun _ h_ => h_))); (case aB => exact (zG aC.out)); (case aF => exact (fun _ _ => trivial)); (case aO => exact (by (with_reducible repeat (first | apply Kd.S_alloc | apply Kd.S_drewN | apply Kd.S_drew)); exact Kd.S_mono aD.out (fun k_ hk => ⟨trivial, fun e_ => hk.2 e_⟩))); (case aS => exact (Ql (zG aC.out))); (case aL => have := dH.out; omega); intro gD gH ho hb hg hat; rw [← dI.out] at ho; replace aA := Qa.mk (Yh (g := aT) (o := .cells #[.int .i64 aH, .string aI] 25 (0, 0)) (zK aA.out) hg (Kd.S_ne aD.out aA.out (by decide))); have dJ := Qa.mk (ho); replace HB := Qa.mk (hb); clear aD aG; clear ho hb hg hat))
        go_roundg k4
        case measure => have := bS.out; have := bT.out; have := cB.out; have := dB.out; omega
        case rel => exact ⟨(fM), (wrap64 (aN + 1)), zF, H', ⟨by have := bS.out; have := bT.out; have := cB.out; have := dB.out; omega⟩, ⟨zT dJ.out⟩, ⟨zK aA.out⟩, ⟨zG aC.out⟩⟩
       exact absurd H (by simp)
      have H' := Qa.mk H; clear H
      obtain ⟨dS, dU, dV, dW⟩ := zq2 aA.out
      go_wp2_with (first | ((with_reducible refine Qf (N := 48) rfl ?_); refine Kd.R_lit (Kd.int .i64) _ 3 ?hg (N := 48) ?hd (xs := ([aJ, aK, aM, aN] : List Int)) (inner := [.int .i64 aJ, .int .i64 aK, .int .i64 aM, .int .i64 aN]) (ok := fun _ => True) (okp := fun _ => True) ?hr ?hp (fun _ hk => hk) trivial (Below.refl _ _) (Nat.le_refl _) (by simp) ?_; (case hd => rfl); (case hg => rfl); (case hr => first | (go_simp; done) | (go_simp; rfl)); (case hp => exact (Xb.one (show Kd.M (Kd.int .i64) _ _ _ aJ [.int .i64 aJ] from rfl) (Xb.one (show Kd.M (Kd.int .i64) _ _ _ aK [.int .i64 aK] from rfl) (Xb.one (show Kd.M (Kd.int .i64) _ _ _ aM [.int .i64 aM] from rfl) (Xb.one (show Kd.M (Kd.int .i64) _ _ _ aN [.int .i64 aN] from rfl) (Xb.none _ _)))))); intro fO gJ bL hb hg_ hnew_; clear hg_ hnew_; (first | rw [← bJ.out] at bL | (simp only [Int.reduceToNat] at bL; rw [← bJ.out] at bL)); replace aD := Qa.mk (Kd.S_elder' (zT aD.out) (Kd.R_base bL) hb); have aG := Qa.mk (Kd.R_lower bL (Ql (zG aC.out))); replace aA := zV aA.out hb; replace HB := zX1 aC.out hb; clear hb bL; obtain ⟨dX, dY, dZ, eB⟩ := zq2 aA.out; obtain ⟨fQ, fT, fU⟩ := Kd.R_slice aG.out; subst fU) | ((with_reducible refine Qb (f := 114) rfl ?_); refine zD (some 51) Try.func114 #[.agg #[.int .i64 aH, .string aI], .slice fQ bC.length fT] ((Yf.calls k4 aH aI _ _ bC dF _ ?bP ?bQ fZ.out).mono ?_); (case bP => exact zc ((Kd.R_reads' aG.out).2.2)); (case bQ => exact (Kd.R_reads' aG.out).2.1); rintro e gK ⟨rfl, hb⟩; refine ⟨_, rfl, ?_⟩; replace aD := Qa.mk (Kd.S_below (zT aD.out) hb); replace aG := zW aG.out hb; replace aA := zV aA.out hb; replace HB := zX1 aC.out hb; (try clear hb)))
      go_roundg k4
      case measure => have := bS.out; have := bT.out; have := cB.out; have := dB.out; omega
      case rel => exact ⟨(bD), (wrap64 (aN + 1)), zF, H', ⟨by have := bS.out; have := bT.out; have := cB.out; have := dB.out; omega⟩, ⟨zT (Kd.S_mono aD.out (fun _ hk => trivial))⟩, ⟨zK aA.out⟩, ⟨zG aC.out⟩⟩
     have H' := Qa.mk H; clear H
     obtain ⟨eD, eF, eG, eH⟩ := zq2 aA.out
     go_wp2
     go_roundg k4
     case measure => have := bS.out; have := bT.out; have := cB.out; have := dB.out; omega
     case rel => exact ⟨(bD), (wrap64 (aM + 1)), zF, H', ⟨by have := bS.out; have := bT.out; have := cB.out; have := dB.out; omega⟩, ⟨zT aD.out⟩, ⟨zK aA.out⟩, ⟨zG aC.out⟩⟩
    have H' := Qa.mk H; clear H
    obtain ⟨eO, eP, eQ, eT⟩ := zq2 aA.out
    go_wp2
    go_roundg k3
    case measure => have := bS.out; have := bT.out; have := cB.out; omega
    case rel => exact ⟨(bO), (wrap64 (aK + 1)), zF, H', ⟨by have := bS.out; have := bT.out; have := cB.out; omega⟩, ⟨zT aD.out⟩, ⟨zK aA.out⟩, ⟨zG aC.out⟩⟩
   have H' := Qa.mk H; clear H
   obtain ⟨eU, eX, eY, eZ⟩ := zq2 aA.out
   go_wp2
   go_roundg k2
   case measure => have := bS.out; have := bT.out; omega
   case rel => exact ⟨(bM), (wrap64 (aJ + 1)), zF, H', ⟨by have := bS.out; have := bT.out; omega⟩, ⟨zT aD.out⟩, ⟨zK aA.out⟩, ⟨zG aC.out⟩⟩
  obtain rfl := Option.some.inj H
  obtain ⟨fA, fB, fC, fD⟩ := zq2 aA.out
  go_wp2
  go_ret
  exact ⟨_, zE, zT aD.out, zG aC.out⟩
 replace c3 := Bool.eq_false_iff.mpr c3
 subst c3
 replace H := (if_neg zFf).symm.trans H
 obtain rfl := Option.some.inj H
 go_enter Try.func38, Try.ntmps38
 go_wp2_with (first | ((with_reducible refine Qf (N := 1) rfl ?_); refine zBx (N := 1) #[.int .i64 aH, .string aI] 25 ?_; intro aT hg gL hbox hb; have aA := Qa.mk (hbox); have dC := zS hg; have aC := zS hg; replace HB := zX hb; clear hb hbox hg) | ((with_reducible refine Qf (N := 9) rfl ?_); refine Kd.S_lit (Kd.slice 3 (Kd.int .i64)) _ 27 ?hg (N := 9) ?hd (xs := ([] : List (List Int))) (inner := []) (ok := fun _ => True) (okp := fun _ => True) ?hr ?hp (fun _ hk => hk) trivial (Below.refl _ _) (Nat.le_refl _) (by simp) ?_; (case hd => rfl); (case hg => rfl); (case hr => first | (go_simp; done) | (go_simp; rfl)); (case hp => exact (Xb.none _ _)); intro fK gM bR hb hg_ hnew_; clear hg_ hnew_; (first | rw [← bE.out] at bR | (simp only [Int.reduceToNat] at bR; rw [← bE.out] at bR)); have aQ := Qa.mk (Kd.S_lower bR (Ql (zG aC.out))); replace aA := zV aA.out hb; replace HB := zX1 aC.out hb; clear hb bR; obtain ⟨fE, fF, fG, fH⟩ := zq2 aA.out) | ((with_reducible refine Qb (f := 24) rfl ?_); refine zD (some 11) Try.func24 _ ((Jb.calls k aH aI false _ A2.out).mono ?_); rintro e gN ⟨rfl, hb⟩; refine ⟨_, rfl, ?_⟩; replace aQ := Qa.mk (Kd.S_below (zT aQ.out) hb); replace aA := zV aA.out hb; replace HB := zX1 aC.out hb; (try clear hb)))
 go_ret
 exact ⟨_, zE, zT aQ.out, zG aC.out⟩
def Yr.f (k : Nat) (aA : Int) (aC : ByteArray) : Option (Int) := (Jb.f k aA aC).bind fun aD => (if aD = true then ((Qy.f k aA aC).bind fun aG => (some (aG.length : Int))) else (some (-1)))
set_option maxHeartbeats 8000000 in
set_option maxRecDepth 100000 in
theorem Yr.calls (k : Nat) (aD : Int) (aG : ByteArray) (r : Int) (w : World) (h : Yr.f k aD aG = some r) :
  Calls Try.prog 40 #[.agg #[.int .i64 aD, .string aG]] w fun e w' => e = .returned (.int .i64 r) ∧ Below w.heap.size w w' := by
 have bE := Try.underlying25
 have HB := Qa.mk (Below.refl w.heap.size w)
 have H := h
 unfold Yr.f at H
 clear h
 obtain ⟨aT, A2, H⟩ := zO H
 by_cases c3 : aT = true
 ·subst c3
  replace H := (if_pos rfl).symm.trans H
  obtain ⟨aU, A4, H⟩ := zO H
  obtain rfl := Option.some.inj H
  go_enter Try.func40, Try.ntmps40
  go_wp2_with (first | ((with_reducible refine Qf (N := 1) rfl ?_); refine zBx (N := 1) #[.int .i64 aD, .string aG] 25 ?_; intro aH hg w5 hbox hb; have aA := Qa.mk (hbox); have aI := zS hg; have aC := zS hg; replace HB := zX hb; clear hb hbox hg; obtain ⟨aV, aW, aX, aY⟩ := zq2 aA.out) | ((with_reducible refine Qb (f := 24) rfl ?_); refine zD (some 4) Try.func24 _ ((Jb.calls k aD aG true _ A2.out).mono ?_); rintro e w7 ⟨rfl, hb⟩; refine ⟨_, rfl, ?_⟩; replace aA := zV aA.out hb; replace HB := zX1 aC.out hb; (try clear hb); obtain ⟨aZ, bA, bB, bC⟩ := zq2 aA.out) | ((with_reducible refine Qb (f := 38) rfl ?_); refine zD (some 7) Try.func38 _ ((Qy.calls k aD aG aU _ A4.out).mono ?_); rintro e w9 ⟨bF, rfl, ho0, hb⟩; refine ⟨_, rfl, ?_⟩; have aJ := Qa.mk (Kd.S_lower ho0 (Ql (zG aC.out))); replace aA := zV aA.out hb; replace HB := zX1 aC.out hb; (try clear hb); (try clear ho0); obtain ⟨bG, bH, bD⟩ := Kd.S_slice aJ.out; subst bD))
  go_ret
  exact ⟨zE, zG aC.out⟩
 replace c3 := Bool.eq_false_iff.mpr c3
 subst c3
 replace H := (if_neg zFf).symm.trans H
 obtain rfl := Option.some.inj H
 go_enter Try.func40, Try.ntmps40
 go_wp2_with (first | ((with_reducible refine Qf (N := 1) rfl ?_); refine zBx (N := 1) #[.int .i64 aD, .string aG] 25 ?_; intro aH hg bI hbox hb; have aA := Qa.mk (hbox); have aI := zS hg; have aC := zS hg; replace HB := zX hb; clear hb hbox hg; obtain ⟨aK, aM, aN, aQ⟩ := zq2 aA.out) | ((with_reducible refine Qb (f := 24) rfl ?_); refine zD (some 4) Try.func24 _ ((Jb.calls k aD aG false _ A2.out).mono ?_); rintro e bJ ⟨rfl, hb⟩; refine ⟨_, rfl, ?_⟩; replace aA := zV aA.out hb; replace HB := zX1 aC.out hb; (try clear hb)))
 go_ret
 exact ⟨zE, zG aC.out⟩
end Go.Proofs.Ytckkfjdkaimmhaa.PX
