/- A part of proofs about signs and points: what some functions answer, and that their calls answer so. No condition. -/
import Derived.Test.YtckkfjdkaimmhaaProg
import Derived.Test.YtckkfjdkaimmhaaV1
import Derived.Test.YtckkfjdkaimmhaaBkagmrh1
import Derived.Test.YtckkfjdkaimmhaaBkagmrh2
set_option linter.unusedVariables false
set_option linter.unusedSimpArgs false
namespace Go.Proofs.Ytckkfjdkaimmhaa.PX
open Go.RowKit Go.Proofs.Ytckkfjdkaimmhaa.G Go.Proofs.YtckkfjdkaimmhaaW.PrintWords Go.Proofs.YtckkfjdkaimmhaaW.PrintLast Go.Proofs.YtckkfjdkaimmhaaW.PrintMore
attribute [local go_sem] max2_int min2_int max_two min_two max_three min_three max_four min_four   -- for this text's walks alone
set_option linter.unusedVariables false
set_option linter.unusedSimpArgs false
/-! ### spec_DrawHullOf: function 48 -/
def spec_DrawHullOf.f (k : Nat) (l0 : List Int) : Option (Int × ByteArray) := (spec_l1New.f k l0).bind fun bt981 => ((spec_l5Draw.f k bt981.1 bt981.2.1 bt981.2.2).bind fun bt985 => (some (bt985.1, bt985.2.1)))
theorem zl101_0 {p q p0 : Prop} (g : p) (g0 : p0) (h : p → p0 → q := by intro zg_ z0_; repeat (first | (with_reducible first | exact zg_ | apply below_alloc | apply pw_below_drewN | apply below_drew1 | refine below_set ?_ z0_) | exact zg_)) : q := h g g0
theorem zl101_1 {p q p0 : Prop} (g : p) (g0 : p0) (h : p → p0 → q := by intro zg_ z0_; repeat (first | (with_reducible first | exact zg_ | apply IsS110.alloc | apply IsS110.drewN | apply IsS110.drew | apply IsS110.set_1 | apply IsS110.set_2 | refine IsS110.far ?_ z0_ _) | exact zg_)) : q := h g g0
theorem zl101_2 {p q p0 p1 : Prop} (g : p) (g0 : p0) (g1 : p1) (h : p → p0 → p1 → q := by intro zg_ z0_ z1_; repeat (first | (with_reducible first | exact zg_ | apply below_alloc | apply pw_below_drewN | apply below_drew1 | refine below_set ?_ z0_ | refine below_set ?_ z1_) | exact zg_)) : q := h g g0 g1
set_option maxHeartbeats 8000000 in
set_option maxRecDepth 100000 in
theorem spec_DrawHullOf.calls (k : Nat) (A0 : Option Addr) (c0 : Nat) (l0 : List Int) (r1 : Int) (r2 : ByteArray) (w : World) (hr0 : Kd.C (Kd.int .u8) w A0 l0.length l0) (hc0 : l0.length ≤ c0) (h : spec_DrawHullOf.f k l0 = some (r1, r2)) :
  Calls Try.prog 48 #[.slice A0 l0.length c0] w fun e w' => e = .returned (.agg #[.int .i64 r1, .string r2]) ∧ Below w.heap.size w w' := by
 have hu25 := Try.underlying25
 have HR0 := Aside0.mk hr0
 have HC0 := Aside0.mk hc0
 clear hr0 hc0
 have HB := Aside0.mk (Below.refl w.heap.size w)
 have H : ((spec_l1New.f k l0).bind fun bt981 => ((spec_l5Draw.f k bt981.1 bt981.2.1 bt981.2.2).bind fun bt985 => (some (bt985.1, bt985.2.1)))) = some (r1, r2) := h
 clear h
 obtain ⟨⟨t981, t982, t983⟩, A2, H⟩ := zO H
 dsimp only at H
 obtain ⟨⟨t985, t986, t987, t988⟩, A3, H⟩ := zO H
 replace H : (some (t985, t986)) = some (r1, r2) := H
 simp only [Option.some.injEq, Prod.mk.injEq] at H
 obtain ⟨rfl, rfl⟩ := H
 go_enter Try.func48, Try.ntmps48
 go_wp2_with (first | ((with_reducible refine gate_dst (N := 2) rfl ?_); refine zBx (N := 2) #[.int .i64 0, .string (⟨#[]⟩ : ByteArray)] 25 ?_; intro gb980 hg w4 hbox hb; have BK980 := Aside0.mk (hbox); have GW980 := zS hg; have GE980 := zS hg; replace HB := zX hb; clear hb hbox hg) | ((with_reducible refine gate_callee (f := 81) rfl ?_); refine zD (some 4) Try.func81 #[.slice A0 l0.length c0] ?_; (with_reducible refine (spec_l1New.calls k _ _ l0 t981 t982 t983 w _ ?side1 ?side2 ?side3 A2.out).mono ?_); (case side1 => exact (zl101_0 HB.out GE980.out)); (case side2 => exact HR0.out); (case side3 => exact HC0.out); rintro e w5 ⟨g984, rfl, hi, hb, hb2⟩; refine ⟨_, rfl, ?_⟩; have HI984 := Aside0.mk (hi); have NB984_980 := Aside0.mk (IsS110.ne_blk hi (blk_below (g := gb980) (o := .cells #[.int .i64 0, .string (⟨#[]⟩ : ByteArray)] 25 (0, 0)) (zK BK980.out) hb2) (by decide)); have NB980_984 := Aside0.mk (Ne.symm (IsS110.ne_blk hi (blk_below (g := gb980) (o := .cells #[.int .i64 0, .string (⟨#[]⟩ : ByteArray)] 25 (0, 0)) (zK BK980.out) hb2) (by decide))); replace BK980 := Aside0.mk (blk_below (g := gb980) (o := .cells #[.int .i64 0, .string (⟨#[]⟩ : ByteArray)] 25 (0, 0)) (zK BK980.out) hb2); replace HB := Aside0.mk (hb); (try clear hb); (try clear hb2); (try clear hi)) | ((with_reducible refine gate_callee (f := 109) rfl ?_); refine zD (some 5) Try.func109 #[.pointer (some ⟨g984, 0, none⟩)] ?_; (with_reducible refine (spec_l5Draw.calls k g984 t981 t982 t983 t985 t986 t987 t988 w _ ?side1 ?side2 A3.out).mono ?_); (case side1 => exact (zl101_1 HI984.out NB984_980.out)); (case side2 => exact (zl101_2 HB.out (IsS110.ge HI984.out) GE980.out)); rintro e w6 ⟨rfl, hi, hb, hk⟩; refine ⟨_, rfl, ?_⟩; replace BK980 := zKB hk BK980.out NB980_984.out; replace HI984 := Aside0.mk (hi); replace HB := Aside0.mk (hb); (try clear hb); (try clear hk); (try clear hi); have hnb7 := NB980_984.out; have hnc7 := NB984_980.out; obtain ⟨hcz8_0, hcz8_1, hfz8_0, hfz8_1⟩ := zq2 BK980.out))
 refine bodyPost_ret (results_cell_row rfl _ _ gb980 25 #[.int .i64 t985, .string t986] (0, 0) _ rfl (zk0 BK980.out) Try.underlying25 rfl (by kernel_rfl)) rfl ?_
 exact ⟨zE, zG2 (IsS110.ge HI984.out) GE980.out⟩
/-! ### impl_fullSet: function 121 -/
def impl_fullSet.f (a0 : Int) : Option (Int) := if 0 ≤ a0 then (some (wrap64 ((shl .i64 1 a0) - 1))) else (none)
set_option maxHeartbeats 8000000 in
set_option maxRecDepth 100000 in
theorem impl_fullSet.calls (a0 : Int) (r : Int) (w : World) (h : impl_fullSet.f a0 = some r) :
  Calls Try.prog 121 #[.int .i64 a0] w fun e w' => e = .returned (.int .i64 r) ∧ Drawn0 w w' := by
 have H : (if 0 ≤ a0 then (some (wrap64 ((shl .i64 1 a0) - 1))) else (none)) = some r := h
 clear h
 by_cases c2 : 0 ≤ a0
 ·rw [if_pos c2] at H
  have c2b0 := eq_true c2
  have c2b1 := decide_eq_true c2
  clear c2
  obtain ⟨ji3, hji3⟩ : ∃ j_ : Int, (shl .i64 1 a0) = j_ := ⟨_, rfl⟩
  replace H : (some (wrap64 ((ji3) - 1))) = some r := by first | (rw [hji3] at H; exact H) | (simp only [hji3] at H ⊢; exact H)
  have hji3_ : (IntKind.i64.wrap (1 * 2 ^ min a0.toNat 64)) = ji3 := hji3
  have hji3z : a0 ≤ 64 → (IntKind.i64.wrap (1 * 2 ^ a0.toNat)) = ji3 := shl_small hji3
  have hji3u : (IntKind.i64.wrap (2 ^ min a0.toNat 64)) = ji3 := by have h_ := hji3_; rw [Int.one_mul] at h_; exact h_
  have hji3v : a0 ≤ 64 → (IntKind.i64.wrap (2 ^ a0.toNat)) = ji3 := fun hle_ => by have h_ := hji3z hle_; rw [Int.one_mul] at h_; exact h_
  have hji3y : (wrap64 (1 * 2 ^ min a0.toNat 64)) = ji3 := (i64_w _).symm.trans hji3_
  have hji3x : a0 ≤ 64 → (wrap64 (1 * 2 ^ a0.toNat)) = ji3 := fun h_ => (i64_w _).symm.trans (hji3z h_)
  obtain rfl := Option.some.inj H
  go_enter Try.func121, Try.ntmps121
  go_wp2
  go_ret
  exact ⟨by first | rfl | (simp; done) | (simp only [← hji3] <;> (first | rfl | simp)) | (simp [*]; done), by repeat (first | exact Drawn0.refl _ | apply Drawn0.step)⟩
 rw [if_neg c2] at H
 exact absurd H (by simp)
/-! ### impl_chi_circuit: function 96 -/
def impl_chi_circuit.l0 : Nat → List Int → List Int → Int → Int → Option (ByteArray)
 | 0, _, _, _, _ => none
 | k + 1, x11, x56, x57, x58 => if x58 < x57 then (if 0 ≤ x58 then (if x58 < (x56.length : Int) then (if (rd x56 x58) > 0 then (if x11.length < 140737488355328 then (impl_chi_circuit.l0 k (x11 ++ [43]) x56 x57 (wrap64 (x58 + 1))) else (none)) else (if x11.length < 140737488355328 then (impl_chi_circuit.l0 k (x11 ++ [45]) x56 x57 (wrap64 (x58 + 1))) else (none))) else (none)) else (none)) else (if 0 < (x11.length : Int) then (if (rd x11 0) = 45 then ((impl_opposite.f (strOfNums x11)).bind fun t457 => (some t457)) else (some (strOfNums x11))) else (none))
def impl_chi_circuit.f (k : Nat) (l0 : List Int) (a1 : Int) (a2 : Int) (a3 : Int) (a4 : Int) : Option (ByteArray) := if 0 ≤ a2 then (if a2 < 7 then (if 0 ≤ a3 then (if a3 < 7 then (if 0 ≤ a4 then (if a4 < 7 then (if 0 ≤ a1 then (if a1 < 7 then ((some (([rd3 l0 a2 a3 a4, wrap64 (-(rd3 l0 a1 a3 a4)), rd3 l0 a1 a2 a4, wrap64 (-(rd3 l0 a1 a2 a3))] : List Int) : List Int)).bind fun y446 => (impl_chi_circuit.l0 k ([] : List Int) y446 (y446.length : Int) 0)) else (none)) else (none)) else (none)) else (none)) else (none)) else (none)) else (none)) else (none)
theorem impl_chi_circuit.mono_l : ∀ k, (∀ y0 y1 y2 y3, LeO (impl_chi_circuit.l0 k y0 y1 y2 y3) (impl_chi_circuit.l0 (k + 1) y0 y1 y2 y3))
 | 0 => fun _ _ _ _ r h => by simp [impl_chi_circuit.l0] at h
 | k + 1 => by
  have ih0 := impl_chi_circuit.mono_l k
  ·intro y0 y1 y2 y3
   unfold impl_chi_circuit.l0
   repeat' first
   | (with_reducible first | exact ih0 .. | exact LeO.refl _ | exact LeO.none _ | refine LeO.ite ?_ ?_ | refine LeO.bind ?_ (fun _ => ?_))
   | exact ih0 .. | exact LeO.none _ | refine LeO.ite ?_ ?_ | refine LeO.bind ?_ (fun _ => ?_)
def impl_chi_circuit.T2 : Bool × List (List Nat × List Nat) := (true, [([], []), ([], []), ([], []), ([], []), ([0], [0]), ([4], [4]), ([5, 1], [1, 5]), ([6, 2], [2, 6]), ([7, 3], [3, 7]), ([8], [8]), ([], []), ([], []), ([], []), ([], []), ([10], [10]), ([14], [14]), ([15, 11], [11, 15]), ([16, 12], [12, 16]), ([17, 13], [13, 17]), ([18], [18]), ([19], [19]), ([], []), ([], []), ([], []), ([], []), ([21], [21]), ([25], [25]), ([26, 22], [22, 26]), ([27, 23], [23, 27]), ([28, 24], [24, 28]), ([29], [29]), ([], []), ([], []), ([], []), ([], []), ([31], [31]), ([35], [35]), ([36, 32], [32, 36]), ([37, 33], [33, 37]), ([38, 34], [34, 38]), ([39], [39]), ([40], [40]), ([9, 20, 30, 41], [9, 20, 30, 41]), ([42], [42]), ([], [])])
def impl_chi_circuit.B2 : List Nat := [0, 0, 0, 0, 1, 17, 51, 119, 255, 511, 0, 0, 0, 0, 1024, 17408, 52224, 121856, 261120, 523264, 1047552, 0, 0, 0, 0, 2097152, 35651584, 106954752, 249561088, 534773760, 1071644672, 0, 0, 0, 0, 2147483648, 36507222016, 109521666048, 255550554112, 547608330240, 1097364144128, 2196875771904, 4398046511103, 8796093022207, 0]
theorem impl_chi_circuit.tab2 : rtab .any (opsOf Try.f96 2) = impl_chi_circuit.T2 := by kernel_rfl
theorem impl_chi_circuit.bits2 : waitsOk impl_chi_circuit.T2.2 impl_chi_circuit.B2 = true := by kernel_rfl
set_option maxHeartbeats 8000000 in
set_option maxRecDepth 100000 in
theorem impl_chi_circuit.calls (k : Nat) (g0 : Nat) (l0 : List Int) (a1 : Int) (a2 : Int) (a3 : Int) (a4 : Int) (r : ByteArray) (w : World) (hr0 : Kd.C (Kd.int .i64) w (some ⟨g0, 0, none⟩) l0.length l0) (hc0 : l0.length = 344) (h : impl_chi_circuit.f k l0 a1 a2 a3 a4 = some r) :
  Calls Try.prog 96 #[.pointer (some ⟨g0, 0, none⟩), .int .i64 a1, .int .i64 a2, .int .i64 a3, .int .i64 a4] w fun e w' => e = .returned (.string r) ∧ Below w.heap.size w w' := by
 have hu115 := Try.underlying115
 have hu113 := Try.underlying113
 have hu112 := Try.underlying112
 have hu111 := Try.underlying111
 have HR0 := Aside0.mk hr0
 have HC0 := Aside0.mk hc0
 clear hr0 hc0
 have HB := Aside0.mk (Below.refl w.heap.size w)
 have H : (if 0 ≤ a2 then (if a2 < 7 then (if 0 ≤ a3 then (if a3 < 7 then (if 0 ≤ a4 then (if a4 < 7 then (if 0 ≤ a1 then (if a1 < 7 then ((some (([rd3 l0 a2 a3 a4, wrap64 (-(rd3 l0 a1 a3 a4)), rd3 l0 a1 a2 a4, wrap64 (-(rd3 l0 a1 a2 a3))] : List Int) : List Int)).bind fun y446 => (impl_chi_circuit.l0 k ([] : List Int) y446 (y446.length : Int) 0)) else (none)) else (none)) else (none)) else (none)) else (none)) else (none)) else (none)) else (none)) = some r := h
 clear h
 by_cases c6 : 0 ≤ a2
 ·rw [if_pos c6] at H
  have c6b0 := decide_eq_true c6
  clear c6
  by_cases c7 : a2 < 7
  ·rw [if_pos c7] at H
   have c7b0 := decide_eq_true c7
   clear c7
   by_cases c8 : 0 ≤ a3
   ·rw [if_pos c8] at H
    have c8b0 := decide_eq_true c8
    clear c8
    by_cases c9 : a3 < 7
    ·rw [if_pos c9] at H
     have c9b0 := decide_eq_true c9
     clear c9
     by_cases c10 : 0 ≤ a4
     ·rw [if_pos c10] at H
      have c10b0 := decide_eq_true c10
      clear c10
      by_cases c11 : a4 < 7
      ·rw [if_pos c11] at H
       have c11b0 := decide_eq_true c11
       clear c11
       by_cases c12 : 0 ≤ a1
       ·rw [if_pos c12] at H
        have c12b0 := decide_eq_true c12
        clear c12
        by_cases c13 : a1 < 7
        ·rw [if_pos c13] at H
         have c13b0 := decide_eq_true c13
         clear c13
         obtain ⟨y446, hy446⟩ : ∃ y_ : List Int, y_ = (([rd3 l0 a2 a3 a4, wrap64 (-(rd3 l0 a1 a3 a4)), rd3 l0 a1 a2 a4, wrap64 (-(rd3 l0 a1 a2 a3))] : List Int)) := ⟨_, rfl⟩
         replace H : (impl_chi_circuit.l0 k ([] : List Int) y446 (y446.length : Int) 0) = some r := by first | (rw [hy446]; with_reducible exact H) | (have H2_ := (Option.bind_some _ _).symm.trans H; rw [hy446]; with_reducible exact H2_) | (have H2_ := (Option.bind_some _ _).symm.trans H; with_reducible exact H2_) | with_reducible exact H | (rw [hy446]; exact H) | exact H
         have Ny446 := Aside0.mk hy446
         clear hy446
         have H' := Aside0.mk H; clear H
         go_enter Try.func96, Try.ntmps96
         try go_wp2
         replace HB := Aside0.mk (below_drew1 HB.out)
         have pz442_0 : 0 ≤ (a2 : Int) := zA
         have pz442_1 : 0 ≤ (a3 : Int) := zA
         have pz442_2 : 0 ≤ (a4 : Int) := zA
         have qz442_0 : (a2 : Int) < 7 := zA
         have qz442_1 : (a3 : Int) < 7 := zA
         have qz442_2 : (a4 : Int) < 7 := zA
         have hL442 := HC0.out
         have dp442 : decide (0 ≤ ((1 + a2 * 49 + a3 * 7 + a4) : Int)) = true := decide_eq_true (by omega)
         have dq442 : decide ((1 + a2 * 49 + a3 * 7 + a4) < (l0.length : Int)) = true := decide_eq_true (by omega)
         clear hL442
         have p442 : 0 ≤ ((1 + a2 * 49 + a3 * 7 + a4) : Int) := zA
         have q442 : (1 + a2 * 49 + a3 * 7 + a4) < (l0.length : Int) := zA
         obtain ⟨ad442, e442, hx442_0⟩ := Kd.at_int HR0.out (1 + a2 * 49 + a3 * 7 + a4) p442 q442
         obtain rfl : (⟨g0, 0, none⟩ : Addr) = ad442 := (by injection e442)
         (first | simp only [add_plain] at hx442_0 | simp only [add_at] at hx442_0 | simp only [Addr.add, Nat.zero_add] at hx442_0 | skip)
         have hw442_0 := hx442_0
         replace hx442_0 := (HB.out.cell (World.block_lt_of_cell? w _ hx442_0)).trans hx442_0
         replace p442 := eq_true p442
         replace q442 := eq_true q442
         clear dp442 dq442
         clear p442 q442
         rw [show ((1 + a2 * 49 + a3 * 7 + a4) : Int).toNat = 1 + (a2).toNat * 49 + (a3).toNat * 7 + (a4).toNat from by omega] at hx442_0
         change _ = some (Value.int .i64 (rd3 l0 a2 a3 a4)) at hx442_0
         rw [show ((1 + a2 * 49 + a3 * 7 + a4) : Int).toNat = 1 + (a2).toNat * 49 + (a3).toNat * 7 + (a4).toNat from by omega] at hw442_0
         change _ = some (Value.int .i64 (rd3 l0 a2 a3 a4)) at hw442_0
         replace pz442_0 := eq_true pz442_0
         replace pz442_1 := eq_true pz442_1
         replace pz442_2 := eq_true pz442_2
         replace qz442_0 := eq_true qz442_0
         replace qz442_1 := eq_true qz442_1
         replace qz442_2 := eq_true qz442_2
         have pz443_0 : 0 ≤ (a1 : Int) := zA
         have pz443_1 : 0 ≤ (a3 : Int) := zA
         have pz443_2 : 0 ≤ (a4 : Int) := zA
         have qz443_0 : (a1 : Int) < 7 := zA
         have qz443_1 : (a3 : Int) < 7 := zA
         have qz443_2 : (a4 : Int) < 7 := zA
         have hL443 := HC0.out
         have dp443 : decide (0 ≤ ((1 + a1 * 49 + a3 * 7 + a4) : Int)) = true := decide_eq_true (by omega)
         have dq443 : decide ((1 + a1 * 49 + a3 * 7 + a4) < (l0.length : Int)) = true := decide_eq_true (by omega)
         clear hL443
         have p443 : 0 ≤ ((1 + a1 * 49 + a3 * 7 + a4) : Int) := zA
         have q443 : (1 + a1 * 49 + a3 * 7 + a4) < (l0.length : Int) := zA
         obtain ⟨ad443, e443, hx443_0⟩ := Kd.at_int HR0.out (1 + a1 * 49 + a3 * 7 + a4) p443 q443
         obtain rfl : (⟨g0, 0, none⟩ : Addr) = ad443 := (by injection e443)
         (first | simp only [add_plain] at hx443_0 | simp only [add_at] at hx443_0 | simp only [Addr.add, Nat.zero_add] at hx443_0 | skip)
         have hw443_0 := hx443_0
         replace hx443_0 := (HB.out.cell (World.block_lt_of_cell? w _ hx443_0)).trans hx443_0
         replace p443 := eq_true p443
         replace q443 := eq_true q443
         clear dp443 dq443
         clear p443 q443
         rw [show ((1 + a1 * 49 + a3 * 7 + a4) : Int).toNat = 1 + (a1).toNat * 49 + (a3).toNat * 7 + (a4).toNat from by omega] at hx443_0
         change _ = some (Value.int .i64 (rd3 l0 a1 a3 a4)) at hx443_0
         rw [show ((1 + a1 * 49 + a3 * 7 + a4) : Int).toNat = 1 + (a1).toNat * 49 + (a3).toNat * 7 + (a4).toNat from by omega] at hw443_0
         change _ = some (Value.int .i64 (rd3 l0 a1 a3 a4)) at hw443_0
         replace pz443_0 := eq_true pz443_0
         replace pz443_1 := eq_true pz443_1
         replace pz443_2 := eq_true pz443_2
         replace qz443_0 := eq_true qz443_0
         replace qz443_1 := eq_true qz443_1
         replace qz443_2 := eq_true qz443_2
         have pz444_0 : 0 ≤ (a1 : Int) := zA
         have pz444_1 : 0 ≤ (a2 : Int) := zA
         have pz444_2 : 0 ≤ (a4 : Int) := zA
         have qz444_0 : (a1 : Int) < 7 := zA
         have qz444_1 : (a2 : Int) < 7 := zA
         have qz444_2 : (a4 : Int) < 7 := zA
         have hL444 := HC0.out
         have dp444 : decide (0 ≤ ((1 + a1 * 49 + a2 * 7 + a4) : Int)) = true := decide_eq_true (by omega)
         have dq444 : decide ((1 + a1 * 49 + a2 * 7 + a4) < (l0.length : Int)) = true := decide_eq_true (by omega)
         clear hL444
         have p444 : 0 ≤ ((1 + a1 * 49 + a2 * 7 + a4) : Int) := zA
         have q444 : (1 + a1 * 49 + a2 * 7 + a4) < (l0.length : Int) := zA
         obtain ⟨ad444, e444, hx444_0⟩ := Kd.at_int HR0.out (1 + a1 * 49 + a2 * 7 + a4) p444 q444
         obtain rfl : (⟨g0, 0, none⟩ : Addr) = ad444 := (by injection e444)
         (first | simp only [add_plain] at hx444_0 | simp only [add_at] at hx444_0 | simp only [Addr.add, Nat.zero_add] at hx444_0 | skip)
         have hw444_0 := hx444_0
         replace hx444_0 := (HB.out.cell (World.block_lt_of_cell? w _ hx444_0)).trans hx444_0
         replace p444 := eq_true p444
         replace q444 := eq_true q444
         clear dp444 dq444
         clear p444 q444
         rw [show ((1 + a1 * 49 + a2 * 7 + a4) : Int).toNat = 1 + (a1).toNat * 49 + (a2).toNat * 7 + (a4).toNat from by omega] at hx444_0
         change _ = some (Value.int .i64 (rd3 l0 a1 a2 a4)) at hx444_0
         rw [show ((1 + a1 * 49 + a2 * 7 + a4) : Int).toNat = 1 + (a1).toNat * 49 + (a2).toNat * 7 + (a4).toNat from by omega] at hw444_0
         change _ = some (Value.int .i64 (rd3 l0 a1 a2 a4)) at hw444_0
         replace pz444_0 := eq_true pz444_0
         replace pz444_1 := eq_true pz444_1
         replace pz444_2 := eq_true pz444_2
         replace qz444_0 := eq_true qz444_0
         replace qz444_1 := eq_true qz444_1
         replace qz444_2 := eq_true qz444_2
         have pz445_0 : 0 ≤ (a1 : Int) := zA
         have pz445_1 : 0 ≤ (a2 : Int) := zA
         have pz445_2 : 0 ≤ (a3 : Int) := zA
         have qz445_0 : (a1 : Int) < 7 := zA
         have qz445_1 : (a2 : Int) < 7 := zA
         have qz445_2 : (a3 : Int) < 7 := zA
         have hL445 := HC0.out
         have dp445 : decide (0 ≤ ((1 + a1 * 49 + a2 * 7 + a3) : Int)) = true := decide_eq_true (by omega)
         have dq445 : decide ((1 + a1 * 49 + a2 * 7 + a3) < (l0.length : Int)) = true := decide_eq_true (by omega)
         clear hL445
         have p445 : 0 ≤ ((1 + a1 * 49 + a2 * 7 + a3) : Int) := zA
         have q445 : (1 + a1 * 49 + a2 * 7 + a3) < (l0.length : Int) := zA
         obtain ⟨ad445, e445, hx445_0⟩ := Kd.at_int HR0.out (1 + a1 * 49 + a2 * 7 + a3) p445 q445
         obtain rfl : (⟨g0, 0, none⟩ : Addr) = ad445 := (by injection e445)
         (first | simp only [add_plain] at hx445_0 | simp only [add_at] at hx445_0 | simp only [Addr.add, Nat.zero_add] at hx445_0 | skip)
         have hw445_0 := hx445_0
         replace hx445_0 := (HB.out.cell (World.block_lt_of_cell? w _ hx445_0)).trans hx445_0
         replace p445 := eq_true p445
         replace q445 := eq_true q445
         clear dp445 dq445
         clear p445 q445
         rw [show ((1 + a1 * 49 + a2 * 7 + a3) : Int).toNat = 1 + (a1).toNat * 49 + (a2).toNat * 7 + (a3).toNat from by omega] at hx445_0
         change _ = some (Value.int .i64 (rd3 l0 a1 a2 a3)) at hx445_0
         rw [show ((1 + a1 * 49 + a2 * 7 + a3) : Int).toNat = 1 + (a1).toNat * 49 + (a2).toNat * 7 + (a3).toNat from by omega] at hw445_0
         change _ = some (Value.int .i64 (rd3 l0 a1 a2 a3)) at hw445_0
         replace pz445_0 := eq_true pz445_0
         replace pz445_1 := eq_true pz445_1
         replace pz445_2 := eq_true pz445_2
         replace qz445_0 := eq_true qz445_0
         replace qz445_1 := eq_true qz445_1
         replace qz445_2 := eq_true qz445_2
         refine start_ (n := 45) (S := fun w' => w'.cell? ⟨g0, 1 + (a2).toNat * 49 + (a3).toNat * 7 + (a4).toNat, none⟩ = some (.int .i64 (rd3 l0 a2 a3 a4)) ∧ w'.cell? ⟨g0, 1 + (a1).toNat * 49 + (a3).toNat * 7 + (a4).toNat, none⟩ = some (.int .i64 (rd3 l0 a1 a3 a4)) ∧ w'.cell? ⟨g0, 1 + (a1).toNat * 49 + (a2).toNat * 7 + (a4).toNat, none⟩ = some (.int .i64 (rd3 l0 a1 a2 a4)) ∧ w'.cell? ⟨g0, 1 + (a1).toNat * 49 + (a2).toNat * 7 + (a3).toNat, none⟩ = some (.int .i64 (rd3 l0 a1 a2 a3))) (ds := []) #[false, false, false, false, false, false, false, false, false, false, false, false, false, false, false, false, false, false, false, false, false, false, false, false, false, false, false, false, false, false, false, false, false, false, false, false, false, false, false, false, false, false, false, false, false] (by kernel_rfl) rfl rfl ⟨((HB.out.cell (World.block_lt_of_cell? w _ hw442_0)).trans hw442_0), ((HB.out.cell (World.block_lt_of_cell? w _ hw443_0)).trans hw443_0), ((HB.out.cell (World.block_lt_of_cell? w _ hw444_0)).trans hw444_0), ((HB.out.cell (World.block_lt_of_cell? w _ hw445_0)).trans hw445_0)⟩ (fun hHeld => ?_); refine with_tabW impl_chi_circuit.tab2 impl_chi_circuit.bits2 (fun HT_ HW_ => ?_)
         generalize w.drew = w14 at HB hx442_0 hx443_0 hx444_0 hx445_0 hHeld ⊢
         refine zP 0 (some 14) rfl rfl ?_
         refine zP 1 (some 15) rfl rfl ?_
         refine zP 2 (some 16) rfl rfl ?_
         refine zP 3 (some 17) rfl rfl ?_
         refine zP 4 (some 18) rfl rfl ?_
         refine zP 5 (some 19) rfl rfl ?_
         refine zP 6 (some 20) rfl rfl ?_
         refine zP 7 (some 21) rfl rfl ?_
         refine zP 8 (some 22) rfl rfl ?_
         refine zP 10 (some 24) rfl rfl ?_
         refine zP 11 (some 25) rfl rfl ?_
         refine zP 12 (some 26) rfl rfl ?_
         refine zP 13 (some 27) rfl rfl ?_
         refine zP 14 (some 28) rfl rfl ?_
         refine zP 15 (some 29) rfl rfl ?_
         refine zP 16 (some 30) rfl rfl ?_
         refine zP 17 (some 31) rfl rfl ?_
         refine zP 18 (some 32) rfl rfl ?_
         refine zP 21 (some 35) rfl rfl ?_
         refine zP 22 (some 36) rfl rfl ?_
         refine zP 23 (some 37) rfl rfl ?_
         refine zP 24 (some 38) rfl rfl ?_
         refine zP 25 (some 39) rfl rfl ?_
         refine zP 26 (some 40) rfl rfl ?_
         refine zP 27 (some 41) rfl rfl ?_
         refine zP 28 (some 42) rfl rfl ?_
         refine zP 29 (some 43) rfl rfl ?_
         refine zP 31 (some 45) rfl rfl ?_
         refine zP 32 (some 46) rfl rfl ?_
         refine zP 33 (some 47) rfl rfl ?_
         refine zP 34 (some 48) rfl rfl ?_
         refine zP 35 (some 49) rfl rfl ?_
         refine zP 36 (some 50) rfl rfl ?_
         refine zP 37 (some 51) rfl rfl ?_
         refine zP 38 (some 52) rfl rfl ?_
         refine zP 39 (some 53) rfl rfl ?_
         refine zP 44 (some 58) rfl rfl ?_
         refine zY4 9 (some 23) rfl rfl hHeld ?_
         refine zY4 19 (some 33) rfl rfl hHeld ?_
         refine zP 20 (some 34) rfl rfl ?_
         refine zY4 30 (some 44) rfl rfl hHeld ?_
         refine zY4 40 (some 54) rfl rfl hHeld ?_
         refine zP 41 (some 55) rfl rfl ?_
         refine zU 42 (some 56) rfl rfl (fun K hK => ?_)
         refine Kd.R_lit_step (Kd.int .i64) _ 3 ?hg (N := 56) ?hd (xs := ([rd3 l0 a2 a3 a4, wrap64 (-(rd3 l0 a1 a3 a4)), rd3 l0 a1 a2 a4, wrap64 (-(rd3 l0 a1 a2 a3))] : List Int)) (inner := [.int .i64 (rd3 l0 a2 a3 a4), .int .i64 (wrap64 (-(rd3 l0 a1 a3 a4))), .int .i64 (rd3 l0 a1 a2 a4), .int .i64 (wrap64 (-(rd3 l0 a1 a2 a3)))]) (ok := fun _ => True) (okp := fun _ => True) ?hr ?hp (fun _ hk => hk) trivial (Below.refl _ _) (Nat.le_refl _) (by simp) ?_; (case hd => rfl); (case hg => rfl); (case hr => first | (go_simp; done) | (go_simp; rfl)); (case hp => exact (Reps.one (show Kd.M (Kd.int .i64) _ _ _ (rd3 l0 a2 a3 a4) [.int .i64 (rd3 l0 a2 a3 a4)] from rfl) (Reps.one (show Kd.M (Kd.int .i64) _ _ _ (wrap64 (-(rd3 l0 a1 a3 a4))) [.int .i64 (wrap64 (-(rd3 l0 a1 a3 a4)))] from rfl) (Reps.one (show Kd.M (Kd.int .i64) _ _ _ (rd3 l0 a1 a2 a4) [.int .i64 (rd3 l0 a1 a2 a4)] from rfl) (Reps.one (show Kd.M (Kd.int .i64) _ _ _ (wrap64 (-(rd3 l0 a1 a2 a3))) [.int .i64 (wrap64 (-(rd3 l0 a1 a2 a3)))] from rfl) (Reps.none _ _))))))
         intro v447 w15 ho16 hb hg_ hnew_
         clear hg_ hnew_
         (first | rw [← Ny446.out] at ho16 | (simp only [Int.reduceToNat] at ho16; rw [← Ny446.out] at ho16))
         have HO448 := Aside0.mk (Kd.R_lower ho16 (below_size zB))
         replace HB := zX hb
         clear hb ho16
         obtain ⟨Ao17, co17, eo17⟩ := Kd.R_slice HO448.out
         (first | subst eo17 | (injection eo17 with f1_ f2_ f3_; have f4_ := f1_.symm; have f5_ := f3_.symm; clear f1_ f2_ f3_; subst f4_; subst f5_))
         refine hK.out _ _ ⟨((HB.out.cell (World.block_lt_of_cell? w _ hw442_0)).trans hw442_0), ((HB.out.cell (World.block_lt_of_cell? w _ hw443_0)).trans hw443_0), ((HB.out.cell (World.block_lt_of_cell? w _ hw444_0)).trans hw444_0), ((HB.out.cell (World.block_lt_of_cell? w _ hw445_0)).trans hw445_0)⟩ (fun hHeld => ?_)
         clear hK K
         refine zN ?_
         refine zP 43 (some 57) rfl rfl ?_
         refine done_ (done_of HT_.out (by kernel_rfl)) ?_
         try go_wp2
         go_loopg [11, 58] k (fun kq v11 v58 w' => ∃ (x11_1 : List Int) (x58_1 : Int), v58 = .int .i64 x58_1 ∧ Aside0 (impl_chi_circuit.l0 kq x11_1 y446 (y446.length : Int) x58_1 = some r) ∧ Aside0 (kq ≤ k) ∧ Aside0 (Kd.R (Kd.int .u8) 5 w' w.heap.size (fun _ => True) v11 x11_1) ∧ Aside0 (Kd.R (Kd.int .i64) 3 w' w.heap.size (fun _ => True) (.slice Ao17 y446.length co17) y446) ∧ Aside0 (Below w.heap.size w w'))
         case atStart => exact ⟨(([] : List Int)), (0), zF, H', ⟨Nat.le_refl _⟩, ⟨by first | exact Kd.R_nil _ _ _ _ _ | exact Kd.N_nil _ _ _ _ _ | exact Kd.V_nil _ _ _ _ _ | exact Kd.Q_nil _ _ _ _ _ | exact Kd.S_nil _ _ _ _ _⟩, ⟨zR HO448.out⟩, ⟨zB⟩⟩
         case round =>
         clear H'
         try clear c6
         try clear c6b0
         try clear c7
         try clear c7b0
         try clear c8
         try clear c8b0
         try clear c9
         try clear c9b0
         try clear c10
         try clear c10b0
         try clear c11
         try clear c11b0
         try clear c12
         try clear c12b0
         try clear c13
         try clear c13b0
         try clear hx442_0
         try clear hx443_0
         try clear hx444_0
         try clear hx445_0
         try clear p442
         try clear p443
         try clear p444
         try clear p445
         try clear q442
         try clear q443
         try clear q444
         try clear q445
         obtain ⟨x11_1, x58_1, rfl, HA, HK1, HO_11, HO_56, HB⟩ := hrel
         cases gk with
         | zero => exact absurd HA.out (by simp [impl_chi_circuit.l0])
         | succ k1 =>
         have H := HA.out
         clear HA
         simp only [impl_chi_circuit.l0] at H
         by_cases c18 : x58_1 < (y446.length : Int)
         ·rw [if_pos c18] at H
          have c18b0 := decide_eq_true c18
          clear c18
          by_cases c19 : 0 ≤ x58_1
          ·rw [if_pos c19] at H
           have c19b0 := decide_eq_true c19
           clear c19
           by_cases c20 : x58_1 < (y446.length : Int)
           ·rw [if_pos c20] at H
            have c20b0 := decide_eq_true c20
            clear c20
            by_cases c21 : (rd y446 x58_1) > 0
            ·rw [if_pos c21] at H
             have c21b0 : decide (0 < (rd y446 x58_1)) = true := decide_eq_true c21
             clear c21
             by_cases c22 : x11_1.length < 140737488355328
             ·rw [if_pos c22] at H
              have LMc22 := Aside0.mk c22
              clear c22
              obtain ⟨y450, hy450⟩ : ∃ y_ : List Int, y_ = (x11_1 ++ [43]) := ⟨_, rfl⟩
              replace H : (impl_chi_circuit.l0 k1 y450 y446 (y446.length : Int) (wrap64 (x58_1 + 1))) = some r := by first | (rw [hy450]; with_reducible exact H) | (have H2_ := (Option.bind_some _ _).symm.trans H; rw [hy450]; with_reducible exact H2_) | (have H2_ := (Option.bind_some _ _).symm.trans H; with_reducible exact H2_) | with_reducible exact H | (rw [hy450]; exact H) | exact H
              have Ny450 := Aside0.mk hy450
              clear hy450
              have H' := Aside0.mk H; clear H
              have p449 : 0 ≤ (x58_1 : Int) := zA
              have q449 : x58_1 < (y446.length : Int) := zA
              obtain ⟨ad449, e449, hx449_0⟩ := Kd.at_int (Kd.R_reads' HO_56.out).2.2 x58_1 p449 q449
              cases e449
              replace p449 := eq_true p449
              replace q449 := eq_true q449
              go_wp2_with (first | ((with_reducible refine gate_builtin (b := .append) (xs := #[.tmp 64, .tmp 65]) rfl ?_); at_builtin; refine Kd.R_append (Kd.int .u8) (w0 := w) w.heap.size rfl (.tmp 64) (.tmp 65) 22 5 (.int .u8 0) 1 rfl Try.underlying22 info5 rfl (by decide) (by omega) u11 x11_1 43 [.int .u8 43] (fun _ => True) (fun _ => False) rfl rfl ?aP (fun _ hk => hk.elim) ?aF ?aO ?aB ?aS ?aL ?_; (case aP => exact rfl); (case aB => exact zB); (case aF => exact (fun _ _ => trivial)); (case aO => exact (zR HO_11.out)); (case aS => exact (below_size zB)); (case aL => have := LMc22.out; omega); intro v451 w23 ho hb hg hat; rw [← Ny450.out] at ho; have n0_ := Aside0.mk (Kd.R_over' (zR HO_56.out) (Kd.R_typed (zR HO_11.out)) (by decide) hg); have n1_ := Aside0.mk (hb); have n2_ := Aside0.mk (ho); clear HO_56; clear HB; clear HO_11; have HO_56 := n0_; have HB := n1_; have HO452 := n2_; clear n0_ n1_ n2_; clear ho hb hg hat))
              go_roundg k1
              case measure => have := HK1.out; omega
              case rel => exact ⟨(y450), (wrap64 (x58_1 + 1)), zF, H', ⟨by have := HK1.out; omega⟩, ⟨zR HO452.out⟩, ⟨zR HO_56.out⟩, ⟨zB⟩⟩
             rw [if_neg c22] at H
             exact absurd H (by simp)
            rw [if_neg c21] at H
            have c21b0 : decide (0 < (rd y446 x58_1)) = false := decide_eq_false c21
            clear c21
            by_cases c24 : x11_1.length < 140737488355328
            ·rw [if_pos c24] at H
             have LMc24 := Aside0.mk c24
             clear c24
             obtain ⟨y453, hy453⟩ : ∃ y_ : List Int, y_ = (x11_1 ++ [45]) := ⟨_, rfl⟩
             replace H : (impl_chi_circuit.l0 k1 y453 y446 (y446.length : Int) (wrap64 (x58_1 + 1))) = some r := by first | (rw [hy453]; with_reducible exact H) | (have H2_ := (Option.bind_some _ _).symm.trans H; rw [hy453]; with_reducible exact H2_) | (have H2_ := (Option.bind_some _ _).symm.trans H; with_reducible exact H2_) | with_reducible exact H | (rw [hy453]; exact H) | exact H
             have Ny453 := Aside0.mk hy453
             clear hy453
             have H' := Aside0.mk H; clear H
             have p449 : 0 ≤ (x58_1 : Int) := zA
             have q449 : x58_1 < (y446.length : Int) := zA
             obtain ⟨ad449, e449, hx449_0⟩ := Kd.at_int (Kd.R_reads' HO_56.out).2.2 x58_1 p449 q449
             cases e449
             replace p449 := eq_true p449
             replace q449 := eq_true q449
             go_wp2_with (first | ((with_reducible refine gate_builtin (b := .append) (xs := #[.tmp 67, .tmp 68]) rfl ?_); at_builtin; refine Kd.R_append (Kd.int .u8) (w0 := w) w.heap.size rfl (.tmp 67) (.tmp 68) 22 5 (.int .u8 0) 1 rfl Try.underlying22 info5 rfl (by decide) (by omega) u11 x11_1 45 [.int .u8 45] (fun _ => True) (fun _ => False) rfl rfl ?aP (fun _ hk => hk.elim) ?aF ?aO ?aB ?aS ?aL ?_; (case aP => exact rfl); (case aB => exact zB); (case aF => exact (fun _ _ => trivial)); (case aO => exact (zR HO_11.out)); (case aS => exact (below_size zB)); (case aL => have := LMc24.out; omega); intro v454 w25 ho hb hg hat; rw [← Ny453.out] at ho; have n0_ := Aside0.mk (Kd.R_over' (zR HO_56.out) (Kd.R_typed (zR HO_11.out)) (by decide) hg); have n1_ := Aside0.mk (hb); have n2_ := Aside0.mk (ho); clear HO_56; clear HB; clear HO_11; have HO_56 := n0_; have HB := n1_; have HO455 := n2_; clear n0_ n1_ n2_; clear ho hb hg hat))
             go_roundg k1
             case measure => have := HK1.out; omega
             case rel => exact ⟨(y453), (wrap64 (x58_1 + 1)), zF, H', ⟨by have := HK1.out; omega⟩, ⟨zR HO455.out⟩, ⟨zR HO_56.out⟩, ⟨zB⟩⟩
            rw [if_neg c24] at H
            exact absurd H (by simp)
           rw [if_neg c20] at H
           exact absurd H (by simp)
          rw [if_neg c19] at H
          exact absurd H (by simp)
         rw [if_neg c18] at H
         have c18b0 := decide_eq_false c18
         clear c18
         by_cases c26 : 0 < (x11_1.length : Int)
         ·rw [if_pos c26] at H
          have c26b0 := decide_eq_true c26
          have c26b1 : decide (0 < x11_1.length) = true := decide_eq_true (by omega)
          clear c26
          by_cases c27 : (rd x11_1 0) = 45
          ·rw [if_pos c27] at H
           have c27b0 := beq_iff_eq.mpr c27
           have c27b1 := bne_eq_false_iff_eq.mpr c27
           clear c27
           obtain ⟨t457, A28, H⟩ := zO H
           obtain rfl := Option.some.inj H
           obtain ⟨Ao29, co29, eo29⟩ := Kd.R_slice HO_11.out
           subst eo29
           have p456 : 0 ≤ (0 : Int) := (by omega)
           have q456 : 0 < (x11_1.length : Int) := zA
           obtain ⟨ad456, e456, hx456_0⟩ := Kd.at_int (Kd.R_reads' HO_11.out).2.2 0 p456 q456
           cases e456
           have qi456 : (0 < x11_1.length) = True := eq_true (by omega)
           (try rw [show ((0 : Int)).toNat = 0 from rfl] at hx456_0)
           (try rw [Addr.add_zero'] at hx456_0)
           replace p456 := eq_true p456
           replace q456 := eq_true q456
           have hcv30 := own_string (P := Try.prog) Try.underlying22 Try.underlying5 Try.underlying9 (Kd.own_of_R HO_11.out)
           go_wp2_with (first | ((with_reducible refine gate_callee (f := 147) rfl ?_); refine zD (some 77) Try.func147 #[.string (strOfNums x11_1)] ?_; (with_reducible refine (impl_opposite.calls (strOfNums x11_1) t457 _ A28.out).mono ?_); rintro e w31 ⟨rfl, hb⟩; refine ⟨_, rfl, ?_⟩; replace HO_11 := zW HO_11.out hb; replace HO_56 := zW HO_56.out hb; replace HB := zX hb; (try clear hb)))
           go_ret
           exact ⟨zE, zB⟩
          rw [if_neg c27] at H
          have c27b0 := beq_eq_false_iff_ne.mpr c27
          have c27b1 := bne_iff_ne.mpr c27
          obtain rfl := Option.some.inj H
          obtain ⟨Ao32, co32, eo32⟩ := Kd.R_slice HO_11.out
          subst eo32
          have p456 : 0 ≤ (0 : Int) := (by omega)
          have q456 : 0 < (x11_1.length : Int) := zA
          obtain ⟨ad456, e456, hx456_0⟩ := Kd.at_int (Kd.R_reads' HO_11.out).2.2 0 p456 q456
          cases e456
          have qi456 : (0 < x11_1.length) = True := eq_true (by omega)
          (try rw [show ((0 : Int)).toNat = 0 from rfl] at hx456_0)
          (try rw [Addr.add_zero'] at hx456_0)
          replace p456 := eq_true p456
          replace q456 := eq_true q456
          have hcv33 := own_string (P := Try.prog) Try.underlying22 Try.underlying5 Try.underlying9 (Kd.own_of_R HO_11.out)
          go_wp2
          go_ret
          exact ⟨zE, zB⟩
         rw [if_neg c26] at H
         exact absurd H (by simp)
        rw [if_neg c13] at H
        exact absurd H (by simp)
       rw [if_neg c12] at H
       exact absurd H (by simp)
      rw [if_neg c11] at H
      exact absurd H (by simp)
     rw [if_neg c10] at H
     exact absurd H (by simp)
    rw [if_neg c9] at H
    exact absurd H (by simp)
   rw [if_neg c8] at H
   exact absurd H (by simp)
  rw [if_neg c7] at H
  exact absurd H (by simp)
 rw [if_neg c6] at H
 exact absurd H (by simp)
/-! ### impl_chi_split: function 106 -/
def impl_chi_split.l0 : Nat → ByteArray → Int → Int → List Int → Int → Int → Option (Int × Int)
 | 0, _, _, _, _, _, _ => none
 | k + 1, x12, x13, x14, x27, x28, x29 => if x29 < x28 then (if 0 ≤ x29 then (if x29 < (x27.length : Int) then (if x29 < (x12.size : Int) then (if (bt x12 x29) = 43 then (if 0 ≤ (rd x27 x29) then (impl_chi_split.l0 k x12 (Go.bits .or .i64 x13 (shl .i64 1 (rd x27 x29))) x14 x27 x28 (wrap64 (x29 + 1))) else (none)) else (if 0 ≤ (rd x27 x29) then (impl_chi_split.l0 k x12 x13 (Go.bits .or .i64 x14 (shl .i64 1 (rd x27 x29))) x27 x28 (wrap64 (x29 + 1))) else (none))) else (none)) else (none)) else (none)) else (some (x13, x14))
def impl_chi_split.f (k : Nat) (l0 : List Int) (a1 : Int) (a2 : Int) (a3 : Int) (a4 : Int) : Option (Int × Int) := (impl_chi_circuit.f k l0 a1 a2 a3 a4).bind fun t733 => ((some (([a1, a2, a3, a4] : List Int) : List Int)).bind fun y734 => (impl_chi_split.l0 k t733 0 0 y734 (y734.length : Int) 0))
set_option maxHeartbeats 8000000 in
set_option maxRecDepth 100000 in
theorem impl_chi_split.calls (k : Nat) (g0 : Nat) (l0 : List Int) (a1 : Int) (a2 : Int) (a3 : Int) (a4 : Int) (r1 : Int) (r2 : Int) (w : World) (hr0 : Kd.C (Kd.int .i64) w (some ⟨g0, 0, none⟩) l0.length l0) (hc0 : l0.length = 344) (h : impl_chi_split.f k l0 a1 a2 a3 a4 = some (r1, r2)) :
  Calls Try.prog 106 #[.pointer (some ⟨g0, 0, none⟩), .int .i64 a1, .int .i64 a2, .int .i64 a3, .int .i64 a4] w fun e w' => e = .returned (.tuple #[.int .i64 r1, .int .i64 r2]) ∧ Below w.heap.size w w' := by
 have HR0 := Aside0.mk hr0
 have HC0 := Aside0.mk hc0
 clear hr0 hc0
 have HB := Aside0.mk (Below.refl w.heap.size w)
 have H : ((impl_chi_circuit.f k l0 a1 a2 a3 a4).bind fun t733 => ((some (([a1, a2, a3, a4] : List Int) : List Int)).bind fun y734 => (impl_chi_split.l0 k t733 0 0 y734 (y734.length : Int) 0))) = some (r1, r2) := h
 clear h
 obtain ⟨t733, A6, H⟩ := zO H
 obtain ⟨y734, hy734⟩ : ∃ y_ : List Int, y_ = (([a1, a2, a3, a4] : List Int)) := ⟨_, rfl⟩
 replace H : (impl_chi_split.l0 k t733 0 0 y734 (y734.length : Int) 0) = some (r1, r2) := by first | (rw [hy734]; with_reducible exact H) | (have H2_ := (Option.bind_some _ _).symm.trans H; rw [hy734]; with_reducible exact H2_) | (have H2_ := (Option.bind_some _ _).symm.trans H; with_reducible exact H2_) | with_reducible exact H | (rw [hy734]; exact H) | exact H
 have Ny734 := Aside0.mk hy734
 clear hy734
 have H' := Aside0.mk H; clear H
 go_enter Try.func106, Try.ntmps106
 go_wp2_with (first | ((with_reducible refine gate_callee (f := 96) rfl ?_); refine zD (some 22) Try.func96 #[.pointer (some ⟨g0, 0, none⟩), .int .i64 a1, .int .i64 a2, .int .i64 a3, .int .i64 a4] ?_; (with_reducible refine (impl_chi_circuit.calls k _ l0 a1 a2 a3 a4 t733 _ ?side1 ?side2 A6.out).mono ?_); (case side1 => repeat (first | exact HR0.out | (with_reducible refine Kd.C_alloc ?_ _) | (with_reducible refine Kd.C_drewN ?_ _) | (with_reducible refine Kd.C_drew ?_))); (case side2 => exact HC0.out); rintro e w7 ⟨rfl, hb⟩; refine ⟨_, rfl, ?_⟩; replace HB := zX hb; (try clear hb)) | ((with_reducible refine gate_dst (N := 27) rfl ?_); refine Kd.R_lit (Kd.int .i64) _ 3 ?hg (N := 27) ?hd (xs := ([a1, a2, a3, a4] : List Int)) (inner := [.int .i64 a1, .int .i64 a2, .int .i64 a3, .int .i64 a4]) (ok := fun _ => True) (okp := fun _ => True) ?hr ?hp (fun _ hk => hk) trivial (Below.refl _ _) (Nat.le_refl _) (by simp) ?_; (case hd => rfl); (case hg => rfl); (case hr => first | (go_simp; done) | (go_simp; rfl)); (case hp => exact (Reps.one (show Kd.M (Kd.int .i64) _ _ _ a1 [.int .i64 a1] from rfl) (Reps.one (show Kd.M (Kd.int .i64) _ _ _ a2 [.int .i64 a2] from rfl) (Reps.one (show Kd.M (Kd.int .i64) _ _ _ a3 [.int .i64 a3] from rfl) (Reps.one (show Kd.M (Kd.int .i64) _ _ _ a4 [.int .i64 a4] from rfl) (Reps.none _ _)))))); intro v735 w8 ho9 hb hg_ hnew_; clear hg_ hnew_; (first | rw [← Ny734.out] at ho9 | (simp only [Int.reduceToNat] at ho9; rw [← Ny734.out] at ho9)); have HO736 := Aside0.mk (Kd.R_lower ho9 (below_size zB)); replace HB := zX hb; clear hb ho9; obtain ⟨Ao10, co10, eo10⟩ := Kd.R_slice HO736.out; subst eo10))
 go_loopg [13, 14, 29] k (fun kq v13 v14 v29 w' => ∃ (x13_1 : Int) (x14_1 : Int) (x29_1 : Int), v13 = .int .i64 x13_1 ∧ v14 = .int .i64 x14_1 ∧ v29 = .int .i64 x29_1 ∧ Aside0 (impl_chi_split.l0 kq t733 x13_1 x14_1 y734 (y734.length : Int) x29_1 = some (r1, r2)) ∧ Aside0 (kq ≤ k) ∧ Aside0 (Kd.R (Kd.int .i64) 3 w' w.heap.size (fun _ => True) (.slice Ao10 y734.length co10) y734) ∧ Aside0 (Below w.heap.size w w'))
 case atStart => exact ⟨(0), (0), (0), zF, zF, zF, H', ⟨Nat.le_refl _⟩, ⟨zR HO736.out⟩, ⟨zB⟩⟩
 case round =>
 clear H'
 obtain ⟨x13_1, x14_1, x29_1, rfl, rfl, rfl, HA, HK1, HO_27, HB⟩ := hrel
 cases gk with
 | zero => exact absurd HA.out (by simp [impl_chi_split.l0])
 | succ k1 =>
 have H := HA.out
 clear HA
 simp only [impl_chi_split.l0] at H
 by_cases c11 : x29_1 < (y734.length : Int)
 ·rw [if_pos c11] at H
  have c11b0 := decide_eq_true c11
  clear c11
  by_cases c12 : 0 ≤ x29_1
  ·rw [if_pos c12] at H
   have c12b0 := decide_eq_true c12
   clear c12
   by_cases c13 : x29_1 < (y734.length : Int)
   ·rw [if_pos c13] at H
    have c13b0 := decide_eq_true c13
    clear c13
    by_cases c14 : x29_1 < (t733.size : Int)
    ·rw [if_pos c14] at H
     have c14b0 := decide_eq_true c14
     clear c14
     by_cases c16 : (bt t733 x29_1) = 43
     ·rw [if_pos c16] at H
      have c16b0 := beq_iff_eq.mpr c16
      have c16b1 := bne_eq_false_iff_eq.mpr c16
      clear c16
      by_cases c17 : 0 ≤ (rd y734 x29_1)
      ·rw [if_pos c17] at H
       have c17b0 := eq_true c17
       have c17b1 := decide_eq_true c17
       clear c17
       obtain ⟨ji18, hji18⟩ : ∃ j_ : Int, (shl .i64 1 (rd y734 x29_1)) = j_ := ⟨_, rfl⟩
       replace H : (impl_chi_split.l0 k1 t733 (Go.bits .or .i64 x13_1 (ji18)) x14_1 y734 (y734.length : Int) (wrap64 (x29_1 + 1))) = some (r1, r2) := by first | (rw [hji18] at H; exact H) | (simp only [hji18] at H ⊢; exact H)
       have hji18_ : (IntKind.i64.wrap (1 * 2 ^ min (rd y734 x29_1).toNat 64)) = ji18 := hji18
       have hji18z : (rd y734 x29_1) ≤ 64 → (IntKind.i64.wrap (1 * 2 ^ (rd y734 x29_1).toNat)) = ji18 := shl_small hji18
       have hji18u : (IntKind.i64.wrap (2 ^ min (rd y734 x29_1).toNat 64)) = ji18 := by have h_ := hji18_; rw [Int.one_mul] at h_; exact h_
       have hji18v : (rd y734 x29_1) ≤ 64 → (IntKind.i64.wrap (2 ^ (rd y734 x29_1).toNat)) = ji18 := fun hle_ => by have h_ := hji18z hle_; rw [Int.one_mul] at h_; exact h_
       have hji18y : (wrap64 (1 * 2 ^ min (rd y734 x29_1).toNat 64)) = ji18 := (i64_w _).symm.trans hji18_
       have hji18x : (rd y734 x29_1) ≤ 64 → (wrap64 (1 * 2 ^ (rd y734 x29_1).toNat)) = ji18 := fun h_ => (i64_w _).symm.trans (hji18z h_)
       have H' := Aside0.mk H; clear H
       have p737 : 0 ≤ (x29_1 : Int) := zA
       have q737 : x29_1 < (y734.length : Int) := zA
       obtain ⟨ad737, e737, hx737_0⟩ := Kd.at_int (Kd.R_reads' HO_27.out).2.2 x29_1 p737 q737
       cases e737
       replace p737 := eq_true p737
       replace q737 := eq_true q737
       have p15 : 0 ≤ (x29_1 : Int) := zA
       have q15 : x29_1 < (t733.size : Int) := zA
       have hx15 := bt_at t733 x29_1
       replace p15 := eq_true p15
       replace q15 := eq_true q15
       go_wp2
       go_roundg k1
       case measure => have := HK1.out; omega
       case rel => exact ⟨(Go.bits .or .i64 x13_1 (ji18)), (x14_1), (wrap64 (x29_1 + 1)), (by first | rfl | (simp; done) | (simp only [← hji18] <;> (first | rfl | simp)) | (simp [*]; done)), zF, zF, H', ⟨by have := HK1.out; omega⟩, ⟨zR HO_27.out⟩, ⟨zB⟩⟩
      rw [if_neg c17] at H
      exact absurd H (by simp)
     rw [if_neg c16] at H
     have c16b0 := beq_eq_false_iff_ne.mpr c16
     have c16b1 := bne_iff_ne.mpr c16
     by_cases c19 : 0 ≤ (rd y734 x29_1)
     ·rw [if_pos c19] at H
      have c19b0 := eq_true c19
      have c19b1 := decide_eq_true c19
      clear c19
      obtain ⟨ji20, hji20⟩ : ∃ j_ : Int, (shl .i64 1 (rd y734 x29_1)) = j_ := ⟨_, rfl⟩
      replace H : (impl_chi_split.l0 k1 t733 x13_1 (Go.bits .or .i64 x14_1 (ji20)) y734 (y734.length : Int) (wrap64 (x29_1 + 1))) = some (r1, r2) := by first | (rw [hji20] at H; exact H) | (simp only [hji20] at H ⊢; exact H)
      have hji20_ : (IntKind.i64.wrap (1 * 2 ^ min (rd y734 x29_1).toNat 64)) = ji20 := hji20
      have hji20z : (rd y734 x29_1) ≤ 64 → (IntKind.i64.wrap (1 * 2 ^ (rd y734 x29_1).toNat)) = ji20 := shl_small hji20
      have hji20u : (IntKind.i64.wrap (2 ^ min (rd y734 x29_1).toNat 64)) = ji20 := by have h_ := hji20_; rw [Int.one_mul] at h_; exact h_
      have hji20v : (rd y734 x29_1) ≤ 64 → (IntKind.i64.wrap (2 ^ (rd y734 x29_1).toNat)) = ji20 := fun hle_ => by have h_ := hji20z hle_; rw [Int.one_mul] at h_; exact h_
      have hji20y : (wrap64 (1 * 2 ^ min (rd y734 x29_1).toNat 64)) = ji20 := (i64_w _).symm.trans hji20_
      have hji20x : (rd y734 x29_1) ≤ 64 → (wrap64 (1 * 2 ^ (rd y734 x29_1).toNat)) = ji20 := fun h_ => (i64_w _).symm.trans (hji20z h_)
      have H' := Aside0.mk H; clear H
      have p737 : 0 ≤ (x29_1 : Int) := zA
      have q737 : x29_1 < (y734.length : Int) := zA
      obtain ⟨ad737, e737, hx737_0⟩ := Kd.at_int (Kd.R_reads' HO_27.out).2.2 x29_1 p737 q737
      cases e737
      replace p737 := eq_true p737
      replace q737 := eq_true q737
      have p15 : 0 ≤ (x29_1 : Int) := zA
      have q15 : x29_1 < (t733.size : Int) := zA
      have hx15 := bt_at t733 x29_1
      replace p15 := eq_true p15
      replace q15 := eq_true q15
      go_wp2
      go_roundg k1
      case measure => have := HK1.out; omega
      case rel => exact ⟨(x13_1), (Go.bits .or .i64 x14_1 (ji20)), (wrap64 (x29_1 + 1)), zF, (by first | rfl | (simp; done) | (simp only [← hji20] <;> (first | rfl | simp)) | (simp [*]; done)), zF, H', ⟨by have := HK1.out; omega⟩, ⟨zR HO_27.out⟩, ⟨zB⟩⟩
     rw [if_neg c19] at H
     exact absurd H (by simp)
    rw [if_neg c14] at H
    exact absurd H (by simp)
   rw [if_neg c13] at H
   exact absurd H (by simp)
  rw [if_neg c12] at H
  exact absurd H (by simp)
 rw [if_neg c11] at H
 have c11b0 := decide_eq_false c11
 clear c11
 simp only [Option.some.injEq, Prod.mk.injEq] at H
 obtain ⟨rfl, rfl⟩ := H
 go_wp2
 go_ret2
 exact ⟨zE, zB⟩
/-! ### impl_single: function 150 -/
def impl_single.l0 : Nat → Int → Int → Option (Int)
 | 0, _, _ => none
 | k + 1, x0, x3 => if x3 < 7 then (if 0 ≤ x3 then (if x0 = (shl .i64 1 x3) then (some x3) else (impl_single.l0 k x0 (wrap64 (x3 + 1)))) else (none)) else (some (-1))
def impl_single.f (k : Nat) (a0 : Int) : Option (Int) := impl_single.l0 k a0 0
theorem impl_single.mono_l : ∀ k, (∀ y0 y1, LeO (impl_single.l0 k y0 y1) (impl_single.l0 (k + 1) y0 y1))
 | 0 => fun _ _ r h => by simp [impl_single.l0] at h
 | k + 1 => by
  have ih0 := impl_single.mono_l k
  ·intro y0 y1
   unfold impl_single.l0
   repeat' first
   | (with_reducible first | exact ih0 .. | exact LeO.refl _ | exact LeO.none _ | refine LeO.ite ?_ ?_ | refine LeO.bind ?_ (fun _ => ?_))
   | exact ih0 .. | exact LeO.none _ | refine LeO.ite ?_ ?_ | refine LeO.bind ?_ (fun _ => ?_)
theorem impl_single.mono : ∀ a0 k, LeO (impl_single.f k a0) (impl_single.f (k + 1) a0) := by
 intro a0 k
 have ih0 := impl_single.mono_l k
 unfold impl_single.f
 repeat' first
   | (with_reducible first | exact ih0 .. | exact LeO.refl _ | exact LeO.none _ | refine LeO.ite ?_ ?_ | refine LeO.bind ?_ (fun _ => ?_))
   | exact ih0 .. | exact LeO.none _ | refine LeO.ite ?_ ?_ | refine LeO.bind ?_ (fun _ => ?_)
set_option maxHeartbeats 8000000 in
set_option maxRecDepth 100000 in
theorem impl_single.calls (k : Nat) (a0 : Int) (r : Int) (w : World) (h : impl_single.f k a0 = some r) :
  Calls Try.prog 150 #[.int .i64 a0] w fun e w' => e = .returned (.int .i64 r) ∧ Drawn0 w w' := by
 have H : (impl_single.l0 k a0 0) = some r := h
 clear h
 have H' := Aside0.mk H; clear H
 go_enter Try.func150, Try.ntmps150
 go_wp2
 go_loopg [3] k (fun kq v3 w' => ∃ (x3_1 : Int), v3 = .int .i64 x3_1 ∧ Aside0 (impl_single.l0 kq a0 x3_1 = some r) ∧ Aside0 (kq ≤ k) ∧ Drawn0 w w')
 case atStart => exact ⟨(0), zF, H', ⟨Nat.le_refl _⟩, by repeat (first | exact Drawn0.refl _ | apply Drawn0.step)⟩
 case round =>
 clear H'
 obtain ⟨x3_1, rfl, HA, HK1, ⟨m1, rfl⟩⟩ := hrel
 cases gk with
 | zero => exact absurd HA.out (by simp [impl_single.l0])
 | succ k1 =>
 have H := HA.out
 clear HA
 simp only [impl_single.l0] at H
 by_cases c2 : x3_1 < 7
 ·rw [if_pos c2] at H
  have c2b0 := decide_eq_true c2
  clear c2
  by_cases c3 : 0 ≤ x3_1
  ·rw [if_pos c3] at H
   have c3b0 := eq_true c3
   have c3b1 := decide_eq_true c3
   clear c3
   obtain ⟨ji4, hji4⟩ : ∃ j_ : Int, (shl .i64 1 x3_1) = j_ := ⟨_, rfl⟩
   replace H : (if a0 = (ji4) then (some x3_1) else (impl_single.l0 k1 a0 (wrap64 (x3_1 + 1)))) = some r := by first | (rw [hji4] at H; exact H) | (simp only [hji4] at H ⊢; exact H)
   have hji4_ : (IntKind.i64.wrap (1 * 2 ^ min x3_1.toNat 64)) = ji4 := hji4
   have hji4z : x3_1 ≤ 64 → (IntKind.i64.wrap (1 * 2 ^ x3_1.toNat)) = ji4 := shl_small hji4
   have hji4u : (IntKind.i64.wrap (2 ^ min x3_1.toNat 64)) = ji4 := by have h_ := hji4_; rw [Int.one_mul] at h_; exact h_
   have hji4v : x3_1 ≤ 64 → (IntKind.i64.wrap (2 ^ x3_1.toNat)) = ji4 := fun hle_ => by have h_ := hji4z hle_; rw [Int.one_mul] at h_; exact h_
   have hji4y : (wrap64 (1 * 2 ^ min x3_1.toNat 64)) = ji4 := (i64_w _).symm.trans hji4_
   have hji4x : x3_1 ≤ 64 → (wrap64 (1 * 2 ^ x3_1.toNat)) = ji4 := fun h_ => (i64_w _).symm.trans (hji4z h_)
   by_cases c5 : a0 = (ji4)
   ·rw [if_pos c5] at H
    have c5b0 := beq_iff_eq.mpr c5
    have c5b1 := bne_eq_false_iff_eq.mpr c5
    clear c5
    obtain rfl := Option.some.inj H
    go_wp2
    go_ret
    exact ⟨by first | rfl | (simp; done) | (simp only [← hji4] <;> (first | rfl | simp)) | (simp [*]; done), by repeat (first | exact Drawn0.refl _ | apply Drawn0.step)⟩
   rw [if_neg c5] at H
   have c5b0 := beq_eq_false_iff_ne.mpr c5
   have c5b1 := bne_iff_ne.mpr c5
   have H' := Aside0.mk H; clear H
   go_wp2
   go_roundg k1
   case measure => have := HK1.out; omega
   case rel => exact ⟨(wrap64 (x3_1 + 1)), zF, H', ⟨by have := HK1.out; omega⟩, by repeat (first | exact Drawn0.refl _ | apply Drawn0.step)⟩
  rw [if_neg c3] at H
  exact absurd H (by simp)
 rw [if_neg c2] at H
 have c2b0 := decide_eq_false c2
 clear c2
 obtain rfl := Option.some.inj H
 go_wp2
 go_ret
 exact ⟨by first | rfl | (simp; done) | (simp [*]; done), by repeat (first | exact Drawn0.refl _ | apply Drawn0.step)⟩
/-! ### impl_chi_inner: function 111 -/
def impl_chi_inner.f (k : Nat) (l0 : List Int) (a1 : Int) (a2 : Int) (a3 : Int) (a4 : Int) : Option (Int) := (impl_chi_split.f k l0 a1 a2 a3 a4).bind fun bt778 => ((impl_single.f k bt778.1).bind fun t780 => ((impl_single.f k bt778.2).bind fun t781 => (some (mx t780 t781))))
set_option maxHeartbeats 8000000 in
set_option maxRecDepth 100000 in
theorem impl_chi_inner.calls (k : Nat) (g0 : Nat) (l0 : List Int) (a1 : Int) (a2 : Int) (a3 : Int) (a4 : Int) (r : Int) (w : World) (hr0 : Kd.C (Kd.int .i64) w (some ⟨g0, 0, none⟩) l0.length l0) (hc0 : l0.length = 344) (h : impl_chi_inner.f k l0 a1 a2 a3 a4 = some r) :
  Calls Try.prog 111 #[.pointer (some ⟨g0, 0, none⟩), .int .i64 a1, .int .i64 a2, .int .i64 a3, .int .i64 a4] w fun e w' => e = .returned (.int .i64 r) ∧ Below w.heap.size w w' := by
 have HR0 := Aside0.mk hr0
 have HC0 := Aside0.mk hc0
 clear hr0 hc0
 have HB := Aside0.mk (Below.refl w.heap.size w)
 have H : ((impl_chi_split.f k l0 a1 a2 a3 a4).bind fun bt778 => ((impl_single.f k bt778.1).bind fun t780 => ((impl_single.f k bt778.2).bind fun t781 => (some (mx t780 t781))))) = some r := h
 clear h
 obtain ⟨⟨t778, t779⟩, A6, H⟩ := zO H
 dsimp only at H
 obtain ⟨t780, A7, H⟩ := zO H
 obtain ⟨t781, A8, H⟩ := zO H
 obtain ⟨ji9, hji9⟩ : ∃ j_ : Int, (mx t780 t781) = j_ := ⟨_, rfl⟩
 replace H : (some ji9) = some r := by first | (rw [hji9] at H; exact H) | (simp only [hji9] at H ⊢; exact H)
 (try rw [hji9] at A6)
 (try rw [hji9] at A7)
 (try rw [hji9] at A8)
 have hji9_ : (if t780 < t781 then t781 else t780) = ji9 := hji9
 obtain rfl := Option.some.inj H
 go_enter Try.func111, Try.ntmps111
 go_wp2_with (first | ((with_reducible refine gate_callee (f := 106) rfl ?_); refine zD (some 19) Try.func106 #[.pointer (some ⟨g0, 0, none⟩), .int .i64 a1, .int .i64 a2, .int .i64 a3, .int .i64 a4] ?_; (with_reducible refine (impl_chi_split.calls k _ l0 a1 a2 a3 a4 t778 t779 _ ?side1 ?side2 A6.out).mono ?_); (case side1 => repeat (first | exact HR0.out | (with_reducible refine Kd.C_alloc ?_ _) | (with_reducible refine Kd.C_drewN ?_ _) | (with_reducible refine Kd.C_drew ?_))); (case side2 => exact HC0.out); rintro e w10 ⟨rfl, hb⟩; refine ⟨_, rfl, ?_⟩; replace HB := zX hb; (try clear hb)) | ((with_reducible refine gate_callee (f := 150) rfl ?_); refine zD (some 23) Try.func150 #[.int .i64 t778] ?_; (with_reducible refine (impl_single.calls k t778 t780 _ A7.out).mono ?_); rintro e w' ⟨rfl, ⟨nd, rfl⟩⟩; refine ⟨_, rfl, ?_⟩) | ((with_reducible refine gate_callee (f := 150) rfl ?_); refine zD (some 25) Try.func150 #[.int .i64 t779] ?_; (with_reducible refine (impl_single.calls k t779 t781 _ A8.out).mono ?_); rintro e w' ⟨rfl, ⟨nd, rfl⟩⟩; refine ⟨_, rfl, ?_⟩))
 go_ret
 exact ⟨by first | rfl | (simp [errW_none, errW_some] <;> rfl) | (simp only [← hji9]; first | rfl | (simp [errW_none, errW_some] <;> rfl)) | (simp [*, errW_none, errW_some] <;> rfl), zB⟩
/-! ### impl_chi_isInside: function 115 -/
def impl_chi_isInside.f (k : Nat) (l0 : List Int) (a1 : Int) (a2 : Int) (a3 : Int) (a4 : Int) : Option (Bool) := (impl_chi_inner.f k l0 a1 a2 a3 a4).bind fun t857 => (some (t857 == a1))
set_option maxHeartbeats 8000000 in
set_option maxRecDepth 100000 in
theorem impl_chi_isInside.calls (k : Nat) (g0 : Nat) (l0 : List Int) (a1 : Int) (a2 : Int) (a3 : Int) (a4 : Int) (r : Bool) (w : World) (hr0 : Kd.C (Kd.int .i64) w (some ⟨g0, 0, none⟩) l0.length l0) (hc0 : l0.length = 344) (h : impl_chi_isInside.f k l0 a1 a2 a3 a4 = some r) :
  Calls Try.prog 115 #[.pointer (some ⟨g0, 0, none⟩), .int .i64 a1, .int .i64 a2, .int .i64 a3, .int .i64 a4] w fun e w' => e = .returned (.bool r) ∧ Below w.heap.size w w' := by
 have HR0 := Aside0.mk hr0
 have HC0 := Aside0.mk hc0
 clear hr0 hc0
 have HB := Aside0.mk (Below.refl w.heap.size w)
 have H : ((impl_chi_inner.f k l0 a1 a2 a3 a4).bind fun t857 => (some (t857 == a1))) = some r := h
 clear h
 obtain ⟨t857, A6, H⟩ := zO H
 obtain rfl := Option.some.inj H
 go_enter Try.func115, Try.ntmps115
 go_wp2_with (first | ((with_reducible refine gate_callee (f := 111) rfl ?_); refine zD (some 16) Try.func111 #[.pointer (some ⟨g0, 0, none⟩), .int .i64 a1, .int .i64 a2, .int .i64 a3, .int .i64 a4] ?_; (with_reducible refine (impl_chi_inner.calls k _ l0 a1 a2 a3 a4 t857 _ ?side1 ?side2 A6.out).mono ?_); (case side1 => repeat (first | exact HR0.out | (with_reducible refine Kd.C_alloc ?_ _) | (with_reducible refine Kd.C_drewN ?_ _) | (with_reducible refine Kd.C_drew ?_))); (case side2 => exact HC0.out); rintro e w7 ⟨rfl, hb⟩; refine ⟨_, rfl, ?_⟩; replace HB := zX hb; (try clear hb)))
 go_ret
 exact ⟨zE, zB⟩
/-! ### impl_chi_inHull: function 134 -/
def impl_chi_inHull.l0 : Nat → List Int → Int → Int → List (S99) → Int → Int → Option (Bool)
 | 0, _, _, _, _, _, _ => none
 | k + 1, x0, x1, x2, x14, x15, x16 => if x16 < x15 then (if 0 ≤ x16 then (if x16 < (x14.length : Int) then (if 0 ≤ ((rd_T99 x14 x16).f0) then (if 0 ≤ ((rd_T99 x14 x16).f1) then (if 0 ≤ ((rd_T99 x14 x16).f2) then (if (Go.bits .and .i64 x1 (Go.bits .or .i64 (Go.bits .or .i64 (shl .i64 1 ((rd_T99 x14 x16).f0)) (shl .i64 1 ((rd_T99 x14 x16).f1))) (shl .i64 1 ((rd_T99 x14 x16).f2)))) = (Go.bits .or .i64 (Go.bits .or .i64 (shl .i64 1 ((rd_T99 x14 x16).f0)) (shl .i64 1 ((rd_T99 x14 x16).f1))) (shl .i64 1 ((rd_T99 x14 x16).f2))) then ((impl_chi_isInside.f k x0 x2 ((rd_T99 x14 x16).f0) ((rd_T99 x14 x16).f1) ((rd_T99 x14 x16).f2)).bind fun t995 => (if t995 = true then (some true) else (impl_chi_inHull.l0 k x0 x1 x2 x14 x15 (wrap64 (x16 + 1))))) else (impl_chi_inHull.l0 k x0 x1 x2 x14 x15 (wrap64 (x16 + 1)))) else (none)) else (none)) else (none)) else (none)) else (none)) else (some false)
def impl_chi_inHull.f (k : Nat) (l0 : List Int) (a1 : Int) (a2 : Int) : Option (Bool) := (impl_triplesOf.f k (rd l0 0)).bind fun t990 => (impl_chi_inHull.l0 k l0 a1 a2 t990 (t990.length : Int) 0)
set_option maxHeartbeats 8000000 in
set_option maxRecDepth 100000 in
theorem impl_chi_inHull.calls (k : Nat) (g0 : Nat) (l0 : List Int) (a1 : Int) (a2 : Int) (r : Bool) (w : World) (hr0 : Kd.C (Kd.int .i64) w (some ⟨g0, 0, none⟩) l0.length l0) (hc0 : l0.length = 344) (h : impl_chi_inHull.f k l0 a1 a2 = some r) :
  Calls Try.prog 134 #[.pointer (some ⟨g0, 0, none⟩), .int .i64 a1, .int .i64 a2] w fun e w' => e = .returned (.bool r) ∧ Below w.heap.size w w' := by
 have hu99 := Try.underlying99
 have hu115 := Try.underlying115
 have HR0 := Aside0.mk hr0
 have HC0 := Aside0.mk hc0
 clear hr0 hc0
 have HB := Aside0.mk (Below.refl w.heap.size w)
 have H : ((impl_triplesOf.f k (rd l0 0)).bind fun t990 => (impl_chi_inHull.l0 k l0 a1 a2 t990 (t990.length : Int) 0)) = some r := h
 clear h
 obtain ⟨t990, A4, H⟩ := zO H
 have H' := Aside0.mk H; clear H
 have hL989 := HC0.out
 have dq989 : decide (0 < (l0.length : Int)) = true := decide_eq_true (by omega)
 clear hL989
 have p989 : 0 ≤ (0 : Int) := (by omega)
 have q989 : 0 < (l0.length : Int) := zA
 obtain ⟨ad989, e989, hx989_0⟩ := Kd.at_int HR0.out 0 p989 q989
 obtain rfl : (⟨g0, 0, none⟩ : Addr) = ad989 := (by injection e989)
 (first | simp only [add_plain] at hx989_0 | simp only [add_at] at hx989_0 | simp only [Addr.add, Nat.zero_add] at hx989_0 | skip)
 have qi989 : (0 < l0.length) = True := eq_true (by omega)
 (try rw [show ((0 : Int)).toNat = 0 from rfl] at hx989_0)
 (try rw [Addr.add_zero'] at hx989_0)
 replace p989 := eq_true p989
 replace q989 := eq_true q989
 clear dq989
 go_enter Try.func134, Try.ntmps134
 go_wp2_with (first | (go_at_call 118; (with_reducible refine (impl_triplesOf.calls k (rd l0 0) t990 _ A4.out).mono ?_); rintro e w5 ⟨v991, rfl, ho0, hb⟩; have HO992 := Aside0.mk (Kd.R_lower ho0 (below_size zB)); replace HB := zX hb; (try clear hb); (try clear hb2); (try clear hk); (try clear hi); (try clear ho0); obtain ⟨Ao6, co6, eo6⟩ := Kd.R_slice HO992.out; subst eo6))
 repeat (go_quiet (first | (go_at_call 118; (with_reducible refine (impl_triplesOf.calls k (rd l0 0) t990 _ A4.out).mono ?_); rintro e w5 ⟨v991, rfl, ho0, hb⟩; have HO992 := Aside0.mk (Kd.R_lower ho0 (below_size zB)); replace HB := zX hb; (try clear hb); (try clear hb2); (try clear hk); (try clear hi); (try clear ho0); obtain ⟨Ao6, co6, eo6⟩ := Kd.R_slice HO992.out; subst eo6)); try go_wp2_with (first | (go_at_call 118; (with_reducible refine (impl_triplesOf.calls k (rd l0 0) t990 _ A4.out).mono ?_); rintro e w5 ⟨v991, rfl, ho0, hb⟩; have HO992 := Aside0.mk (Kd.R_lower ho0 (below_size zB)); replace HB := zX hb; (try clear hb); (try clear hb2); (try clear hk); (try clear hi); (try clear ho0); obtain ⟨Ao6, co6, eo6⟩ := Kd.R_slice HO992.out; subst eo6)))
 go_loopg [16] k (fun kq v16 w' => ∃ (x16_1 : Int), v16 = .int .i64 x16_1 ∧ Aside0 (impl_chi_inHull.l0 kq l0 a1 a2 t990 (t990.length : Int) x16_1 = some r) ∧ Aside0 (kq ≤ k) ∧ Aside0 (Kd.R k99 99 w' w.heap.size (fun _ => True) (.slice Ao6 t990.length co6) t990) ∧ Aside0 (Below w.heap.size w w'))
 case atStart => exact ⟨(0), zF, H', ⟨Nat.le_refl _⟩, ⟨zR HO992.out⟩, ⟨zB⟩⟩
 case round =>
 clear H'
 try clear hx989_0
 try clear p989
 try clear q989
 obtain ⟨x16_1, rfl, HA, HK1, HO_14, HB⟩ := hrel
 cases gk with
 | zero => exact absurd HA.out (by simp [impl_chi_inHull.l0])
 | succ k1 =>
 have H := HA.out
 clear HA
 simp only [impl_chi_inHull.l0] at H
 by_cases c7 : x16_1 < (t990.length : Int)
 ·rw [if_pos c7] at H
  have c7b0 := decide_eq_true c7
  clear c7
  by_cases c8 : 0 ≤ x16_1
  ·rw [if_pos c8] at H
   have c8b0 := decide_eq_true c8
   clear c8
   by_cases c9 : x16_1 < (t990.length : Int)
   ·rw [if_pos c9] at H
    have c9b0 := decide_eq_true c9
    clear c9
    by_cases c10 : 0 ≤ ((rd_T99 t990 x16_1).f0)
    ·rw [if_pos c10] at H
     have c10b0 := eq_true c10
     have c10b1 := decide_eq_true c10
     clear c10
     obtain ⟨ji11, hji11⟩ : ∃ j_ : Int, (shl .i64 1 ((rd_T99 t990 x16_1).f0)) = j_ := ⟨_, rfl⟩
     replace H : (if 0 ≤ ((rd_T99 t990 x16_1).f1) then (if 0 ≤ ((rd_T99 t990 x16_1).f2) then (if (Go.bits .and .i64 a1 (Go.bits .or .i64 (Go.bits .or .i64 (ji11) (shl .i64 1 ((rd_T99 t990 x16_1).f1))) (shl .i64 1 ((rd_T99 t990 x16_1).f2)))) = (Go.bits .or .i64 (Go.bits .or .i64 (ji11) (shl .i64 1 ((rd_T99 t990 x16_1).f1))) (shl .i64 1 ((rd_T99 t990 x16_1).f2))) then ((impl_chi_isInside.f k1 l0 a2 ((rd_T99 t990 x16_1).f0) ((rd_T99 t990 x16_1).f1) ((rd_T99 t990 x16_1).f2)).bind fun t995 => (if t995 = true then (some true) else (impl_chi_inHull.l0 k1 l0 a1 a2 t990 (t990.length : Int) (wrap64 (x16_1 + 1))))) else (impl_chi_inHull.l0 k1 l0 a1 a2 t990 (t990.length : Int) (wrap64 (x16_1 + 1)))) else (none)) else (none)) = some r := by first | (rw [hji11] at H; exact H) | (simp only [hji11] at H ⊢; exact H)
     have hji11_ : (IntKind.i64.wrap (1 * 2 ^ min ((rd_T99 t990 x16_1).f0).toNat 64)) = ji11 := hji11
     have hji11z : ((rd_T99 t990 x16_1).f0) ≤ 64 → (IntKind.i64.wrap (1 * 2 ^ ((rd_T99 t990 x16_1).f0).toNat)) = ji11 := shl_small hji11
     have hji11u : (IntKind.i64.wrap (2 ^ min ((rd_T99 t990 x16_1).f0).toNat 64)) = ji11 := by have h_ := hji11_; rw [Int.one_mul] at h_; exact h_
     have hji11v : ((rd_T99 t990 x16_1).f0) ≤ 64 → (IntKind.i64.wrap (2 ^ ((rd_T99 t990 x16_1).f0).toNat)) = ji11 := fun hle_ => by have h_ := hji11z hle_; rw [Int.one_mul] at h_; exact h_
     have hji11y : (wrap64 (1 * 2 ^ min ((rd_T99 t990 x16_1).f0).toNat 64)) = ji11 := (i64_w _).symm.trans hji11_
     have hji11x : ((rd_T99 t990 x16_1).f0) ≤ 64 → (wrap64 (1 * 2 ^ ((rd_T99 t990 x16_1).f0).toNat)) = ji11 := fun h_ => (i64_w _).symm.trans (hji11z h_)
     by_cases c12 : 0 ≤ ((rd_T99 t990 x16_1).f1)
     ·rw [if_pos c12] at H
      have c12b0 := eq_true c12
      have c12b1 := decide_eq_true c12
      clear c12
      obtain ⟨ji13, hji13⟩ : ∃ j_ : Int, (shl .i64 1 ((rd_T99 t990 x16_1).f1)) = j_ := ⟨_, rfl⟩
      replace H : (if 0 ≤ ((rd_T99 t990 x16_1).f2) then (if (Go.bits .and .i64 a1 (Go.bits .or .i64 (Go.bits .or .i64 (ji11) (ji13)) (shl .i64 1 ((rd_T99 t990 x16_1).f2)))) = (Go.bits .or .i64 (Go.bits .or .i64 (ji11) (ji13)) (shl .i64 1 ((rd_T99 t990 x16_1).f2))) then ((impl_chi_isInside.f k1 l0 a2 ((rd_T99 t990 x16_1).f0) ((rd_T99 t990 x16_1).f1) ((rd_T99 t990 x16_1).f2)).bind fun t995 => (if t995 = true then (some true) else (impl_chi_inHull.l0 k1 l0 a1 a2 t990 (t990.length : Int) (wrap64 (x16_1 + 1))))) else (impl_chi_inHull.l0 k1 l0 a1 a2 t990 (t990.length : Int) (wrap64 (x16_1 + 1)))) else (none)) = some r := by first | (rw [hji13] at H; exact H) | (simp only [hji13] at H ⊢; exact H)
      have hji13_ : (IntKind.i64.wrap (1 * 2 ^ min ((rd_T99 t990 x16_1).f1).toNat 64)) = ji13 := hji13
      have hji13z : ((rd_T99 t990 x16_1).f1) ≤ 64 → (IntKind.i64.wrap (1 * 2 ^ ((rd_T99 t990 x16_1).f1).toNat)) = ji13 := shl_small hji13
      have hji13u : (IntKind.i64.wrap (2 ^ min ((rd_T99 t990 x16_1).f1).toNat 64)) = ji13 := by have h_ := hji13_; rw [Int.one_mul] at h_; exact h_
      have hji13v : ((rd_T99 t990 x16_1).f1) ≤ 64 → (IntKind.i64.wrap (2 ^ ((rd_T99 t990 x16_1).f1).toNat)) = ji13 := fun hle_ => by have h_ := hji13z hle_; rw [Int.one_mul] at h_; exact h_
      have hji13y : (wrap64 (1 * 2 ^ min ((rd_T99 t990 x16_1).f1).toNat 64)) = ji13 := (i64_w _).symm.trans hji13_
      have hji13x : ((rd_T99 t990 x16_1).f1) ≤ 64 → (wrap64 (1 * 2 ^ ((rd_T99 t990 x16_1).f1).toNat)) = ji13 := fun h_ => (i64_w _).symm.trans (hji13z h_)
      by_cases c14 : 0 ≤ ((rd_T99 t990 x16_1).f2)
      ·rw [if_pos c14] at H
       have c14b0 := eq_true c14
       have c14b1 := decide_eq_true c14
       clear c14
       obtain ⟨ji15, hji15⟩ : ∃ j_ : Int, (shl .i64 1 ((rd_T99 t990 x16_1).f2)) = j_ := ⟨_, rfl⟩
       replace H : (if (Go.bits .and .i64 a1 (Go.bits .or .i64 (Go.bits .or .i64 (ji11) (ji13)) (ji15))) = (Go.bits .or .i64 (Go.bits .or .i64 (ji11) (ji13)) (ji15)) then ((impl_chi_isInside.f k1 l0 a2 ((rd_T99 t990 x16_1).f0) ((rd_T99 t990 x16_1).f1) ((rd_T99 t990 x16_1).f2)).bind fun t995 => (if t995 = true then (some true) else (impl_chi_inHull.l0 k1 l0 a1 a2 t990 (t990.length : Int) (wrap64 (x16_1 + 1))))) else (impl_chi_inHull.l0 k1 l0 a1 a2 t990 (t990.length : Int) (wrap64 (x16_1 + 1)))) = some r := by first | (rw [hji15] at H; exact H) | (simp only [hji15] at H ⊢; exact H)
       have hji15_ : (IntKind.i64.wrap (1 * 2 ^ min ((rd_T99 t990 x16_1).f2).toNat 64)) = ji15 := hji15
       have hji15z : ((rd_T99 t990 x16_1).f2) ≤ 64 → (IntKind.i64.wrap (1 * 2 ^ ((rd_T99 t990 x16_1).f2).toNat)) = ji15 := shl_small hji15
       have hji15u : (IntKind.i64.wrap (2 ^ min ((rd_T99 t990 x16_1).f2).toNat 64)) = ji15 := by have h_ := hji15_; rw [Int.one_mul] at h_; exact h_
       have hji15v : ((rd_T99 t990 x16_1).f2) ≤ 64 → (IntKind.i64.wrap (2 ^ ((rd_T99 t990 x16_1).f2).toNat)) = ji15 := fun hle_ => by have h_ := hji15z hle_; rw [Int.one_mul] at h_; exact h_
       have hji15y : (wrap64 (1 * 2 ^ min ((rd_T99 t990 x16_1).f2).toNat 64)) = ji15 := (i64_w _).symm.trans hji15_
       have hji15x : ((rd_T99 t990 x16_1).f2) ≤ 64 → (wrap64 (1 * 2 ^ ((rd_T99 t990 x16_1).f2).toNat)) = ji15 := fun h_ => (i64_w _).symm.trans (hji15z h_)
       by_cases c16 : (Go.bits .and .i64 a1 (Go.bits .or .i64 (Go.bits .or .i64 (ji11) (ji13)) (ji15))) = (Go.bits .or .i64 (Go.bits .or .i64 (ji11) (ji13)) (ji15))
       ·rw [if_pos c16] at H
        have c16b0 := beq_iff_eq.mpr c16
        have c16b1 := bne_eq_false_iff_eq.mpr c16
        clear c16
        obtain ⟨t995, A17, H⟩ := zO H
        by_cases c18 : t995 = true
        ·subst c18
         replace H := (if_pos rfl).symm.trans H
         obtain rfl := Option.some.inj H
         have p993 : 0 ≤ (x16_1 : Int) := zA
         have q993 : x16_1 < (t990.length : Int) := zA
         obtain ⟨ad993, e993, hx993_0, hx993_1, hx993_2⟩ := at_T99 (Kd.R_reads' HO_14.out).2.2 x16_1 p993 q993
         cases e993
         replace p993 := eq_true p993
         replace q993 := eq_true q993
         go_wp2_with (first | ((with_reducible refine gate_dst (N := 8) rfl ?_); refine zBx (N := 8) #[.int .i64 0, .int .i64 0, .int .i64 0] 99 ?_; intro gb994 hg w19 hbox hb; replace HO_14 := Aside0.mk (Kd.R_below (Kd.R_elderB (zR HO_14.out) gb994 (Nat.le_of_eq hg.symm)) hb); have BK994 := Aside0.mk (hbox); have GW994 := zS hg; have GE994 := zS hg; replace HB := zX hb; clear hb hbox hg; obtain ⟨hcz20_0, hcz20_1, hcz20_2, hfz20_0, hfz20_1, hfz20_2⟩ := zq3 BK994.out) | (go_at_call 115; (with_reducible refine (impl_chi_isInside.calls k1 _ l0 a2 ((rd_T99 t990 x16_1).f0) ((rd_T99 t990 x16_1).f1) ((rd_T99 t990 x16_1).f2) true _ ?side1 ?side2 A17.out).mono ?_); (case side1 => exact Kd.C_below HR0.out (zG GE994.out)); (case side2 => exact HC0.out); rintro e w21 ⟨rfl, hb⟩; replace HO_14 := Aside0.mk (Kd.R_below (by (with_reducible repeat (first | apply Kd.R_alloc | apply Kd.R_drewN | apply Kd.R_drew)); exact (Kd.R_mono (Kd.R_far (p := ⟨gb994, 2, none⟩) (Kd.R_far (p := ⟨gb994, 1, none⟩) (Kd.R_far (p := ⟨gb994, 0, none⟩) (Kd.R_mono HO_14.out (fun k_ hk => (⟨hk, hk.2⟩ : _ ∧ k_ ≠ gb994))) (fun _ hk => hk.2) (.int .i64 ((rd_T99 t990 x16_1).f0))) (fun _ hk => hk.2) (.int .i64 ((rd_T99 t990 x16_1).f1))) (fun _ hk => hk.2) (.int .i64 ((rd_T99 t990 x16_1).f2))) (fun _ h_ => h_.1))) hb); replace BK994 := Aside0.mk (blk_below (g := gb994) (o := .cells #[.int .i64 ((rd_T99 t990 x16_1).f0), .int .i64 ((rd_T99 t990 x16_1).f1), .int .i64 ((rd_T99 t990 x16_1).f2)] 99 (0, 0)) (zk0 BK994.out) hb); replace HB := zX1 GE994.out hb; (try clear hb); (try clear hb2); (try clear hk); (try clear hi)))
         repeat (go_quiet (first | ((with_reducible refine gate_dst (N := 8) rfl ?_); refine zBx (N := 8) #[.int .i64 0, .int .i64 0, .int .i64 0] 99 ?_; intro gb994 hg w19 hbox hb; replace HO_14 := Aside0.mk (Kd.R_below (Kd.R_elderB (zR HO_14.out) gb994 (Nat.le_of_eq hg.symm)) hb); have BK994 := Aside0.mk (hbox); have GW994 := zS hg; have GE994 := zS hg; replace HB := zX hb; clear hb hbox hg; obtain ⟨hcz20_0, hcz20_1, hcz20_2, hfz20_0, hfz20_1, hfz20_2⟩ := zq3 BK994.out) | (go_at_call 115; (with_reducible refine (impl_chi_isInside.calls k1 _ l0 a2 ((rd_T99 t990 x16_1).f0) ((rd_T99 t990 x16_1).f1) ((rd_T99 t990 x16_1).f2) true _ ?side1 ?side2 A17.out).mono ?_); (case side1 => exact Kd.C_below HR0.out (zG GE994.out)); (case side2 => exact HC0.out); rintro e w21 ⟨rfl, hb⟩; replace HO_14 := Aside0.mk (Kd.R_below (by (with_reducible repeat (first | apply Kd.R_alloc | apply Kd.R_drewN | apply Kd.R_drew)); exact (Kd.R_mono (Kd.R_far (p := ⟨gb994, 2, none⟩) (Kd.R_far (p := ⟨gb994, 1, none⟩) (Kd.R_far (p := ⟨gb994, 0, none⟩) (Kd.R_mono HO_14.out (fun k_ hk => (⟨hk, hk.2⟩ : _ ∧ k_ ≠ gb994))) (fun _ hk => hk.2) (.int .i64 ((rd_T99 t990 x16_1).f0))) (fun _ hk => hk.2) (.int .i64 ((rd_T99 t990 x16_1).f1))) (fun _ hk => hk.2) (.int .i64 ((rd_T99 t990 x16_1).f2))) (fun _ h_ => h_.1))) hb); replace BK994 := Aside0.mk (blk_below (g := gb994) (o := .cells #[.int .i64 ((rd_T99 t990 x16_1).f0), .int .i64 ((rd_T99 t990 x16_1).f1), .int .i64 ((rd_T99 t990 x16_1).f2)] 99 (0, 0)) (zk0 BK994.out) hb); replace HB := zX1 GE994.out hb; (try clear hb); (try clear hb2); (try clear hk); (try clear hi))); try go_wp2_with (first | ((with_reducible refine gate_dst (N := 8) rfl ?_); refine zBx (N := 8) #[.int .i64 0, .int .i64 0, .int .i64 0] 99 ?_; intro gb994 hg w19 hbox hb; replace HO_14 := Aside0.mk (Kd.R_below (Kd.R_elderB (zR HO_14.out) gb994 (Nat.le_of_eq hg.symm)) hb); have BK994 := Aside0.mk (hbox); have GW994 := zS hg; have GE994 := zS hg; replace HB := zX hb; clear hb hbox hg; obtain ⟨hcz20_0, hcz20_1, hcz20_2, hfz20_0, hfz20_1, hfz20_2⟩ := zq3 BK994.out) | (go_at_call 115; (with_reducible refine (impl_chi_isInside.calls k1 _ l0 a2 ((rd_T99 t990 x16_1).f0) ((rd_T99 t990 x16_1).f1) ((rd_T99 t990 x16_1).f2) true _ ?side1 ?side2 A17.out).mono ?_); (case side1 => exact Kd.C_below HR0.out (zG GE994.out)); (case side2 => exact HC0.out); rintro e w21 ⟨rfl, hb⟩; replace HO_14 := Aside0.mk (Kd.R_below (by (with_reducible repeat (first | apply Kd.R_alloc | apply Kd.R_drewN | apply Kd.R_drew)); exact (Kd.R_mono (Kd.R_far (p := ⟨gb994, 2, none⟩) (Kd.R_far (p := ⟨gb994, 1, none⟩) (Kd.R_far (p := ⟨gb994, 0, none⟩) (Kd.R_mono HO_14.out (fun k_ hk => (⟨hk, hk.2⟩ : _ ∧ k_ ≠ gb994))) (fun _ hk => hk.2) (.int .i64 ((rd_T99 t990 x16_1).f0))) (fun _ hk => hk.2) (.int .i64 ((rd_T99 t990 x16_1).f1))) (fun _ hk => hk.2) (.int .i64 ((rd_T99 t990 x16_1).f2))) (fun _ h_ => h_.1))) hb); replace BK994 := Aside0.mk (blk_below (g := gb994) (o := .cells #[.int .i64 ((rd_T99 t990 x16_1).f0), .int .i64 ((rd_T99 t990 x16_1).f1), .int .i64 ((rd_T99 t990 x16_1).f2)] 99 (0, 0)) (zk0 BK994.out) hb); replace HB := zX1 GE994.out hb; (try clear hb); (try clear hb2); (try clear hk); (try clear hi))))
         go_ret
         exact ⟨by first | rfl | (simp [errW_none, errW_some] <;> rfl) | (simp only [← hji11, ← hji13, ← hji15]; first | rfl | (simp [errW_none, errW_some] <;> rfl)) | (simp [*, errW_none, errW_some] <;> rfl), zG GE994.out⟩
        replace c18 := Bool.eq_false_iff.mpr c18
        subst c18
        replace H := (if_neg zFf).symm.trans H
        have H' := Aside0.mk H; clear H
        have p993 : 0 ≤ (x16_1 : Int) := zA
        have q993 : x16_1 < (t990.length : Int) := zA
        obtain ⟨ad993, e993, hx993_0, hx993_1, hx993_2⟩ := at_T99 (Kd.R_reads' HO_14.out).2.2 x16_1 p993 q993
        cases e993
        replace p993 := eq_true p993
        replace q993 := eq_true q993
        go_wp2_with (first | ((with_reducible refine gate_dst (N := 8) rfl ?_); refine zBx (N := 8) #[.int .i64 0, .int .i64 0, .int .i64 0] 99 ?_; intro gb994 hg w22 hbox hb; replace HO_14 := Aside0.mk (Kd.R_below (Kd.R_elderB (zR HO_14.out) gb994 (Nat.le_of_eq hg.symm)) hb); have BK994 := Aside0.mk (hbox); have GW994 := zS hg; have GE994 := zS hg; replace HB := zX hb; clear hb hbox hg; obtain ⟨hcz23_0, hcz23_1, hcz23_2, hfz23_0, hfz23_1, hfz23_2⟩ := zq3 BK994.out) | (go_at_call 115; (with_reducible refine (impl_chi_isInside.calls k1 _ l0 a2 ((rd_T99 t990 x16_1).f0) ((rd_T99 t990 x16_1).f1) ((rd_T99 t990 x16_1).f2) false _ ?side1 ?side2 A17.out).mono ?_); (case side1 => exact Kd.C_below HR0.out (zG GE994.out)); (case side2 => exact HC0.out); rintro e w24 ⟨rfl, hb⟩; replace HO_14 := Aside0.mk (Kd.R_below (by (with_reducible repeat (first | apply Kd.R_alloc | apply Kd.R_drewN | apply Kd.R_drew)); exact (Kd.R_mono (Kd.R_far (p := ⟨gb994, 2, none⟩) (Kd.R_far (p := ⟨gb994, 1, none⟩) (Kd.R_far (p := ⟨gb994, 0, none⟩) (Kd.R_mono HO_14.out (fun k_ hk => (⟨hk, hk.2⟩ : _ ∧ k_ ≠ gb994))) (fun _ hk => hk.2) (.int .i64 ((rd_T99 t990 x16_1).f0))) (fun _ hk => hk.2) (.int .i64 ((rd_T99 t990 x16_1).f1))) (fun _ hk => hk.2) (.int .i64 ((rd_T99 t990 x16_1).f2))) (fun _ h_ => h_.1))) hb); replace BK994 := Aside0.mk (blk_below (g := gb994) (o := .cells #[.int .i64 ((rd_T99 t990 x16_1).f0), .int .i64 ((rd_T99 t990 x16_1).f1), .int .i64 ((rd_T99 t990 x16_1).f2)] 99 (0, 0)) (zk0 BK994.out) hb); replace HB := zX1 GE994.out hb; (try clear hb); (try clear hb2); (try clear hk); (try clear hi)))
        repeat (go_quiet (first | ((with_reducible refine gate_dst (N := 8) rfl ?_); refine zBx (N := 8) #[.int .i64 0, .int .i64 0, .int .i64 0] 99 ?_; intro gb994 hg w22 hbox hb; replace HO_14 := Aside0.mk (Kd.R_below (Kd.R_elderB (zR HO_14.out) gb994 (Nat.le_of_eq hg.symm)) hb); have BK994 := Aside0.mk (hbox); have GW994 := zS hg; have GE994 := zS hg; replace HB := zX hb; clear hb hbox hg; obtain ⟨hcz23_0, hcz23_1, hcz23_2, hfz23_0, hfz23_1, hfz23_2⟩ := zq3 BK994.out) | (go_at_call 115; (with_reducible refine (impl_chi_isInside.calls k1 _ l0 a2 ((rd_T99 t990 x16_1).f0) ((rd_T99 t990 x16_1).f1) ((rd_T99 t990 x16_1).f2) false _ ?side1 ?side2 A17.out).mono ?_); (case side1 => exact Kd.C_below HR0.out (zG GE994.out)); (case side2 => exact HC0.out); rintro e w24 ⟨rfl, hb⟩; replace HO_14 := Aside0.mk (Kd.R_below (by (with_reducible repeat (first | apply Kd.R_alloc | apply Kd.R_drewN | apply Kd.R_drew)); exact (Kd.R_mono (Kd.R_far (p := ⟨gb994, 2, none⟩) (Kd.R_far (p := ⟨gb994, 1, none⟩) (Kd.R_far (p := ⟨gb994, 0, none⟩) (Kd.R_mono HO_14.out (fun k_ hk => (⟨hk, hk.2⟩ : _ ∧ k_ ≠ gb994))) (fun _ hk => hk.2) (.int .i64 ((rd_T99 t990 x16_1).f0))) (fun _ hk => hk.2) (.int .i64 ((rd_T99 t990 x16_1).f1))) (fun _ hk => hk.2) (.int .i64 ((rd_T99 t990 x16_1).f2))) (fun _ h_ => h_.1))) hb); replace BK994 := Aside0.mk (blk_below (g := gb994) (o := .cells #[.int .i64 ((rd_T99 t990 x16_1).f0), .int .i64 ((rd_T99 t990 x16_1).f1), .int .i64 ((rd_T99 t990 x16_1).f2)] 99 (0, 0)) (zk0 BK994.out) hb); replace HB := zX1 GE994.out hb; (try clear hb); (try clear hb2); (try clear hk); (try clear hi))); try go_wp2_with (first | ((with_reducible refine gate_dst (N := 8) rfl ?_); refine zBx (N := 8) #[.int .i64 0, .int .i64 0, .int .i64 0] 99 ?_; intro gb994 hg w22 hbox hb; replace HO_14 := Aside0.mk (Kd.R_below (Kd.R_elderB (zR HO_14.out) gb994 (Nat.le_of_eq hg.symm)) hb); have BK994 := Aside0.mk (hbox); have GW994 := zS hg; have GE994 := zS hg; replace HB := zX hb; clear hb hbox hg; obtain ⟨hcz23_0, hcz23_1, hcz23_2, hfz23_0, hfz23_1, hfz23_2⟩ := zq3 BK994.out) | (go_at_call 115; (with_reducible refine (impl_chi_isInside.calls k1 _ l0 a2 ((rd_T99 t990 x16_1).f0) ((rd_T99 t990 x16_1).f1) ((rd_T99 t990 x16_1).f2) false _ ?side1 ?side2 A17.out).mono ?_); (case side1 => exact Kd.C_below HR0.out (zG GE994.out)); (case side2 => exact HC0.out); rintro e w24 ⟨rfl, hb⟩; replace HO_14 := Aside0.mk (Kd.R_below (by (with_reducible repeat (first | apply Kd.R_alloc | apply Kd.R_drewN | apply Kd.R_drew)); exact (Kd.R_mono (Kd.R_far (p := ⟨gb994, 2, none⟩) (Kd.R_far (p := ⟨gb994, 1, none⟩) (Kd.R_far (p := ⟨gb994, 0, none⟩) (Kd.R_mono HO_14.out (fun k_ hk => (⟨hk, hk.2⟩ : _ ∧ k_ ≠ gb994))) (fun _ hk => hk.2) (.int .i64 ((rd_T99 t990 x16_1).f0))) (fun _ hk => hk.2) (.int .i64 ((rd_T99 t990 x16_1).f1))) (fun _ hk => hk.2) (.int .i64 ((rd_T99 t990 x16_1).f2))) (fun _ h_ => h_.1))) hb); replace BK994 := Aside0.mk (blk_below (g := gb994) (o := .cells #[.int .i64 ((rd_T99 t990 x16_1).f0), .int .i64 ((rd_T99 t990 x16_1).f1), .int .i64 ((rd_T99 t990 x16_1).f2)] 99 (0, 0)) (zk0 BK994.out) hb); replace HB := zX1 GE994.out hb; (try clear hb); (try clear hb2); (try clear hk); (try clear hi))))
        go_roundg k1
        case measure => have := HK1.out; omega
        case rel => exact ⟨(wrap64 (x16_1 + 1)), zF, H', ⟨by have := HK1.out; omega⟩, ⟨by (with_reducible repeat (first | apply Kd.R_alloc | apply Kd.R_drewN | apply Kd.R_drew)); exact Kd.R_mono HO_14.out (fun _ hk => trivial)⟩, ⟨zG GE994.out⟩⟩
       rw [if_neg c16] at H
       have c16b0 := beq_eq_false_iff_ne.mpr c16
       have c16b1 := bne_iff_ne.mpr c16
       have H' := Aside0.mk H; clear H
       have p993 : 0 ≤ (x16_1 : Int) := zA
       have q993 : x16_1 < (t990.length : Int) := zA
       obtain ⟨ad993, e993, hx993_0, hx993_1, hx993_2⟩ := at_T99 (Kd.R_reads' HO_14.out).2.2 x16_1 p993 q993
       cases e993
       replace p993 := eq_true p993
       replace q993 := eq_true q993
       go_wp2_with (first | ((with_reducible refine gate_dst (N := 8) rfl ?_); refine zBx (N := 8) #[.int .i64 0, .int .i64 0, .int .i64 0] 99 ?_; intro gb994 hg w25 hbox hb; replace HO_14 := Aside0.mk (Kd.R_below (Kd.R_elderB (zR HO_14.out) gb994 (Nat.le_of_eq hg.symm)) hb); have BK994 := Aside0.mk (hbox); have GW994 := zS hg; have GE994 := zS hg; replace HB := zX hb; clear hb hbox hg; obtain ⟨hcz26_0, hcz26_1, hcz26_2, hfz26_0, hfz26_1, hfz26_2⟩ := zq3 BK994.out))
       repeat (go_quiet (first | ((with_reducible refine gate_dst (N := 8) rfl ?_); refine zBx (N := 8) #[.int .i64 0, .int .i64 0, .int .i64 0] 99 ?_; intro gb994 hg w25 hbox hb; replace HO_14 := Aside0.mk (Kd.R_below (Kd.R_elderB (zR HO_14.out) gb994 (Nat.le_of_eq hg.symm)) hb); have BK994 := Aside0.mk (hbox); have GW994 := zS hg; have GE994 := zS hg; replace HB := zX hb; clear hb hbox hg; obtain ⟨hcz26_0, hcz26_1, hcz26_2, hfz26_0, hfz26_1, hfz26_2⟩ := zq3 BK994.out)); try go_wp2_with (first | ((with_reducible refine gate_dst (N := 8) rfl ?_); refine zBx (N := 8) #[.int .i64 0, .int .i64 0, .int .i64 0] 99 ?_; intro gb994 hg w25 hbox hb; replace HO_14 := Aside0.mk (Kd.R_below (Kd.R_elderB (zR HO_14.out) gb994 (Nat.le_of_eq hg.symm)) hb); have BK994 := Aside0.mk (hbox); have GW994 := zS hg; have GE994 := zS hg; replace HB := zX hb; clear hb hbox hg; obtain ⟨hcz26_0, hcz26_1, hcz26_2, hfz26_0, hfz26_1, hfz26_2⟩ := zq3 BK994.out)))
       go_roundg k1
       case measure => have := HK1.out; omega
       case rel => exact ⟨(wrap64 (x16_1 + 1)), zF, H', ⟨by have := HK1.out; omega⟩, ⟨by (with_reducible repeat (first | apply Kd.R_alloc | apply Kd.R_drewN | apply Kd.R_drew)); exact Kd.R_mono (Kd.R_far (p := ⟨gb994, 2, none⟩) (Kd.R_far (p := ⟨gb994, 1, none⟩) (Kd.R_far (p := ⟨gb994, 0, none⟩) (Kd.R_mono HO_14.out (fun k_ hk => (⟨hk, hk.2⟩ : _ ∧ k_ ≠ gb994))) (fun _ hk => hk.2) (.int .i64 ((rd_T99 t990 x16_1).f0))) (fun _ hk => hk.2) (.int .i64 ((rd_T99 t990 x16_1).f1))) (fun _ hk => hk.2) (.int .i64 ((rd_T99 t990 x16_1).f2))) (fun _ hk => trivial)⟩, ⟨zG GE994.out⟩⟩
      rw [if_neg c14] at H
      exact absurd H (by simp)
     rw [if_neg c12] at H
     exact absurd H (by simp)
    rw [if_neg c10] at H
    exact absurd H (by simp)
   rw [if_neg c9] at H
   exact absurd H (by simp)
  rw [if_neg c8] at H
  exact absurd H (by simp)
 rw [if_neg c7] at H
 have c7b0 := decide_eq_false c7
 clear c7
 obtain rfl := Option.some.inj H
 go_wp2
 repeat (go_quiet (fail); try go_wp2)
 go_ret
 exact ⟨zE, zB⟩
/-! ### impl_chi_extremeIn: function 122 -/
def impl_chi_extremeIn.l0 : Nat → List Int → Int → Int → Int → Option (Int)
 | 0, _, _, _, _ => none
 | k + 1, x0, x1, x5, x6 => if x6 < (rd x0 0) then (if 0 ≤ x6 then (if (Go.bits .and .i64 (shr .i64 x1 x6) 1) = 1 then ((impl_chi_inHull.f k x0 (Go.bits .andNot .i64 x1 (shl .i64 1 x6)) x6).bind fun t997 => (if t997 = true then (impl_chi_extremeIn.l0 k x0 x1 x5 (wrap64 (x6 + 1))) else (impl_chi_extremeIn.l0 k x0 x1 (Go.bits .or .i64 x5 (shl .i64 1 x6)) (wrap64 (x6 + 1))))) else (impl_chi_extremeIn.l0 k x0 x1 x5 (wrap64 (x6 + 1)))) else (none)) else (some x5)
def impl_chi_extremeIn.f (k : Nat) (l0 : List Int) (a1 : Int) : Option (Int) := impl_chi_extremeIn.l0 k l0 a1 0 0
set_option maxHeartbeats 8000000 in
set_option maxRecDepth 100000 in
theorem impl_chi_extremeIn.calls (k : Nat) (g0 : Nat) (l0 : List Int) (a1 : Int) (r : Int) (w : World) (hr0 : Kd.C (Kd.int .i64) w (some ⟨g0, 0, none⟩) l0.length l0) (hc0 : l0.length = 344) (h : impl_chi_extremeIn.f k l0 a1 = some r) :
  Calls Try.prog 122 #[.pointer (some ⟨g0, 0, none⟩), .int .i64 a1] w fun e w' => e = .returned (.int .i64 r) ∧ Below w.heap.size w w' := by
 have hu115 := Try.underlying115
 have HR0 := Aside0.mk hr0
 have HC0 := Aside0.mk hc0
 clear hr0 hc0
 have HB := Aside0.mk (Below.refl w.heap.size w)
 have H : (impl_chi_extremeIn.l0 k l0 a1 0 0) = some r := h
 clear h
 have H' := Aside0.mk H; clear H
 go_enter Try.func122, Try.ntmps122
 go_wp2
 go_loopg [5, 6] k (fun kq v5 v6 w' => ∃ (x5_1 : Int) (x6_1 : Int), v5 = .int .i64 x5_1 ∧ v6 = .int .i64 x6_1 ∧ Aside0 (impl_chi_extremeIn.l0 kq l0 a1 x5_1 x6_1 = some r) ∧ Aside0 (kq ≤ k) ∧ Aside0 (Below w.heap.size w w'))
 case atStart => exact ⟨(0), (0), zF, zF, H', ⟨Nat.le_refl _⟩, ⟨zB⟩⟩
 case round =>
 clear H'
 obtain ⟨x5_1, x6_1, rfl, rfl, HA, HK1, HB⟩ := hrel
 cases gk with
 | zero => exact absurd HA.out (by simp [impl_chi_extremeIn.l0])
 | succ k1 =>
 have H := HA.out
 clear HA
 simp only [impl_chi_extremeIn.l0] at H
 by_cases c3 : x6_1 < (rd l0 0)
 ·rw [if_pos c3] at H
  have c3b0 := decide_eq_true c3
  clear c3
  by_cases c4 : 0 ≤ x6_1
  ·rw [if_pos c4] at H
   have c4b0 := eq_true c4
   have c4b1 := decide_eq_true c4
   clear c4
   obtain ⟨ji5, hji5⟩ : ∃ j_ : Int, (shr .i64 a1 x6_1) = j_ := ⟨_, rfl⟩
   replace H : (if (Go.bits .and .i64 (ji5) 1) = 1 then ((impl_chi_inHull.f k1 l0 (Go.bits .andNot .i64 a1 (shl .i64 1 x6_1)) x6_1).bind fun t997 => (if t997 = true then (impl_chi_extremeIn.l0 k1 l0 a1 x5_1 (wrap64 (x6_1 + 1))) else (impl_chi_extremeIn.l0 k1 l0 a1 (Go.bits .or .i64 x5_1 (shl .i64 1 x6_1)) (wrap64 (x6_1 + 1))))) else (impl_chi_extremeIn.l0 k1 l0 a1 x5_1 (wrap64 (x6_1 + 1)))) = some r := by first | (rw [hji5] at H; exact H) | (simp only [hji5] at H ⊢; exact H)
   have hji5_ : (a1 / 2 ^ min x6_1.toNat 64) = ji5 := hji5
   have hji5z : x6_1 ≤ 64 → (a1 / 2 ^ x6_1.toNat) = ji5 := shr_small hji5
   by_cases c6 : (Go.bits .and .i64 (ji5) 1) = 1
   ·rw [if_pos c6] at H
    have c6b0 := beq_iff_eq.mpr c6
    have c6b1 := bne_eq_false_iff_eq.mpr c6
    clear c6
    have c7b0 := eq_true (zA : 0 ≤ x6_1)
    obtain ⟨ji8, hji8⟩ : ∃ j_ : Int, (shl .i64 1 x6_1) = j_ := ⟨_, rfl⟩
    replace H : ((impl_chi_inHull.f k1 l0 (Go.bits .andNot .i64 a1 (ji8)) x6_1).bind fun t997 => (if t997 = true then (impl_chi_extremeIn.l0 k1 l0 a1 x5_1 (wrap64 (x6_1 + 1))) else (impl_chi_extremeIn.l0 k1 l0 a1 (Go.bits .or .i64 x5_1 (ji8)) (wrap64 (x6_1 + 1))))) = some r := by first | (rw [hji8] at H; exact H) | (simp only [hji8] at H ⊢; exact H)
    have hji8_ : (IntKind.i64.wrap (1 * 2 ^ min x6_1.toNat 64)) = ji8 := hji8
    have hji8z : x6_1 ≤ 64 → (IntKind.i64.wrap (1 * 2 ^ x6_1.toNat)) = ji8 := shl_small hji8
    have hji8u : (IntKind.i64.wrap (2 ^ min x6_1.toNat 64)) = ji8 := by have h_ := hji8_; rw [Int.one_mul] at h_; exact h_
    have hji8v : x6_1 ≤ 64 → (IntKind.i64.wrap (2 ^ x6_1.toNat)) = ji8 := fun hle_ => by have h_ := hji8z hle_; rw [Int.one_mul] at h_; exact h_
    have hji8y : (wrap64 (1 * 2 ^ min x6_1.toNat 64)) = ji8 := (i64_w _).symm.trans hji8_
    have hji8x : x6_1 ≤ 64 → (wrap64 (1 * 2 ^ x6_1.toNat)) = ji8 := fun h_ => (i64_w _).symm.trans (hji8z h_)
    obtain ⟨t997, A9, H⟩ := zO H
    by_cases c10 : t997 = true
    ·subst c10
     replace H := (if_pos rfl).symm.trans H
     have H' := Aside0.mk H; clear H
     have hL996 := HC0.out
     have dq996 : decide (0 < (l0.length : Int)) = true := decide_eq_true (by omega)
     clear hL996
     have p996 : 0 ≤ (0 : Int) := (by omega)
     have q996 : 0 < (l0.length : Int) := zA
     obtain ⟨ad996, e996, hx996_0⟩ := Kd.at_int HR0.out 0 p996 q996
     obtain rfl : (⟨g0, 0, none⟩ : Addr) = ad996 := (by injection e996)
     (first | simp only [add_plain] at hx996_0 | simp only [add_at] at hx996_0 | simp only [Addr.add, Nat.zero_add] at hx996_0 | skip)
     have qi996 : (0 < l0.length) = True := eq_true (by omega)
     (try rw [show ((0 : Int)).toNat = 0 from rfl] at hx996_0)
     (try rw [Addr.add_zero'] at hx996_0)
     replace hx996_0 := (HB.out.cell (World.block_lt_of_cell? w _ hx996_0)).trans hx996_0
     replace p996 := eq_true p996
     replace q996 := eq_true q996
     clear dq996
     go_wp2_with (first | (go_at_call 134; (with_reducible refine (impl_chi_inHull.calls k1 _ l0 (Go.bits .andNot .i64 a1 (ji8)) x6_1 true _ ?side1 ?side2 A9.out).mono ?_); (case side1 => repeat (first | exact (Kd.C_below HR0.out HB.out) | (with_reducible refine Kd.C_alloc ?_ _) | (with_reducible refine Kd.C_drewN ?_ _) | (with_reducible refine Kd.C_drew ?_))); (case side2 => exact HC0.out); rintro e w11 ⟨rfl, hb⟩; replace HB := zX hb; (try clear hb); (try clear hb2); (try clear hk); (try clear hi)))
     go_roundg k1
     case measure => have := HK1.out; omega
     case rel => exact ⟨(x5_1), (wrap64 (x6_1 + 1)), zF, zF, H', ⟨by have := HK1.out; omega⟩, ⟨zB⟩⟩
    replace c10 := Bool.eq_false_iff.mpr c10
    subst c10
    replace H := (if_neg zFf).symm.trans H
    have c12b0 := eq_true (zA : 0 ≤ x6_1)
    have H' := Aside0.mk H; clear H
    have hL996 := HC0.out
    have dq996 : decide (0 < (l0.length : Int)) = true := decide_eq_true (by omega)
    clear hL996
    have p996 : 0 ≤ (0 : Int) := (by omega)
    have q996 : 0 < (l0.length : Int) := zA
    obtain ⟨ad996, e996, hx996_0⟩ := Kd.at_int HR0.out 0 p996 q996
    obtain rfl : (⟨g0, 0, none⟩ : Addr) = ad996 := (by injection e996)
    (first | simp only [add_plain] at hx996_0 | simp only [add_at] at hx996_0 | simp only [Addr.add, Nat.zero_add] at hx996_0 | skip)
    have qi996 : (0 < l0.length) = True := eq_true (by omega)
    (try rw [show ((0 : Int)).toNat = 0 from rfl] at hx996_0)
    (try rw [Addr.add_zero'] at hx996_0)
    replace hx996_0 := (HB.out.cell (World.block_lt_of_cell? w _ hx996_0)).trans hx996_0
    replace p996 := eq_true p996
    replace q996 := eq_true q996
    clear dq996
    go_wp2_with (first | (go_at_call 134; (with_reducible refine (impl_chi_inHull.calls k1 _ l0 (Go.bits .andNot .i64 a1 (ji8)) x6_1 false _ ?side1 ?side2 A9.out).mono ?_); (case side1 => repeat (first | exact (Kd.C_below HR0.out HB.out) | (with_reducible refine Kd.C_alloc ?_ _) | (with_reducible refine Kd.C_drewN ?_ _) | (with_reducible refine Kd.C_drew ?_))); (case side2 => exact HC0.out); rintro e w14 ⟨rfl, hb⟩; replace HB := zX hb; (try clear hb); (try clear hb2); (try clear hk); (try clear hi)))
    go_roundg k1
    case measure => have := HK1.out; omega
    case rel => exact ⟨(Go.bits .or .i64 x5_1 (ji8)), (wrap64 (x6_1 + 1)), (by first | rfl | (simp; done) | (simp only [← hji8] <;> (first | rfl | simp)) | (simp [*]; done)), zF, H', ⟨by have := HK1.out; omega⟩, ⟨zB⟩⟩
   rw [if_neg c6] at H
   have c6b0 := beq_eq_false_iff_ne.mpr c6
   have c6b1 := bne_iff_ne.mpr c6
   have H' := Aside0.mk H; clear H
   have hL996 := HC0.out
   have dq996 : decide (0 < (l0.length : Int)) = true := decide_eq_true (by omega)
   clear hL996
   have p996 : 0 ≤ (0 : Int) := (by omega)
   have q996 : 0 < (l0.length : Int) := zA
   obtain ⟨ad996, e996, hx996_0⟩ := Kd.at_int HR0.out 0 p996 q996
   obtain rfl : (⟨g0, 0, none⟩ : Addr) = ad996 := (by injection e996)
   (first | simp only [add_plain] at hx996_0 | simp only [add_at] at hx996_0 | simp only [Addr.add, Nat.zero_add] at hx996_0 | skip)
   have qi996 : (0 < l0.length) = True := eq_true (by omega)
   (try rw [show ((0 : Int)).toNat = 0 from rfl] at hx996_0)
   (try rw [Addr.add_zero'] at hx996_0)
   replace hx996_0 := (HB.out.cell (World.block_lt_of_cell? w _ hx996_0)).trans hx996_0
   replace p996 := eq_true p996
   replace q996 := eq_true q996
   clear dq996
   go_wp2
   go_roundg k1
   case measure => have := HK1.out; omega
   case rel => exact ⟨(x5_1), (wrap64 (x6_1 + 1)), zF, zF, H', ⟨by have := HK1.out; omega⟩, ⟨zB⟩⟩
  rw [if_neg c4] at H
  exact absurd H (by simp)
 rw [if_neg c3] at H
 have c3b0 := decide_eq_false c3
 clear c3
 obtain rfl := Option.some.inj H
 have hL996 := HC0.out
 have dq996 : decide (0 < (l0.length : Int)) = true := decide_eq_true (by omega)
 clear hL996
 have p996 : 0 ≤ (0 : Int) := (by omega)
 have q996 : 0 < (l0.length : Int) := zA
 obtain ⟨ad996, e996, hx996_0⟩ := Kd.at_int HR0.out 0 p996 q996
 obtain rfl : (⟨g0, 0, none⟩ : Addr) = ad996 := (by injection e996)
 (first | simp only [add_plain] at hx996_0 | simp only [add_at] at hx996_0 | simp only [Addr.add, Nat.zero_add] at hx996_0 | skip)
 have qi996 : (0 < l0.length) = True := eq_true (by omega)
 (try rw [show ((0 : Int)).toNat = 0 from rfl] at hx996_0)
 (try rw [Addr.add_zero'] at hx996_0)
 replace hx996_0 := (HB.out.cell (World.block_lt_of_cell? w _ hx996_0)).trans hx996_0
 replace p996 := eq_true p996
 replace q996 := eq_true q996
 clear dq996
 go_wp2
 go_ret
 exact ⟨zE, zB⟩
/-! ### impl_elementsOf: function 123 -/
def impl_elementsOf.l0 : Nat → Int → List Int → Int → Option (List Int)
 | 0, _, _, _ => none
 | k + 1, x0, x3, x4 => if x4 < 63 then (if 0 ≤ x4 then (if (Go.bits .and .i64 (shr .i64 x0 x4) 1) = 1 then (if x3.length < 17592186044416 then (impl_elementsOf.l0 k x0 (x3 ++ [x4]) (wrap64 (x4 + 1))) else (none)) else (impl_elementsOf.l0 k x0 x3 (wrap64 (x4 + 1)))) else (none)) else (some x3)
def impl_elementsOf.f (k : Nat) (a0 : Int) : Option (List Int) := impl_elementsOf.l0 k a0 ([] : List Int) 0
theorem impl_elementsOf.mono_l : ∀ k, (∀ y0 y1 y2, LeO (impl_elementsOf.l0 k y0 y1 y2) (impl_elementsOf.l0 (k + 1) y0 y1 y2))
 | 0 => fun _ _ _ r h => by simp [impl_elementsOf.l0] at h
 | k + 1 => by
  have ih0 := impl_elementsOf.mono_l k
  ·intro y0 y1 y2
   unfold impl_elementsOf.l0
   repeat' first
   | (with_reducible first | exact ih0 .. | exact LeO.refl _ | exact LeO.none _ | refine LeO.ite ?_ ?_ | refine LeO.bind ?_ (fun _ => ?_))
   | exact ih0 .. | exact LeO.none _ | refine LeO.ite ?_ ?_ | refine LeO.bind ?_ (fun _ => ?_)
theorem impl_elementsOf.mono : ∀ a0 k, LeO (impl_elementsOf.f k a0) (impl_elementsOf.f (k + 1) a0) := by
 intro a0 k
 have ih0 := impl_elementsOf.mono_l k
 unfold impl_elementsOf.f
 repeat' first
   | (with_reducible first | exact ih0 .. | exact LeO.refl _ | exact LeO.none _ | refine LeO.ite ?_ ?_ | refine LeO.bind ?_ (fun _ => ?_))
   | exact ih0 .. | exact LeO.none _ | refine LeO.ite ?_ ?_ | refine LeO.bind ?_ (fun _ => ?_)
set_option maxHeartbeats 8000000 in
set_option maxRecDepth 100000 in
theorem impl_elementsOf.calls (k : Nat) (a0 : Int) (r : List Int) (w : World) (h : impl_elementsOf.f k a0 = some r) :
  Calls Try.prog 123 #[.int .i64 a0] w fun e w' => ∃ v0_ : Value, e = .returned (v0_) ∧ Kd.R (Kd.int .i64) 3 w' w.heap.size (fun _ => True) v0_ r ∧ Below w.heap.size w w' := by
 have HB := Aside0.mk (Below.refl w.heap.size w)
 have H : (impl_elementsOf.l0 k a0 ([] : List Int) 0) = some r := h
 clear h
 have H' := Aside0.mk H; clear H
 go_enter Try.func123, Try.ntmps123
 go_wp2
 go_loopg [3, 4] k (fun kq v3 v4 w' => ∃ (x3_1 : List Int) (x4_1 : Int), v4 = .int .i64 x4_1 ∧ Aside0 (impl_elementsOf.l0 kq a0 x3_1 x4_1 = some r) ∧ Aside0 (kq ≤ k) ∧ Aside0 (Kd.R (Kd.int .i64) 3 w' w.heap.size (fun _ => True) v3 x3_1) ∧ Aside0 (Below w.heap.size w w'))
 case atStart => exact ⟨(([] : List Int)), (0), zF, H', ⟨Nat.le_refl _⟩, ⟨by first | exact Kd.R_nil _ _ _ _ _ | exact Kd.N_nil _ _ _ _ _ | exact Kd.V_nil _ _ _ _ _ | exact Kd.Q_nil _ _ _ _ _ | exact Kd.S_nil _ _ _ _ _⟩, ⟨zB⟩⟩
 case round =>
 clear H'
 obtain ⟨x3_1, x4_1, rfl, HA, HK1, HO_3, HB⟩ := hrel
 cases gk with
 | zero => exact absurd HA.out (by simp [impl_elementsOf.l0])
 | succ k1 =>
 have H := HA.out
 clear HA
 simp only [impl_elementsOf.l0] at H
 by_cases c2 : x4_1 < 63
 ·rw [if_pos c2] at H
  have c2b0 := decide_eq_true c2
  clear c2
  by_cases c3 : 0 ≤ x4_1
  ·rw [if_pos c3] at H
   have c3b0 := eq_true c3
   have c3b1 := decide_eq_true c3
   clear c3
   obtain ⟨ji4, hji4⟩ : ∃ j_ : Int, (shr .i64 a0 x4_1) = j_ := ⟨_, rfl⟩
   replace H : (if (Go.bits .and .i64 (ji4) 1) = 1 then (if x3_1.length < 17592186044416 then (impl_elementsOf.l0 k1 a0 (x3_1 ++ [x4_1]) (wrap64 (x4_1 + 1))) else (none)) else (impl_elementsOf.l0 k1 a0 x3_1 (wrap64 (x4_1 + 1)))) = some r := by first | (rw [hji4] at H; exact H) | (simp only [hji4] at H ⊢; exact H)
   have hji4_ : (a0 / 2 ^ min x4_1.toNat 64) = ji4 := hji4
   have hji4z : x4_1 ≤ 64 → (a0 / 2 ^ x4_1.toNat) = ji4 := shr_small hji4
   by_cases c5 : (Go.bits .and .i64 (ji4) 1) = 1
   ·rw [if_pos c5] at H
    have c5b0 := beq_iff_eq.mpr c5
    have c5b1 := bne_eq_false_iff_eq.mpr c5
    clear c5
    by_cases c6 : x3_1.length < 17592186044416
    ·rw [if_pos c6] at H
     have LMc6 := Aside0.mk c6
     clear c6
     obtain ⟨y998, hy998⟩ : ∃ y_ : List Int, y_ = (x3_1 ++ [x4_1]) := ⟨_, rfl⟩
     replace H : (impl_elementsOf.l0 k1 a0 y998 (wrap64 (x4_1 + 1))) = some r := by first | (rw [hy998]; with_reducible exact H) | (have H2_ := (Option.bind_some _ _).symm.trans H; rw [hy998]; with_reducible exact H2_) | (have H2_ := (Option.bind_some _ _).symm.trans H; with_reducible exact H2_) | with_reducible exact H | (rw [hy998]; exact H) | exact H
     have Ny998 := Aside0.mk hy998
     clear hy998
     have H' := Aside0.mk H; clear H
     go_wp2_with (first | ((with_reducible refine gate_builtin (b := .append) (xs := #[.tmp 14, .tmp 16]) rfl ?_); at_builtin; refine Kd.R_append (Kd.int .i64) (w0 := w) w.heap.size rfl (.tmp 14) (.tmp 16) 27 3 (.int .i64 0) 8 rfl Try.underlying27 info3 rfl (by decide) (by omega) u3 x3_1 x4_1 [.int .i64 x4_1] (fun _ => True) (fun _ => False) rfl rfl ?aP (fun _ hk => hk.elim) ?aF ?aO ?aB ?aS ?aL ?_; (case aP => exact rfl); (case aB => exact zB); (case aF => exact (fun _ _ => trivial)); (case aO => exact (zR HO_3.out)); (case aS => exact (below_size zB)); (case aL => have := LMc6.out; omega); intro v999 w7 ho hb hg hat; rw [← Ny998.out] at ho; have n0_ := Aside0.mk (hb); have n1_ := Aside0.mk (ho); clear HB; clear HO_3; have HB := n0_; have HO1000 := n1_; clear n0_ n1_; clear ho hb hg hat))
     go_roundg k1
     case measure => have := HK1.out; omega
     case rel => exact ⟨(y998), (wrap64 (x4_1 + 1)), zF, H', ⟨by have := HK1.out; omega⟩, ⟨zR HO1000.out⟩, ⟨zB⟩⟩
    rw [if_neg c6] at H
    exact absurd H (by simp)
   rw [if_neg c5] at H
   have c5b0 := beq_eq_false_iff_ne.mpr c5
   have c5b1 := bne_iff_ne.mpr c5
   have H' := Aside0.mk H; clear H
   go_wp2
   go_roundg k1
   case measure => have := HK1.out; omega
   case rel => exact ⟨(x3_1), (wrap64 (x4_1 + 1)), zF, H', ⟨by have := HK1.out; omega⟩, ⟨zR HO_3.out⟩, ⟨zB⟩⟩
  rw [if_neg c3] at H
  exact absurd H (by simp)
 rw [if_neg c2] at H
 have c2b0 := decide_eq_false c2
 clear c2
 obtain rfl := Option.some.inj H
 go_wp2
 go_ret
 exact ⟨_, zE, zR HO_3.out, zB⟩
/-! ### impl_chi_left: function 137 -/
def impl_chi_left.l0 : Nat → List Int → Int → Int → Int → Int → Option (Int)
 | 0, _, _, _, _, _ => none
 | k + 1, x0, x1, x2, x7, x8 => if x8 < (rd x0 0) then (if 0 ≤ x1 then (if x1 < 7 then (if 0 ≤ x2 then (if x2 < 7 then (if 0 ≤ x8 then (if x8 < 7 then (if (rd3 x0 x1 x2 x8) = 1 then (impl_chi_left.l0 k x0 x1 x2 (wrap64 (x7 + 1)) (wrap64 (x8 + 1))) else (impl_chi_left.l0 k x0 x1 x2 x7 (wrap64 (x8 + 1)))) else (none)) else (none)) else (none)) else (none)) else (none)) else (none)) else (some x7)
def impl_chi_left.f (k : Nat) (l0 : List Int) (a1 : Int) (a2 : Int) : Option (Int) := impl_chi_left.l0 k l0 a1 a2 0 0
set_option maxHeartbeats 8000000 in
set_option maxRecDepth 100000 in
theorem impl_chi_left.calls (k : Nat) (g0 : Nat) (l0 : List Int) (a1 : Int) (a2 : Int) (r : Int) (w : World) (hr0 : Kd.C (Kd.int .i64) w (some ⟨g0, 0, none⟩) l0.length l0) (hc0 : l0.length = 344) (h : impl_chi_left.f k l0 a1 a2 = some r) :
  Calls Try.prog 137 #[.pointer (some ⟨g0, 0, none⟩), .int .i64 a1, .int .i64 a2] w fun e w' => e = .returned (.int .i64 r) ∧ Drawn0 w w' := by
 have hu115 := Try.underlying115
 have hu113 := Try.underlying113
 have hu112 := Try.underlying112
 have hu111 := Try.underlying111
 have HR0 := Aside0.mk hr0
 have HC0 := Aside0.mk hc0
 clear hr0 hc0
 have H : (impl_chi_left.l0 k l0 a1 a2 0 0) = some r := h
 clear h
 have H' := Aside0.mk H; clear H
 go_enter Try.func137, Try.ntmps137
 go_wp2
 go_loopg [7, 8] k (fun kq v7 v8 w' => ∃ (x7_1 : Int) (x8_1 : Int), v7 = .int .i64 x7_1 ∧ v8 = .int .i64 x8_1 ∧ Aside0 (impl_chi_left.l0 kq l0 a1 a2 x7_1 x8_1 = some r) ∧ Aside0 (kq ≤ k) ∧ Drawn0 w w')
 case atStart => exact ⟨(0), (0), zF, zF, H', ⟨Nat.le_refl _⟩, by repeat (first | exact Drawn0.refl _ | apply Drawn0.step)⟩
 case round =>
 clear H'
 obtain ⟨x7_1, x8_1, rfl, rfl, HA, HK1, ⟨m1, rfl⟩⟩ := hrel
 cases gk with
 | zero => exact absurd HA.out (by simp [impl_chi_left.l0])
 | succ k1 =>
 have H := HA.out
 clear HA
 simp only [impl_chi_left.l0] at H
 by_cases c4 : x8_1 < (rd l0 0)
 ·rw [if_pos c4] at H
  have c4b0 := decide_eq_true c4
  clear c4
  by_cases c5 : 0 ≤ a1
  ·rw [if_pos c5] at H
   have c5b0 := decide_eq_true c5
   clear c5
   by_cases c6 : a1 < 7
   ·rw [if_pos c6] at H
    have c6b0 := decide_eq_true c6
    clear c6
    by_cases c7 : 0 ≤ a2
    ·rw [if_pos c7] at H
     have c7b0 := decide_eq_true c7
     clear c7
     by_cases c8 : a2 < 7
     ·rw [if_pos c8] at H
      have c8b0 := decide_eq_true c8
      clear c8
      by_cases c9 : 0 ≤ x8_1
      ·rw [if_pos c9] at H
       have c9b0 := decide_eq_true c9
       clear c9
       by_cases c10 : x8_1 < 7
       ·rw [if_pos c10] at H
        have c10b0 := decide_eq_true c10
        clear c10
        by_cases c11 : (rd3 l0 a1 a2 x8_1) = 1
        ·rw [if_pos c11] at H
         have c11b0 := beq_iff_eq.mpr c11
         have c11b1 := bne_eq_false_iff_eq.mpr c11
         clear c11
         have H' := Aside0.mk H; clear H
         have hL1001 := HC0.out
         have dq1001 : decide (0 < (l0.length : Int)) = true := decide_eq_true (by omega)
         clear hL1001
         have p1001 : 0 ≤ (0 : Int) := (by omega)
         have q1001 : 0 < (l0.length : Int) := zA
         obtain ⟨ad1001, e1001, hx1001_0⟩ := Kd.at_int HR0.out 0 p1001 q1001
         obtain rfl : (⟨g0, 0, none⟩ : Addr) = ad1001 := (by injection e1001)
         (first | simp only [add_plain] at hx1001_0 | simp only [add_at] at hx1001_0 | simp only [Addr.add, Nat.zero_add] at hx1001_0 | skip)
         have qi1001 : (0 < l0.length) = True := eq_true (by omega)
         (try rw [show ((0 : Int)).toNat = 0 from rfl] at hx1001_0)
         (try rw [Addr.add_zero'] at hx1001_0)
         replace p1001 := eq_true p1001
         replace q1001 := eq_true q1001
         clear dq1001
         have pz1002_0 : 0 ≤ (a1 : Int) := zA
         have pz1002_1 : 0 ≤ (a2 : Int) := zA
         have pz1002_2 : 0 ≤ (x8_1 : Int) := zA
         have qz1002_0 : (a1 : Int) < 7 := zA
         have qz1002_1 : (a2 : Int) < 7 := zA
         have qz1002_2 : (x8_1 : Int) < 7 := zA
         have hL1002 := HC0.out
         have dp1002 : decide (0 ≤ ((1 + a1 * 49 + a2 * 7 + x8_1) : Int)) = true := decide_eq_true (by omega)
         have dq1002 : decide ((1 + a1 * 49 + a2 * 7 + x8_1) < (l0.length : Int)) = true := decide_eq_true (by omega)
         clear hL1002
         have p1002 : 0 ≤ ((1 + a1 * 49 + a2 * 7 + x8_1) : Int) := zA
         have q1002 : (1 + a1 * 49 + a2 * 7 + x8_1) < (l0.length : Int) := zA
         obtain ⟨ad1002, e1002, hx1002_0⟩ := Kd.at_int HR0.out (1 + a1 * 49 + a2 * 7 + x8_1) p1002 q1002
         obtain rfl : (⟨g0, 0, none⟩ : Addr) = ad1002 := (by injection e1002)
         (first | simp only [add_plain] at hx1002_0 | simp only [add_at] at hx1002_0 | simp only [Addr.add, Nat.zero_add] at hx1002_0 | skip)
         replace p1002 := eq_true p1002
         replace q1002 := eq_true q1002
         clear dp1002 dq1002
         clear p1002 q1002
         rw [show ((1 + a1 * 49 + a2 * 7 + x8_1) : Int).toNat = 1 + (a1).toNat * 49 + (a2).toNat * 7 + (x8_1).toNat from by omega] at hx1002_0
         change _ = some (Value.int .i64 (rd3 l0 a1 a2 x8_1)) at hx1002_0
         replace pz1002_0 := eq_true pz1002_0
         replace pz1002_1 := eq_true pz1002_1
         replace pz1002_2 := eq_true pz1002_2
         replace qz1002_0 := eq_true qz1002_0
         replace qz1002_1 := eq_true qz1002_1
         replace qz1002_2 := eq_true qz1002_2
         go_wp2
         go_roundg k1
         case measure => have := HK1.out; omega
         case rel => exact ⟨(wrap64 (x7_1 + 1)), (wrap64 (x8_1 + 1)), zF, zF, H', ⟨by have := HK1.out; omega⟩, by repeat (first | exact Drawn0.refl _ | apply Drawn0.step)⟩
        rw [if_neg c11] at H
        have c11b0 := beq_eq_false_iff_ne.mpr c11
        have c11b1 := bne_iff_ne.mpr c11
        have H' := Aside0.mk H; clear H
        have hL1001 := HC0.out
        have dq1001 : decide (0 < (l0.length : Int)) = true := decide_eq_true (by omega)
        clear hL1001
        have p1001 : 0 ≤ (0 : Int) := (by omega)
        have q1001 : 0 < (l0.length : Int) := zA
        obtain ⟨ad1001, e1001, hx1001_0⟩ := Kd.at_int HR0.out 0 p1001 q1001
        obtain rfl : (⟨g0, 0, none⟩ : Addr) = ad1001 := (by injection e1001)
        (first | simp only [add_plain] at hx1001_0 | simp only [add_at] at hx1001_0 | simp only [Addr.add, Nat.zero_add] at hx1001_0 | skip)
        have qi1001 : (0 < l0.length) = True := eq_true (by omega)
        (try rw [show ((0 : Int)).toNat = 0 from rfl] at hx1001_0)
        (try rw [Addr.add_zero'] at hx1001_0)
        replace p1001 := eq_true p1001
        replace q1001 := eq_true q1001
        clear dq1001
        have pz1002_0 : 0 ≤ (a1 : Int) := zA
        have pz1002_1 : 0 ≤ (a2 : Int) := zA
        have pz1002_2 : 0 ≤ (x8_1 : Int) := zA
        have qz1002_0 : (a1 : Int) < 7 := zA
        have qz1002_1 : (a2 : Int) < 7 := zA
        have qz1002_2 : (x8_1 : Int) < 7 := zA
        have hL1002 := HC0.out
        have dp1002 : decide (0 ≤ ((1 + a1 * 49 + a2 * 7 + x8_1) : Int)) = true := decide_eq_true (by omega)
        have dq1002 : decide ((1 + a1 * 49 + a2 * 7 + x8_1) < (l0.length : Int)) = true := decide_eq_true (by omega)
        clear hL1002
        have p1002 : 0 ≤ ((1 + a1 * 49 + a2 * 7 + x8_1) : Int) := zA
        have q1002 : (1 + a1 * 49 + a2 * 7 + x8_1) < (l0.length : Int) := zA
        obtain ⟨ad1002, e1002, hx1002_0⟩ := Kd.at_int HR0.out (1 + a1 * 49 + a2 * 7 + x8_1) p1002 q1002
        obtain rfl : (⟨g0, 0, none⟩ : Addr) = ad1002 := (by injection e1002)
        (first | simp only [add_plain] at hx1002_0 | simp only [add_at] at hx1002_0 | simp only [Addr.add, Nat.zero_add] at hx1002_0 | skip)
        replace p1002 := eq_true p1002
        replace q1002 := eq_true q1002
        clear dp1002 dq1002
        clear p1002 q1002
        rw [show ((1 + a1 * 49 + a2 * 7 + x8_1) : Int).toNat = 1 + (a1).toNat * 49 + (a2).toNat * 7 + (x8_1).toNat from by omega] at hx1002_0
        change _ = some (Value.int .i64 (rd3 l0 a1 a2 x8_1)) at hx1002_0
        replace pz1002_0 := eq_true pz1002_0
        replace pz1002_1 := eq_true pz1002_1
        replace pz1002_2 := eq_true pz1002_2
        replace qz1002_0 := eq_true qz1002_0
        replace qz1002_1 := eq_true qz1002_1
        replace qz1002_2 := eq_true qz1002_2
        go_wp2
        go_roundg k1
        case measure => have := HK1.out; omega
        case rel => exact ⟨(x7_1), (wrap64 (x8_1 + 1)), zF, zF, H', ⟨by have := HK1.out; omega⟩, by repeat (first | exact Drawn0.refl _ | apply Drawn0.step)⟩
       rw [if_neg c10] at H
       exact absurd H (by simp)
      rw [if_neg c9] at H
      exact absurd H (by simp)
     rw [if_neg c8] at H
     exact absurd H (by simp)
    rw [if_neg c7] at H
    exact absurd H (by simp)
   rw [if_neg c6] at H
   exact absurd H (by simp)
  rw [if_neg c5] at H
  exact absurd H (by simp)
 rw [if_neg c4] at H
 have c4b0 := decide_eq_false c4
 clear c4
 obtain rfl := Option.some.inj H
 have hL1001 := HC0.out
 have dq1001 : decide (0 < (l0.length : Int)) = true := decide_eq_true (by omega)
 clear hL1001
 have p1001 : 0 ≤ (0 : Int) := (by omega)
 have q1001 : 0 < (l0.length : Int) := zA
 obtain ⟨ad1001, e1001, hx1001_0⟩ := Kd.at_int HR0.out 0 p1001 q1001
 obtain rfl : (⟨g0, 0, none⟩ : Addr) = ad1001 := (by injection e1001)
 (first | simp only [add_plain] at hx1001_0 | simp only [add_at] at hx1001_0 | simp only [Addr.add, Nat.zero_add] at hx1001_0 | skip)
 have qi1001 : (0 < l0.length) = True := eq_true (by omega)
 (try rw [show ((0 : Int)).toNat = 0 from rfl] at hx1001_0)
 (try rw [Addr.add_zero'] at hx1001_0)
 replace p1001 := eq_true p1001
 replace q1001 := eq_true q1001
 clear dq1001
 go_wp2
 go_ret
 exact ⟨by first | rfl | (simp; done) | (simp [*]; done), by repeat (first | exact Drawn0.refl _ | apply Drawn0.step)⟩
/-! ### impl_chi_hull: function 120 -/
mutual
def impl_chi_hull.l0 : Nat → List Int → List Int → List Int → Option (List Int)
 | 0, _, _, _ => none
 | k + 1, x0, x3, x4 => if (x4.length : Int) < (x3.length : Int) then (if 0 ≤ (wrap64 ((x4.length : Int) - 1)) then (if (wrap64 ((x4.length : Int) - 1)) < (x4.length : Int) then (impl_chi_hull.l1 k x0 x3 x4 (rd x4 (wrap64 ((x4.length : Int) - 1))) x3 (x3.length : Int) 0) else (none)) else (none)) else (some x4)
def impl_chi_hull.l1 : Nat → List Int → List Int → List Int → Int → List Int → Int → Int → Option (List Int)
 | 0, _, _, _, _, _, _, _ => none
 | k + 1, x0, x3, x4, x5, x31, x32, x33 => if x33 < x32 then (if 0 ≤ x33 then (if x33 < (x31.length : Int) then (if (rd x31 x33) = x5 then (impl_chi_hull.l1 k x0 x3 x4 x5 x31 x32 (wrap64 (x33 + 1))) else ((impl_chi_left.f k x0 (rd x31 x33) x5).bind fun t1015 => (if t1015 = 0 then (if x4.length < 17592186044416 then (impl_chi_hull.l0 k x0 x3 (x4 ++ [rd x31 x33])) else (none)) else (impl_chi_hull.l1 k x0 x3 x4 x5 x31 x32 (wrap64 (x33 + 1)))))) else (none)) else (none)) else (impl_chi_hull.l0 k x0 x3 x4)
end
def impl_chi_hull.f (k : Nat) (l0 : List Int) : Option (List Int) := (impl_fullSet.f (rd l0 0)).bind fun t1004 => ((impl_chi_extremeIn.f k l0 t1004).bind fun t1005 => ((impl_elementsOf.f k t1005).bind fun t1006 => (if 0 < (t1006.length : Int) then (impl_chi_hull.l0 k l0 t1006 (([rd t1006 0] : List Int))) else (none))))
set_option maxHeartbeats 8000000 in
set_option maxRecDepth 100000 in
theorem impl_chi_hull.calls (k : Nat) (g0 : Nat) (l0 : List Int) (r : List Int) (w : World) (hr0 : Kd.C (Kd.int .i64) w (some ⟨g0, 0, none⟩) l0.length l0) (hc0 : l0.length = 344) (h : impl_chi_hull.f k l0 = some r) :
  Calls Try.prog 120 #[.pointer (some ⟨g0, 0, none⟩)] w fun e w' => ∃ v0_ : Value, e = .returned (v0_) ∧ Kd.R (Kd.int .i64) 3 w' w.heap.size (fun _ => True) v0_ r ∧ Below w.heap.size w w' := by
 have hu115 := Try.underlying115
 have HR0 := Aside0.mk hr0
 have HC0 := Aside0.mk hc0
 clear hr0 hc0
 have HB := Aside0.mk (Below.refl w.heap.size w)
 have H : ((impl_fullSet.f (rd l0 0)).bind fun t1004 => ((impl_chi_extremeIn.f k l0 t1004).bind fun t1005 => ((impl_elementsOf.f k t1005).bind fun t1006 => (if 0 < (t1006.length : Int) then (impl_chi_hull.l0 k l0 t1006 (([rd t1006 0] : List Int))) else (none))))) = some r := h
 clear h
 obtain ⟨t1004, A2, H⟩ := zO H
 obtain ⟨t1005, A3, H⟩ := zO H
 obtain ⟨t1006, A4, H⟩ := zO H
 by_cases c5 : 0 < (t1006.length : Int)
 ·rw [if_pos c5] at H
  have c5b0 := decide_eq_true c5
  have c5b1 : decide (0 < t1006.length) = true := decide_eq_true (by omega)
  clear c5
  obtain ⟨y1010, hy1010⟩ : ∃ y_ : List Int, y_ = (([rd t1006 0] : List Int)) := ⟨_, rfl⟩
  replace H : (impl_chi_hull.l0 k l0 t1006 y1010) = some r := by first | (rw [hy1010]; with_reducible exact H) | (have H2_ := (Option.bind_some _ _).symm.trans H; rw [hy1010]; with_reducible exact H2_) | (have H2_ := (Option.bind_some _ _).symm.trans H; with_reducible exact H2_) | with_reducible exact H | (rw [hy1010]; exact H) | exact H
  have Ny1010 := Aside0.mk hy1010
  clear hy1010
  have H' := Aside0.mk H; clear H
  have hL1003 := HC0.out
  have dq1003 : decide (0 < (l0.length : Int)) = true := decide_eq_true (by omega)
  clear hL1003
  have p1003 : 0 ≤ (0 : Int) := (by omega)
  have q1003 : 0 < (l0.length : Int) := zA
  obtain ⟨ad1003, e1003, hx1003_0⟩ := Kd.at_int HR0.out 0 p1003 q1003
  obtain rfl : (⟨g0, 0, none⟩ : Addr) = ad1003 := (by injection e1003)
  (first | simp only [add_plain] at hx1003_0 | simp only [add_at] at hx1003_0 | simp only [Addr.add, Nat.zero_add] at hx1003_0 | skip)
  have qi1003 : (0 < l0.length) = True := eq_true (by omega)
  (try rw [show ((0 : Int)).toNat = 0 from rfl] at hx1003_0)
  (try rw [Addr.add_zero'] at hx1003_0)
  replace p1003 := eq_true p1003
  replace q1003 := eq_true q1003
  clear dq1003
  go_enter Try.func120, Try.ntmps120
  go_wp2_with (first | ((with_reducible refine gate_callee (f := 121) rfl ?_); refine zD (some 13) Try.func121 #[.int .i64 (rd l0 0)] ?_; (with_reducible refine (impl_fullSet.calls (rd l0 0) t1004 _ A2.out).mono ?_); rintro e w' ⟨rfl, ⟨nd, rfl⟩⟩; refine ⟨_, rfl, ?_⟩) | ((with_reducible refine gate_callee (f := 122) rfl ?_); refine zD (some 14) Try.func122 #[.pointer (some ⟨g0, 0, none⟩), .int .i64 t1004] ?_; (with_reducible refine (impl_chi_extremeIn.calls k _ l0 t1004 t1005 _ ?side1 ?side2 A3.out).mono ?_); (case side1 => repeat (first | exact HR0.out | (with_reducible refine Kd.C_alloc ?_ _) | (with_reducible refine Kd.C_drewN ?_ _) | (with_reducible refine Kd.C_drew ?_))); (case side2 => exact HC0.out); rintro e w6 ⟨rfl, hb⟩; refine ⟨_, rfl, ?_⟩; replace HB := zX hb; (try clear hb)) | ((with_reducible refine gate_callee (f := 123) rfl ?_); refine zD (some 15) Try.func123 #[.int .i64 t1005] ?_; (with_reducible refine (impl_elementsOf.calls k t1005 t1006 _ A4.out).mono ?_); rintro e w7 ⟨v1007, rfl, ho0, hb⟩; refine ⟨_, rfl, ?_⟩; have HO1008 := Aside0.mk (Kd.R_lower ho0 (below_size zB)); replace HB := zX hb; (try clear hb); (try clear ho0); obtain ⟨Ao8, co8, eo8⟩ := Kd.R_slice HO1008.out; subst eo8; have p1009 : 0 ≤ (0 : Int) := (by omega); have q1009 : 0 < (t1006.length : Int) := zA; obtain ⟨ad1009, e1009, hx1009_0⟩ := Kd.at_int (Kd.R_reads' HO1008.out).2.2 0 p1009 q1009; cases e1009; have qi1009 : (0 < t1006.length) = True := eq_true (by omega); (try rw [show ((0 : Int)).toNat = 0 from rfl] at hx1009_0); (try rw [Addr.add_zero'] at hx1009_0); replace p1009 := eq_true p1009; replace q1009 := eq_true q1009) | ((with_reducible refine gate_dst (N := 19) rfl ?_); refine Kd.R_lit (Kd.int .i64) _ 3 ?hg (N := 19) ?hd (xs := ([rd t1006 0] : List Int)) (inner := [.int .i64 (rd t1006 0)]) (ok := fun _ => True) (okp := fun _ => True) ?hr ?hp (fun _ hk => hk) trivial (Below.refl _ _) (Nat.le_refl _) (by simp) ?_; (case hd => rfl); (case hg => rfl); (case hr => first | (go_simp; done) | (go_simp; rfl)); (case hp => exact (Reps.one (show Kd.M (Kd.int .i64) _ _ _ (rd t1006 0) [.int .i64 (rd t1006 0)] from rfl) (Reps.none _ _))); intro v1011 w9 ho10 hb hg_ hnew_; clear hg_ hnew_; (first | rw [← Ny1010.out] at ho10 | (simp only [Int.reduceToNat] at ho10; rw [← Ny1010.out] at ho10)); have HO1012 := Aside0.mk (Kd.R_lower (Kd.R_new' ho10 (Kd.R_lt (zR HO1008.out))) (below_size zB)); replace HO1008 := Aside0.mk (Kd.R_elder' (zR HO1008.out) (Kd.R_base ho10) hb); replace HB := zX hb; clear hb ho10))
  go_loopg [4] k (fun kq v4 w' => ∃ (x4_1 : List Int), Aside0 (impl_chi_hull.l0 kq l0 t1006 x4_1 = some r) ∧ Aside0 (kq ≤ k) ∧ Aside0 (Kd.R (Kd.int .i64) 3 w' w.heap.size (fun k_ => some k_ ≠ (v4 : Value).ownBlock) (.slice (some ad1009) t1006.length co8) t1006) ∧ Aside0 (Kd.R (Kd.int .i64) 3 w' w.heap.size (fun k_ => some k_ ≠ ((.slice (some ad1009) t1006.length co8) : Value).ownBlock) v4 x4_1) ∧ Aside0 (Below w.heap.size w w'))
  case atStart => exact ⟨(y1010), H', ⟨Nat.le_refl _⟩, ⟨by (with_reducible repeat (first | apply Kd.R_alloc | apply Kd.R_drewN | apply Kd.R_drew)); exact Kd.R_mono HO1008.out (fun _ hk => hk.2)⟩, ⟨by (with_reducible repeat (first | apply Kd.R_alloc | apply Kd.R_drewN | apply Kd.R_drew)); exact Kd.R_mono HO1012.out (fun _ hk => hk.2)⟩, ⟨zB⟩⟩
  case round =>
  clear H'
  try clear c5
  try clear c5b0
  try clear c5b1
  try clear hx1003_0
  try clear hx1009_0
  try clear p1003
  try clear p1009
  try clear q1003
  try clear q1009
  obtain ⟨x4_1, HA, HK1, HO_3, HO_4, HB⟩ := hrel
  cases gk with
  | zero => exact absurd HA.out (by simp [impl_chi_hull.l0])
  | succ k1 =>
  have H := HA.out
  clear HA
  simp only [impl_chi_hull.l0] at H
  by_cases c11 : (x4_1.length : Int) < (t1006.length : Int)
  ·rw [if_pos c11] at H
   have c11b0 := decide_eq_true c11
   have c11b1 : decide (x4_1.length < t1006.length) = true := decide_eq_true (Int.ofNat_lt.mp c11)
   clear c11
   obtain ⟨ji12, hji12⟩ : ∃ j_ : Int, (wrap64 ((x4_1.length : Int) - 1)) = j_ := ⟨_, rfl⟩
   replace H : (if 0 ≤ (ji12) then (if (ji12) < (x4_1.length : Int) then (impl_chi_hull.l1 k1 l0 t1006 x4_1 (rd x4_1 (ji12)) t1006 (t1006.length : Int) 0) else (none)) else (none)) = some r := by first | (rw [hji12] at H; exact H) | (simp only [hji12] at H ⊢; exact H)
   have hji12w : (IntKind.i64.wrap ((x4_1.length : Int) - 1)) = ji12 := (i64_w _).trans hji12
   by_cases c13 : 0 ≤ (ji12)
   ·rw [if_pos c13] at H
    have c13b0 := decide_eq_true c13
    clear c13
    by_cases c14 : (ji12) < (x4_1.length : Int)
    ·rw [if_pos c14] at H
     have c14b0 := decide_eq_true c14
     clear c14
     have H' := Aside0.mk H; clear H
     obtain ⟨Ao15, co15, eo15⟩ := Kd.R_slice HO_4.out
     subst eo15
     have p1013 : 0 ≤ ((ji12) : Int) := zA
     have q1013 : (ji12) < (x4_1.length : Int) := zA
     obtain ⟨ad1013, e1013, hx1013_0⟩ := Kd.at_int (Kd.R_reads' HO_4.out).2.2 (ji12) p1013 q1013
     cases e1013
     replace p1013 := eq_true p1013
     replace q1013 := eq_true q1013
     go_wp2
     go_loopg [4, 33] k1 (fun kq v4 v33 w' => ∃ (x4_2 : List Int) (x33_2 : Int), v33 = .int .i64 x33_2 ∧ Aside0 (impl_chi_hull.l1 kq l0 t1006 x4_2 (rd x4_1 (ji12)) t1006 (t1006.length : Int) x33_2 = some r) ∧ Aside0 (kq ≤ k1) ∧ Aside0 (Kd.R (Kd.int .i64) 3 w' w.heap.size (fun k_ => some k_ ≠ (v4 : Value).ownBlock) (.slice (some ad1009) t1006.length co8) t1006) ∧ Aside0 (Kd.R (Kd.int .i64) 3 w' w.heap.size (fun k_ => some k_ ≠ ((.slice (some ad1009) t1006.length co8) : Value).ownBlock ∧ some k_ ≠ ((.slice (some ad1009) t1006.length co8) : Value).ownBlock) v4 x4_2) ∧ Aside0 (Kd.R (Kd.int .i64) 3 w' w.heap.size (fun k_ => some k_ ≠ (v4 : Value).ownBlock) (.slice (some ad1009) t1006.length co8) t1006) ∧ Aside0 (Below w.heap.size w w'))
     case atStart => exact ⟨(x4_1), (0), zF, H', ⟨Nat.le_refl _⟩, ⟨zR HO_3.out⟩, ⟨by (with_reducible repeat (first | apply Kd.R_alloc | apply Kd.R_drewN | apply Kd.R_drew)); exact Kd.R_mono HO_4.out (fun _ hk => ⟨hk, hk⟩)⟩, ⟨zR HO_3.out⟩, ⟨zB⟩⟩
     case round =>
     clear H'
     try clear c5
     try clear c5b0
     try clear c5b1
     try clear c11
     try clear c11b0
     try clear c11b1
     try clear c13
     try clear c13b0
     try clear c14
     try clear c14b0
     try clear hx1003_0
     try clear hx1009_0
     try clear hx1013_0
     try clear p1003
     try clear p1009
     try clear p1013
     try clear q1003
     try clear q1009
     try clear q1013
     obtain ⟨x4_2, x33_2, rfl, HA, HK2, HO_3, HO_4, HO_31, HB⟩ := hrel
     cases gk with
     | zero => exact absurd HA.out (by simp [impl_chi_hull.l1])
     | succ k2 =>
     have H := HA.out
     clear HA
     simp only [impl_chi_hull.l1] at H
     by_cases c16 : x33_2 < (t1006.length : Int)
     ·rw [if_pos c16] at H
      have c16b0 := decide_eq_true c16
      clear c16
      by_cases c17 : 0 ≤ x33_2
      ·rw [if_pos c17] at H
       have c17b0 := decide_eq_true c17
       clear c17
       by_cases c18 : x33_2 < (t1006.length : Int)
       ·rw [if_pos c18] at H
        have c18b0 := decide_eq_true c18
        clear c18
        by_cases c19 : (rd t1006 x33_2) = (rd x4_1 (ji12))
        ·rw [if_pos c19] at H
         have c19b0 := beq_iff_eq.mpr c19
         have c19b1 := bne_eq_false_iff_eq.mpr c19
         clear c19
         have H' := Aside0.mk H; clear H
         have p1014 : 0 ≤ (x33_2 : Int) := zA
         have q1014 : x33_2 < (t1006.length : Int) := zA
         obtain ⟨ad1014, e1014, hx1014_0⟩ := Kd.at_int (Kd.R_reads' HO_31.out).2.2 x33_2 p1014 q1014
         obtain rfl : ad1009 = ad1014 := (by injection e1014)
         replace p1014 := eq_true p1014
         replace q1014 := eq_true q1014
         go_wp2
         go_roundg k2
         case measure => have := HK1.out; have := HK2.out; omega
         case rel => exact ⟨(x4_2), (wrap64 (x33_2 + 1)), zF, H', ⟨by have := HK1.out; have := HK2.out; omega⟩, ⟨zR HO_3.out⟩, ⟨zR HO_4.out⟩, ⟨zR HO_31.out⟩, ⟨zB⟩⟩
        rw [if_neg c19] at H
        have c19b0 := beq_eq_false_iff_ne.mpr c19
        have c19b1 := bne_iff_ne.mpr c19
        obtain ⟨t1015, A20, H⟩ := zO H
        by_cases c21 : t1015 = 0
        ·rw [if_pos c21] at H
         have c21b0 := beq_iff_eq.mpr c21
         have c21b1 := bne_eq_false_iff_eq.mpr c21
         clear c21
         by_cases c22 : x4_2.length < 17592186044416
         ·rw [if_pos c22] at H
          have LMc22 := Aside0.mk c22
          clear c22
          obtain ⟨y1016, hy1016⟩ : ∃ y_ : List Int, y_ = (x4_2 ++ [rd t1006 x33_2]) := ⟨_, rfl⟩
          replace H : (impl_chi_hull.l0 k2 l0 t1006 y1016) = some r := by first | (rw [hy1016]; with_reducible exact H) | (have H2_ := (Option.bind_some _ _).symm.trans H; rw [hy1016]; with_reducible exact H2_) | (have H2_ := (Option.bind_some _ _).symm.trans H; with_reducible exact H2_) | with_reducible exact H | (rw [hy1016]; exact H) | exact H
          have Ny1016 := Aside0.mk hy1016
          clear hy1016
          have H' := Aside0.mk H; clear H
          have p1014 : 0 ≤ (x33_2 : Int) := zA
          have q1014 : x33_2 < (t1006.length : Int) := zA
          obtain ⟨ad1014, e1014, hx1014_0⟩ := Kd.at_int (Kd.R_reads' HO_31.out).2.2 x33_2 p1014 q1014
          obtain rfl : ad1009 = ad1014 := (by injection e1014)
          replace p1014 := eq_true p1014
          replace q1014 := eq_true q1014
          go_wp2_with (first | (go_at_call 137; (with_reducible refine (impl_chi_left.calls k2 _ l0 (rd t1006 x33_2) (rd x4_1 (ji12)) t1015 _ ?side1 ?side2 A20.out).mono ?_); (case side1 => repeat (first | exact (Kd.C_below HR0.out HB.out) | (with_reducible refine Kd.C_alloc ?_ _) | (with_reducible refine Kd.C_drewN ?_ _) | (with_reducible refine Kd.C_drew ?_))); (case side2 => exact HC0.out); rintro e w' ⟨rfl, ⟨nd, rfl⟩⟩) | ((with_reducible refine gate_builtin (b := .append) (xs := #[.tmp 47, .tmp 49]) rfl ?_); at_builtin; refine Kd.R_append (Kd.int .i64) (w0 := w) w.heap.size rfl (.tmp 47) (.tmp 49) 27 3 (.int .i64 0) 8 rfl Try.underlying27 info3 rfl (by decide) (by omega) u4 x4_2 (rd t1006 x33_2) [.int .i64 (rd t1006 x33_2)] (fun k_ => some k_ ≠ (.slice (some ad1009) t1006.length co8 : Value).ownBlock ∧ some k_ ≠ (.slice (some ad1009) t1006.length co8 : Value).ownBlock) (fun _ => False) rfl rfl ?aP (fun _ hk => hk.elim) ?aF ?aO ?aB ?aS ?aL ?_; (case aP => exact rfl); (case aB => exact zB); (case aF => exact (fun k_ hk => ⟨Kd.fresh' (Kd.R_lt (zR HO_3.out)) k_ hk, Kd.fresh' (Kd.R_lt (zR HO_31.out)) k_ hk⟩)); (case aO => exact (zR HO_4.out)); (case aS => exact (below_size zB)); (case aL => have := LMc22.out; omega); intro v1017 w23 ho hb hg hat; rw [← Ny1016.out] at ho; have n0_ := Aside0.mk (Kd.R_after (ok := (fun _ => True)) (by (with_reducible repeat (first | apply Kd.R_alloc | apply Kd.R_drewN | apply Kd.R_drew)); exact Kd.R_mono HO_3.out (fun _ hk => ⟨trivial, hk⟩)) hg hat); have n1_ := Aside0.mk (Kd.R_after (ok := (fun _ => True)) (by (with_reducible repeat (first | apply Kd.R_alloc | apply Kd.R_drewN | apply Kd.R_drew)); exact Kd.R_mono HO_31.out (fun _ hk => ⟨trivial, hk⟩)) hg hat); have n2_ := Aside0.mk (hb); have n3_ := Aside0.mk (ho); clear HO_3; clear HO_31; clear HB; clear HO_4; have HO_3 := n0_; have HO_31 := n1_; have HB := n2_; have HO1018 := n3_; clear n0_ n1_ n2_ n3_; clear ho hb hg hat))
          go_roundg k2
          case measure => have := HK1.out; have := HK2.out; omega
          case rel => exact ⟨(y1016), H', ⟨by have := HK1.out; have := HK2.out; omega⟩, ⟨by (with_reducible repeat (first | apply Kd.R_alloc | apply Kd.R_drewN | apply Kd.R_drew)); exact Kd.R_mono HO_3.out (fun _ hk => hk.2)⟩, ⟨by (with_reducible repeat (first | apply Kd.R_alloc | apply Kd.R_drewN | apply Kd.R_drew)); exact Kd.R_mono HO1018.out (fun _ hk => hk.1)⟩, ⟨zB⟩⟩
         rw [if_neg c22] at H
         exact absurd H (by simp)
        rw [if_neg c21] at H
        have c21b0 := beq_eq_false_iff_ne.mpr c21
        have c21b1 := bne_iff_ne.mpr c21
        have H' := Aside0.mk H; clear H
        have p1014 : 0 ≤ (x33_2 : Int) := zA
        have q1014 : x33_2 < (t1006.length : Int) := zA
        obtain ⟨ad1014, e1014, hx1014_0⟩ := Kd.at_int (Kd.R_reads' HO_31.out).2.2 x33_2 p1014 q1014
        obtain rfl : ad1009 = ad1014 := (by injection e1014)
        replace p1014 := eq_true p1014
        replace q1014 := eq_true q1014
        go_wp2_with (first | (go_at_call 137; (with_reducible refine (impl_chi_left.calls k2 _ l0 (rd t1006 x33_2) (rd x4_1 (ji12)) t1015 _ ?side1 ?side2 A20.out).mono ?_); (case side1 => repeat (first | exact (Kd.C_below HR0.out HB.out) | (with_reducible refine Kd.C_alloc ?_ _) | (with_reducible refine Kd.C_drewN ?_ _) | (with_reducible refine Kd.C_drew ?_))); (case side2 => exact HC0.out); rintro e w' ⟨rfl, ⟨nd, rfl⟩⟩))
        go_roundg k2
        case measure => have := HK1.out; have := HK2.out; omega
        case rel => exact ⟨(x4_2), (wrap64 (x33_2 + 1)), zF, H', ⟨by have := HK1.out; have := HK2.out; omega⟩, ⟨zR HO_3.out⟩, ⟨zR HO_4.out⟩, ⟨zR HO_31.out⟩, ⟨zB⟩⟩
       rw [if_neg c18] at H
       exact absurd H (by simp)
      rw [if_neg c17] at H
      exact absurd H (by simp)
     rw [if_neg c16] at H
     have c16b0 := decide_eq_false c16
     clear c16
     have H' := Aside0.mk H; clear H
     go_wp2
     go_roundg k2
     case measure => have := HK1.out; have := HK2.out; omega
     case rel => exact ⟨(x4_2), H', ⟨by have := HK1.out; have := HK2.out; omega⟩, ⟨zR HO_3.out⟩, ⟨by (with_reducible repeat (first | apply Kd.R_alloc | apply Kd.R_drewN | apply Kd.R_drew)); exact Kd.R_mono HO_4.out (fun _ hk => hk.1)⟩, ⟨zB⟩⟩
    rw [if_neg c14] at H
    exact absurd H (by simp)
   rw [if_neg c13] at H
   exact absurd H (by simp)
  rw [if_neg c11] at H
  have c11b0 := decide_eq_false c11
  have c11b1 : decide (x4_1.length < t1006.length) = false := decide_eq_false (fun h => c11 (Int.ofNat_lt.mpr h))
  clear c11
  obtain rfl := Option.some.inj H
  obtain ⟨Ao24, co24, eo24⟩ := Kd.R_slice HO_4.out
  subst eo24
  go_wp2
  go_ret
  exact ⟨_, zE, by (with_reducible repeat (first | apply Kd.R_alloc | apply Kd.R_drewN | apply Kd.R_drew)); exact Kd.R_mono HO_4.out (fun _ hk => trivial), zB⟩
 rw [if_neg c5] at H
 exact absurd H (by simp)
/-! ### impl_chi_isAcyclic: function 92 -/
def impl_chi_isAcyclic.l0 : Nat → List Int → List (S91) → Int → Int → Option (Bool)
 | 0, _, _, _, _ => none
 | k + 1, x0, x9, x10, x11 => if x11 < x10 then (if 0 ≤ x11 then (if x11 < (x9.length : Int) then ((impl_chi_circuit.f k x0 ((rd_T91 x9 x11).f0) ((rd_T91 x9 x11).f1) ((rd_T91 x9 x11).f2) ((rd_T91 x9 x11).f3)).bind fun t464 => (if t464.toList = ([43, 43, 43, 43] : List UInt8) then (some false) else (impl_chi_isAcyclic.l0 k x0 x9 x10 (wrap64 (x11 + 1))))) else (none)) else (none)) else (some true)
def impl_chi_isAcyclic.f (k : Nat) (l0 : List Int) : Option (Bool) := (impl_quadsOf.f k (rd l0 0)).bind fun t459 => (impl_chi_isAcyclic.l0 k l0 t459 (t459.length : Int) 0)
set_option maxHeartbeats 8000000 in
set_option maxRecDepth 100000 in
theorem impl_chi_isAcyclic.calls (k : Nat) (g0 : Nat) (l0 : List Int) (r : Bool) (w : World) (hr0 : Kd.C (Kd.int .i64) w (some ⟨g0, 0, none⟩) l0.length l0) (hc0 : l0.length = 344) (h : impl_chi_isAcyclic.f k l0 = some r) :
  Calls Try.prog 92 #[.pointer (some ⟨g0, 0, none⟩)] w fun e w' => e = .returned (.bool r) ∧ Below w.heap.size w w' := by
 have hu91 := Try.underlying91
 have hu115 := Try.underlying115
 have HR0 := Aside0.mk hr0
 have HC0 := Aside0.mk hc0
 clear hr0 hc0
 have HB := Aside0.mk (Below.refl w.heap.size w)
 have H : ((impl_quadsOf.f k (rd l0 0)).bind fun t459 => (impl_chi_isAcyclic.l0 k l0 t459 (t459.length : Int) 0)) = some r := h
 clear h
 obtain ⟨t459, A2, H⟩ := zO H
 have H' := Aside0.mk H; clear H
 have hL458 := HC0.out
 have dq458 : decide (0 < (l0.length : Int)) = true := decide_eq_true (by omega)
 clear hL458
 have p458 : 0 ≤ (0 : Int) := (by omega)
 have q458 : 0 < (l0.length : Int) := zA
 obtain ⟨ad458, e458, hx458_0⟩ := Kd.at_int HR0.out 0 p458 q458
 obtain rfl : (⟨g0, 0, none⟩ : Addr) = ad458 := (by injection e458)
 (first | simp only [add_plain] at hx458_0 | simp only [add_at] at hx458_0 | simp only [Addr.add, Nat.zero_add] at hx458_0 | skip)
 have qi458 : (0 < l0.length) = True := eq_true (by omega)
 (try rw [show ((0 : Int)).toNat = 0 from rfl] at hx458_0)
 (try rw [Addr.add_zero'] at hx458_0)
 replace p458 := eq_true p458
 replace q458 := eq_true q458
 clear dq458
 go_enter Try.func92, Try.ntmps92
 go_wp2_with (first | ((with_reducible refine gate_callee (f := 110) rfl ?_); refine zD (some 9) Try.func110 #[.int .i64 (rd l0 0)] ?_; (with_reducible refine (impl_quadsOf.calls k (rd l0 0) t459 _ A2.out).mono ?_); rintro e w3 ⟨v460, rfl, ho0, hb⟩; refine ⟨_, rfl, ?_⟩; have HO461 := Aside0.mk (Kd.R_lower ho0 (below_size zB)); replace HB := zX hb; (try clear hb); (try clear ho0); obtain ⟨Ao4, co4, eo4⟩ := Kd.R_slice HO461.out; subst eo4))
 go_loopg [11] k (fun kq v11 w' => ∃ (x11_1 : Int), v11 = .int .i64 x11_1 ∧ Aside0 (impl_chi_isAcyclic.l0 kq l0 t459 (t459.length : Int) x11_1 = some r) ∧ Aside0 (kq ≤ k) ∧ Aside0 (Kd.R k91 91 w' w.heap.size (fun _ => True) (.slice Ao4 t459.length co4) t459) ∧ Aside0 (Below w.heap.size w w'))
 case atStart => exact ⟨(0), zF, H', ⟨Nat.le_refl _⟩, ⟨zR HO461.out⟩, ⟨zB⟩⟩
 case round =>
 clear H'
 try clear hx458_0
 try clear p458
 try clear q458
 obtain ⟨x11_1, rfl, HA, HK1, HO_9, HB⟩ := hrel
 cases gk with
 | zero => exact absurd HA.out (by simp [impl_chi_isAcyclic.l0])
 | succ k1 =>
 have H := HA.out
 clear HA
 simp only [impl_chi_isAcyclic.l0] at H
 by_cases c5 : x11_1 < (t459.length : Int)
 ·rw [if_pos c5] at H
  have c5b0 := decide_eq_true c5
  clear c5
  by_cases c6 : 0 ≤ x11_1
  ·rw [if_pos c6] at H
   have c6b0 := decide_eq_true c6
   clear c6
   by_cases c7 : x11_1 < (t459.length : Int)
   ·rw [if_pos c7] at H
    have c7b0 := decide_eq_true c7
    clear c7
    obtain ⟨t464, A8, H⟩ := zO H
    by_cases c9 : t464.toList = ([43, 43, 43, 43] : List UInt8)
    ·rw [if_pos c9] at H
     have c9b0 := beq_iff_eq.mpr c9
     have c9b1 := bne_eq_false_iff_eq.mpr c9
     clear c9
     obtain rfl := Option.some.inj H
     have p462 : 0 ≤ (x11_1 : Int) := zA
     have q462 : x11_1 < (t459.length : Int) := zA
     obtain ⟨ad462, e462, hx462_0, hx462_1, hx462_2, hx462_3⟩ := at_T91 (Kd.R_reads' HO_9.out).2.2 x11_1 p462 q462
     cases e462
     replace p462 := eq_true p462
     replace q462 := eq_true q462
     go_wp2_with (first | ((with_reducible refine gate_dst (N := 4) rfl ?_); refine zBx (N := 4) #[.int .i64 0, .int .i64 0, .int .i64 0, .int .i64 0] 91 ?_; intro gb463 hg w10 hbox hb; replace HO_9 := Aside0.mk (Kd.R_below (Kd.R_elderB (zR HO_9.out) gb463 (Nat.le_of_eq hg.symm)) hb); have BK463 := Aside0.mk (hbox); have GW463 := zS hg; have GE463 := zS hg; replace HB := zX hb; clear hb hbox hg; obtain ⟨hcz11_0, hcz11_1, hcz11_2, hcz11_3, hfz11_0, hfz11_1, hfz11_2, hfz11_3⟩ := zq4 BK463.out) | ((with_reducible refine gate_callee (f := 96) rfl ?_); refine zD (some 24) Try.func96 #[.pointer (some ⟨g0, 0, none⟩), .int .i64 ((rd_T91 t459 x11_1).f0), .int .i64 ((rd_T91 t459 x11_1).f1), .int .i64 ((rd_T91 t459 x11_1).f2), .int .i64 ((rd_T91 t459 x11_1).f3)] ?_; (with_reducible refine (impl_chi_circuit.calls k1 _ l0 ((rd_T91 t459 x11_1).f0) ((rd_T91 t459 x11_1).f1) ((rd_T91 t459 x11_1).f2) ((rd_T91 t459 x11_1).f3) t464 _ ?side1 ?side2 A8.out).mono ?_); (case side1 => exact Kd.C_below HR0.out (zG GE463.out)); (case side2 => exact HC0.out); rintro e w12 ⟨rfl, hb⟩; refine ⟨_, rfl, ?_⟩; replace HO_9 := Aside0.mk (Kd.R_below (by (with_reducible repeat (first | apply Kd.R_alloc | apply Kd.R_drewN | apply Kd.R_drew)); exact (Kd.R_mono (Kd.R_far (p := ⟨gb463, 3, none⟩) (Kd.R_far (p := ⟨gb463, 2, none⟩) (Kd.R_far (p := ⟨gb463, 1, none⟩) (Kd.R_far (p := ⟨gb463, 0, none⟩) (Kd.R_mono HO_9.out (fun k_ hk => (⟨hk, hk.2⟩ : _ ∧ k_ ≠ gb463))) (fun _ hk => hk.2) (.int .i64 ((rd_T91 t459 x11_1).f0))) (fun _ hk => hk.2) (.int .i64 ((rd_T91 t459 x11_1).f1))) (fun _ hk => hk.2) (.int .i64 ((rd_T91 t459 x11_1).f2))) (fun _ hk => hk.2) (.int .i64 ((rd_T91 t459 x11_1).f3))) (fun _ h_ => h_.1))) hb); replace BK463 := Aside0.mk (blk_below (g := gb463) (o := .cells #[.int .i64 ((rd_T91 t459 x11_1).f0), .int .i64 ((rd_T91 t459 x11_1).f1), .int .i64 ((rd_T91 t459 x11_1).f2), .int .i64 ((rd_T91 t459 x11_1).f3)] 91 (0, 0)) (zk0 BK463.out) hb); replace HB := zX1 GE463.out hb; (try clear hb)))
     go_ret
     exact ⟨zE, zG GE463.out⟩
    rw [if_neg c9] at H
    have c9b0 := beq_eq_false_iff_ne.mpr c9
    have c9b1 := bne_iff_ne.mpr c9
    have H' := Aside0.mk H; clear H
    have p462 : 0 ≤ (x11_1 : Int) := zA
    have q462 : x11_1 < (t459.length : Int) := zA
    obtain ⟨ad462, e462, hx462_0, hx462_1, hx462_2, hx462_3⟩ := at_T91 (Kd.R_reads' HO_9.out).2.2 x11_1 p462 q462
    cases e462
    replace p462 := eq_true p462
    replace q462 := eq_true q462
    go_wp2_with (first | ((with_reducible refine gate_dst (N := 4) rfl ?_); refine zBx (N := 4) #[.int .i64 0, .int .i64 0, .int .i64 0, .int .i64 0] 91 ?_; intro gb463 hg w13 hbox hb; replace HO_9 := Aside0.mk (Kd.R_below (Kd.R_elderB (zR HO_9.out) gb463 (Nat.le_of_eq hg.symm)) hb); have BK463 := Aside0.mk (hbox); have GW463 := zS hg; have GE463 := zS hg; replace HB := zX hb; clear hb hbox hg; obtain ⟨hcz14_0, hcz14_1, hcz14_2, hcz14_3, hfz14_0, hfz14_1, hfz14_2, hfz14_3⟩ := zq4 BK463.out) | ((with_reducible refine gate_callee (f := 96) rfl ?_); refine zD (some 24) Try.func96 #[.pointer (some ⟨g0, 0, none⟩), .int .i64 ((rd_T91 t459 x11_1).f0), .int .i64 ((rd_T91 t459 x11_1).f1), .int .i64 ((rd_T91 t459 x11_1).f2), .int .i64 ((rd_T91 t459 x11_1).f3)] ?_; (with_reducible refine (impl_chi_circuit.calls k1 _ l0 ((rd_T91 t459 x11_1).f0) ((rd_T91 t459 x11_1).f1) ((rd_T91 t459 x11_1).f2) ((rd_T91 t459 x11_1).f3) t464 _ ?side1 ?side2 A8.out).mono ?_); (case side1 => exact Kd.C_below HR0.out (zG GE463.out)); (case side2 => exact HC0.out); rintro e w15 ⟨rfl, hb⟩; refine ⟨_, rfl, ?_⟩; replace HO_9 := Aside0.mk (Kd.R_below (by (with_reducible repeat (first | apply Kd.R_alloc | apply Kd.R_drewN | apply Kd.R_drew)); exact (Kd.R_mono (Kd.R_far (p := ⟨gb463, 3, none⟩) (Kd.R_far (p := ⟨gb463, 2, none⟩) (Kd.R_far (p := ⟨gb463, 1, none⟩) (Kd.R_far (p := ⟨gb463, 0, none⟩) (Kd.R_mono HO_9.out (fun k_ hk => (⟨hk, hk.2⟩ : _ ∧ k_ ≠ gb463))) (fun _ hk => hk.2) (.int .i64 ((rd_T91 t459 x11_1).f0))) (fun _ hk => hk.2) (.int .i64 ((rd_T91 t459 x11_1).f1))) (fun _ hk => hk.2) (.int .i64 ((rd_T91 t459 x11_1).f2))) (fun _ hk => hk.2) (.int .i64 ((rd_T91 t459 x11_1).f3))) (fun _ h_ => h_.1))) hb); replace BK463 := Aside0.mk (blk_below (g := gb463) (o := .cells #[.int .i64 ((rd_T91 t459 x11_1).f0), .int .i64 ((rd_T91 t459 x11_1).f1), .int .i64 ((rd_T91 t459 x11_1).f2), .int .i64 ((rd_T91 t459 x11_1).f3)] 91 (0, 0)) (zk0 BK463.out) hb); replace HB := zX1 GE463.out hb; (try clear hb)))
    go_roundg k1
    case measure => have := HK1.out; omega
    case rel => exact ⟨(wrap64 (x11_1 + 1)), zF, H', ⟨by have := HK1.out; omega⟩, ⟨by (with_reducible repeat (first | apply Kd.R_alloc | apply Kd.R_drewN | apply Kd.R_drew)); exact Kd.R_mono HO_9.out (fun _ hk => trivial)⟩, ⟨zG GE463.out⟩⟩
   rw [if_neg c7] at H
   exact absurd H (by simp)
  rw [if_neg c6] at H
  exact absurd H (by simp)
 rw [if_neg c5] at H
 have c5b0 := decide_eq_false c5
 clear c5
 obtain rfl := Option.some.inj H
 go_wp2
 go_ret
 exact ⟨zE, zB⟩
/-! ### impl_IsAcyclic: function 23 -/
def impl_IsAcyclic.f (k : Nat) (a0_0 : Int) (a0_1 : ByteArray) : Option (Bool) := (impl_IsMatroid.f a0_0 a0_1).bind fun t565 => (if t565 = true then ((impl_tableOf.f k a0_0 a0_1).bind fun t566 => (if t566.length = 344 then ((impl_chi_isAcyclic.f k t566).bind fun t569 => (some t569)) else (none))) else (some false))
set_option maxHeartbeats 8000000 in
set_option maxRecDepth 100000 in
theorem impl_IsAcyclic.calls (k : Nat) (a0_0 : Int) (a0_1 : ByteArray) (r : Bool) (w : World) (h : impl_IsAcyclic.f k a0_0 a0_1 = some r) :
  Calls Try.prog 23 #[.agg #[.int .i64 a0_0, .string a0_1]] w fun e w' => e = .returned (.bool r) ∧ Below w.heap.size w w' := by
 have hu25 := Try.underlying25
 have HB := Aside0.mk (Below.refl w.heap.size w)
 have H : ((impl_IsMatroid.f a0_0 a0_1).bind fun t565 => (if t565 = true then ((impl_tableOf.f k a0_0 a0_1).bind fun t566 => (if t566.length = 344 then ((impl_chi_isAcyclic.f k t566).bind fun t569 => (some t569)) else (none))) else (some false))) = some r := h
 clear h
 obtain ⟨t565, A2, H⟩ := zO H
 by_cases c3 : t565 = true
 ·subst c3
  replace H := (if_pos rfl).symm.trans H
  obtain ⟨t566, A4, H⟩ := zO H
  by_cases c5 : t566.length = 344
  ·rw [if_pos c5] at H
   have c5b0 := eq_true c5
   have c5b1 := decide_eq_true c5
   clear c5
   obtain ⟨t569, A6, H⟩ := zO H
   obtain rfl := Option.some.inj H
   go_enter Try.func23, Try.ntmps23
   go_wp2_with (first | ((with_reducible refine gate_dst (N := 1) rfl ?_); refine zBx (N := 1) #[.int .i64 a0_0, .string a0_1] 25 ?_; intro gb564 hg w7 hbox hb; have BK564 := Aside0.mk (hbox); have GW564 := zS hg; have GE564 := zS hg; replace HB := zX hb; clear hb hbox hg; obtain ⟨hcz8_0, hcz8_1, hfz8_0, hfz8_1⟩ := zq2 BK564.out) | ((with_reducible refine gate_callee (f := 21) rfl ?_); refine zD (some 4) Try.func21 #[.agg #[.int .i64 a0_0, .string a0_1]] ?_; (with_reducible refine (impl_IsMatroid.calls a0_0 a0_1 true _ A2.out).mono ?_); rintro e w9 ⟨rfl, hb⟩; refine ⟨_, rfl, ?_⟩; replace BK564 := zV BK564.out hb; replace HB := zX1 GE564.out hb; (try clear hb); obtain ⟨hcz10_0, hcz10_1, hfz10_0, hfz10_1⟩ := zq2 BK564.out) | (go_at_call 83; (with_reducible refine (impl_tableOf.calls k a0_0 a0_1 t566 _ A4.out).mono ?_); rintro e w11 ⟨v567, rfl, ho0, hb⟩; have HO568 := Aside0.mk (Kd.R_lower ho0 (below_size (zG GE564.out))); replace BK564 := zV BK564.out hb; replace HB := zX1 GE564.out hb; (try clear hb); (try clear hb2); (try clear hk); (try clear hi); (try clear ho0); obtain ⟨go12, co12, eo12, gb12, gl12, cl12, HG12⟩ := Kd.R_form HO568.out (by have hl_ := Nat.le_of_eq (Eq.symm (zA : t566.length = 344)); omega); (first | cases eo12 | (injection eo12 with ea_ en_ ec_; (first | subst ea_ | (injection ea_ with ea_; subst ea_)); subst ec_; clear en_)); have GB12 := Aside0.mk gb12; have GG12 := Aside0.mk HG12; clear gb12 gl12 HG12) | (go_at_call 92; (with_reducible refine (impl_chi_isAcyclic.calls k _ t566 t569 _ ?side1 ?side2 A6.out).mono ?_); (case side1 => repeat (first | exact (Kd.R_reads' HO568.out).2.2 | (with_reducible refine Kd.C_alloc ?_ _) | (with_reducible refine Kd.C_drewN ?_ _) | (with_reducible refine Kd.C_drew ?_))); (case side2 => exact (zA : t566.length = 344)); rintro e w13 ⟨rfl, hb⟩; replace HO568 := zW HO568.out hb; replace BK564 := zV BK564.out hb; replace HB := zX1 GE564.out hb; (try clear hb); (try clear hb2); (try clear hk); (try clear hi)))
   go_ret
   exact ⟨zE, zG GE564.out⟩
  rw [if_neg c5] at H
  exact absurd H (by simp)
 replace c3 := Bool.eq_false_iff.mpr c3
 subst c3
 replace H := (if_neg zFf).symm.trans H
 obtain rfl := Option.some.inj H
 go_enter Try.func23, Try.ntmps23
 go_wp2_with (first | ((with_reducible refine gate_dst (N := 1) rfl ?_); refine zBx (N := 1) #[.int .i64 a0_0, .string a0_1] 25 ?_; intro gb564 hg w14 hbox hb; have BK564 := Aside0.mk (hbox); have GW564 := zS hg; have GE564 := zS hg; replace HB := zX hb; clear hb hbox hg; obtain ⟨hcz15_0, hcz15_1, hfz15_0, hfz15_1⟩ := zq2 BK564.out) | ((with_reducible refine gate_callee (f := 21) rfl ?_); refine zD (some 4) Try.func21 #[.agg #[.int .i64 a0_0, .string a0_1]] ?_; (with_reducible refine (impl_IsMatroid.calls a0_0 a0_1 false _ A2.out).mono ?_); rintro e w16 ⟨rfl, hb⟩; refine ⟨_, rfl, ?_⟩; replace BK564 := zV BK564.out hb; replace HB := zX1 GE564.out hb; (try clear hb)))
 go_ret
 exact ⟨zE, zG GE564.out⟩
/-! ### impl_orderOf: function 105 -/
def impl_orderOf.f (k : Nat) (a0_0 : Int) (a0_1 : ByteArray) : Option (List Int × Bool) := (impl_IsAcyclic.f k a0_0 a0_1).bind fun t729 => (if t729 = true then ((impl_tableOf.f k a0_0 a0_1).bind fun t730 => (some (t730, true))) else (some (([] : List Int), false)))
set_option maxHeartbeats 8000000 in
set_option maxRecDepth 100000 in
theorem impl_orderOf.calls (k : Nat) (a0_0 : Int) (a0_1 : ByteArray) (r1 : List Int) (r2 : Bool) (w : World) (h : impl_orderOf.f k a0_0 a0_1 = some (r1, r2)) :
  Calls Try.prog 105 #[.agg #[.int .i64 a0_0, .string a0_1]] w fun e w' => ∃ v0_ : Value, e = .returned (.tuple #[ptrOf v0_, .bool r2]) ∧ Kd.R (Kd.int .i64) 115 w' w.heap.size (fun _ => True) v0_ r1 ∧ Below w.heap.size w w' := by
 have hu25 := Try.underlying25
 have HB := Aside0.mk (Below.refl w.heap.size w)
 have H : ((impl_IsAcyclic.f k a0_0 a0_1).bind fun t729 => (if t729 = true then ((impl_tableOf.f k a0_0 a0_1).bind fun t730 => (some (t730, true))) else (some (([] : List Int), false)))) = some (r1, r2) := h
 clear h
 obtain ⟨t729, A2, H⟩ := zO H
 by_cases c3 : t729 = true
 ·subst c3
  replace H := (if_pos rfl).symm.trans H
  obtain ⟨t730, A4, H⟩ := zO H
  simp only [Option.some.injEq, Prod.mk.injEq] at H
  obtain ⟨rfl, rfl⟩ := H
  go_enter Try.func105, Try.ntmps105
  go_wp2_with (first | ((with_reducible refine gate_dst (N := 1) rfl ?_); refine zBx (N := 1) #[.int .i64 a0_0, .string a0_1] 25 ?_; intro gb728 hg w5 hbox hb; have BK728 := Aside0.mk (hbox); have GW728 := zS hg; have GE728 := zS hg; replace HB := zX hb; clear hb hbox hg; obtain ⟨hcz6_0, hcz6_1, hfz6_0, hfz6_1⟩ := zq2 BK728.out) | ((with_reducible refine gate_callee (f := 23) rfl ?_); refine zD (some 5) Try.func23 #[.agg #[.int .i64 a0_0, .string a0_1]] ?_; (with_reducible refine (impl_IsAcyclic.calls k a0_0 a0_1 true _ A2.out).mono ?_); rintro e w7 ⟨rfl, hb⟩; refine ⟨_, rfl, ?_⟩; replace BK728 := zV BK728.out hb; replace HB := zX1 GE728.out hb; (try clear hb); obtain ⟨hcz8_0, hcz8_1, hfz8_0, hfz8_1⟩ := zq2 BK728.out) | ((with_reducible refine gate_callee (f := 83) rfl ?_); refine zD (some 8) Try.func83 #[.agg #[.int .i64 a0_0, .string a0_1]] ?_; (with_reducible refine (impl_tableOf.calls k a0_0 a0_1 t730 _ A4.out).mono ?_); rintro e w9 ⟨v731, rfl, ho0, hb⟩; refine ⟨_, rfl, ?_⟩; have HO732 := Aside0.mk (Kd.R_lower ho0 (below_size (zG GE728.out))); replace BK728 := zV BK728.out hb; replace HB := zX1 GE728.out hb; (try clear hb); (try clear ho0)))
  go_ret2
  exact ⟨v731, zE, zR HO732.out, zG GE728.out⟩
 replace c3 := Bool.eq_false_iff.mpr c3
 subst c3
 replace H := (if_neg zFf).symm.trans H
 simp only [Option.some.injEq, Prod.mk.injEq] at H
 obtain ⟨rfl, rfl⟩ := H
 go_enter Try.func105, Try.ntmps105
 go_wp2_with (first | ((with_reducible refine gate_dst (N := 1) rfl ?_); refine zBx (N := 1) #[.int .i64 a0_0, .string a0_1] 25 ?_; intro gb728 hg w10 hbox hb; have BK728 := Aside0.mk (hbox); have GW728 := zS hg; have GE728 := zS hg; replace HB := zX hb; clear hb hbox hg; obtain ⟨hcz11_0, hcz11_1, hfz11_0, hfz11_1⟩ := zq2 BK728.out) | ((with_reducible refine gate_callee (f := 23) rfl ?_); refine zD (some 5) Try.func23 #[.agg #[.int .i64 a0_0, .string a0_1]] ?_; (with_reducible refine (impl_IsAcyclic.calls k a0_0 a0_1 false _ A2.out).mono ?_); rintro e w12 ⟨rfl, hb⟩; refine ⟨_, rfl, ?_⟩; replace BK728 := zV BK728.out hb; replace HB := zX1 GE728.out hb; (try clear hb)))
 go_ret2
 exact ⟨.slice none 0 0, zE, by first | exact Kd.R_nil _ _ _ _ _ | exact Kd.N_nil _ _ _ _ _ | exact Kd.V_nil _ _ _ _ _ | exact Kd.Q_nil _ _ _ _ _ | exact Kd.S_nil _ _ _ _ _, zG GE728.out⟩
/-! ### impl_HullOf: function 49 -/
def impl_HullOf.f (k : Nat) (a0_0 : Int) (a0_1 : ByteArray) : Option (List Int) := (impl_orderOf.f k a0_0 a0_1).bind fun bt1020 => (if bt1020.2 = true then (if bt1020.1.length = 344 then ((impl_chi_hull.f k bt1020.1).bind fun t1024 => (some t1024)) else (none)) else (some ([] : List Int)))
set_option maxHeartbeats 8000000 in
set_option maxRecDepth 100000 in
theorem impl_HullOf.calls (k : Nat) (a0_0 : Int) (a0_1 : ByteArray) (r : List Int) (w : World) (h : impl_HullOf.f k a0_0 a0_1 = some r) :
  Calls Try.prog 49 #[.agg #[.int .i64 a0_0, .string a0_1]] w fun e w' => ∃ v0_ : Value, e = .returned (v0_) ∧ Kd.R (Kd.int .i64) 3 w' w.heap.size (fun _ => True) v0_ r ∧ Below w.heap.size w w' := by
 have hu25 := Try.underlying25
 have HB := Aside0.mk (Below.refl w.heap.size w)
 have H : ((impl_orderOf.f k a0_0 a0_1).bind fun bt1020 => (if bt1020.2 = true then (if bt1020.1.length = 344 then ((impl_chi_hull.f k bt1020.1).bind fun t1024 => (some t1024)) else (none)) else (some ([] : List Int)))) = some r := h
 clear h
 obtain ⟨⟨t1020, t1023⟩, A2, H⟩ := zO H
 dsimp only at H
 by_cases c3 : t1023 = true
 ·subst c3
  replace H := (if_pos rfl).symm.trans H
  by_cases c4 : t1020.length = 344
  ·rw [if_pos c4] at H
   have c4b0 := eq_true c4
   have c4b1 := decide_eq_true c4
   clear c4
   obtain ⟨t1024, A5, H⟩ := zO H
   obtain rfl := Option.some.inj H
   go_enter Try.func49, Try.ntmps49
   go_wp2_with (first | ((with_reducible refine gate_dst (N := 1) rfl ?_); refine zBx (N := 1) #[.int .i64 a0_0, .string a0_1] 25 ?_; intro gb1019 hg w6 hbox hb; have BK1019 := Aside0.mk (hbox); have GW1019 := zS hg; have GE1019 := zS hg; replace HB := zX hb; clear hb hbox hg; obtain ⟨hcz7_0, hcz7_1, hfz7_0, hfz7_1⟩ := zq2 BK1019.out) | ((with_reducible refine gate_callee (f := 105) rfl ?_); refine zD (some 7) Try.func105 #[.agg #[.int .i64 a0_0, .string a0_1]] ?_; (with_reducible refine (impl_orderOf.calls k a0_0 a0_1 t1020 true _ A2.out).mono ?_); rintro e w8 ⟨v1021, rfl, ho0, hb⟩; refine ⟨_, rfl, ?_⟩; have HO1022 := Aside0.mk (Kd.R_lower ho0 (below_size (zG GE1019.out))); replace BK1019 := zV BK1019.out hb; replace HB := zX1 GE1019.out hb; (try clear hb); (try clear ho0); obtain ⟨go9, co9, eo9, gb9, gl9, cl9, HG9⟩ := Kd.R_form HO1022.out (by have hl_ := Nat.le_of_eq (Eq.symm (zA : t1020.length = 344)); omega); (first | cases eo9 | (injection eo9 with ea_ en_ ec_; (first | subst ea_ | (injection ea_ with ea_; subst ea_)); subst ec_; clear en_)); have GB9 := Aside0.mk gb9; have GG9 := Aside0.mk HG9; clear gb9 gl9 HG9) | ((with_reducible refine gate_callee (f := 120) rfl ?_); refine zD (some 13) Try.func120 #[.pointer (some ⟨go9, 0, none⟩)] ?_; (with_reducible refine (impl_chi_hull.calls k _ t1020 t1024 _ ?side1 ?side2 A5.out).mono ?_); (case side1 => repeat (first | exact (Kd.R_reads' HO1022.out).2.2 | (with_reducible refine Kd.C_alloc ?_ _) | (with_reducible refine Kd.C_drewN ?_ _) | (with_reducible refine Kd.C_drew ?_))); (case side2 => exact (zA : t1020.length = 344)); rintro e w10 ⟨v1025, rfl, ho0, hb⟩; refine ⟨_, rfl, ?_⟩; replace HO1022 := zW HO1022.out hb; have HO1026 := Aside0.mk (Kd.R_lower ho0 (below_size (zG GE1019.out))); replace BK1019 := zV BK1019.out hb; replace HB := zX1 GE1019.out hb; (try clear hb); (try clear ho0)))
   go_ret
   exact ⟨_, zE, zR HO1026.out, zG GE1019.out⟩
  rw [if_neg c4] at H
  exact absurd H (by simp)
 replace c3 := Bool.eq_false_iff.mpr c3
 subst c3
 replace H := (if_neg zFf).symm.trans H
 obtain rfl := Option.some.inj H
 go_enter Try.func49, Try.ntmps49
 go_wp2_with (first | ((with_reducible refine gate_dst (N := 1) rfl ?_); refine zBx (N := 1) #[.int .i64 a0_0, .string a0_1] 25 ?_; intro gb1019 hg w11 hbox hb; have BK1019 := Aside0.mk (hbox); have GW1019 := zS hg; have GE1019 := zS hg; replace HB := zX hb; clear hb hbox hg; obtain ⟨hcz12_0, hcz12_1, hfz12_0, hfz12_1⟩ := zq2 BK1019.out) | ((with_reducible refine gate_callee (f := 105) rfl ?_); refine zD (some 7) Try.func105 #[.agg #[.int .i64 a0_0, .string a0_1]] ?_; (with_reducible refine (impl_orderOf.calls k a0_0 a0_1 t1020 false _ A2.out).mono ?_); rintro e w13 ⟨v1021, rfl, ho0, hb⟩; refine ⟨_, rfl, ?_⟩; have HO1022 := Aside0.mk (Kd.R_lower ho0 (below_size (zG GE1019.out))); replace BK1019 := zV BK1019.out hb; replace HB := zX1 GE1019.out hb; (try clear hb); (try clear ho0)))
 go_ret
 exact ⟨_, zE, by first | exact Kd.R_nil _ _ _ _ _ | exact Kd.N_nil _ _ _ _ _ | exact Kd.V_nil _ _ _ _ _ | exact Kd.Q_nil _ _ _ _ _ | exact Kd.S_nil _ _ _ _ _, zG GE1019.out⟩
/-! ### impl_LayersOf: function 50 -/
def impl_LayersOf.l0 : Nat → List Int → List (List Int) → Int → Option ((List (List Int)))
 | 0, _, _, _ => none
 | k + 1, x3, x5, x6 => if x6 = 0 then (some x5) else (if x3.length = 344 then ((impl_chi_extremeIn.f k x3 x6).bind fun t1033 => ((impl_elementsOf.f k t1033).bind fun t1034 => (if x5.length < 5864062014805 then (impl_LayersOf.l0 k x3 (x5 ++ [t1034]) (Go.bits .andNot .i64 x6 t1033)) else (none)))) else (none))
def impl_LayersOf.f (k : Nat) (a0_0 : Int) (a0_1 : ByteArray) : Option ((List (List Int))) := (impl_orderOf.f k a0_0 a0_1).bind fun bt1028 => (if bt1028.2 = true then ((impl_fullSet.f a0_0).bind fun t1032 => (impl_LayersOf.l0 k bt1028.1 ([] : List (List Int)) t1032)) else (some ([] : List (List Int))))
set_option maxHeartbeats 8000000 in
set_option maxRecDepth 100000 in
theorem impl_LayersOf.calls (k : Nat) (a0_0 : Int) (a0_1 : ByteArray) (r : List (List Int)) (w : World) (h : impl_LayersOf.f k a0_0 a0_1 = some r) :
  Calls Try.prog 50 #[.agg #[.int .i64 a0_0, .string a0_1]] w fun e w' => ∃ v0_ : Value, e = .returned (v0_) ∧ Kd.S (Kd.slice 3 (Kd.int .i64)) 27 w' w.heap.size (fun _ => True) v0_ r ∧ Below w.heap.size w w' := by
 have hu25 := Try.underlying25
 have HB := Aside0.mk (Below.refl w.heap.size w)
 have H : ((impl_orderOf.f k a0_0 a0_1).bind fun bt1028 => (if bt1028.2 = true then ((impl_fullSet.f a0_0).bind fun t1032 => (impl_LayersOf.l0 k bt1028.1 ([] : List (List Int)) t1032)) else (some ([] : List (List Int))))) = some r := h
 clear h
 obtain ⟨⟨t1028, t1031⟩, A2, H⟩ := zO H
 dsimp only at H
 by_cases c3 : t1031 = true
 ·subst c3
  replace H := (if_pos rfl).symm.trans H
  obtain ⟨t1032, A4, H⟩ := zO H
  have H' := Aside0.mk H; clear H
  go_enter Try.func50, Try.ntmps50
  go_wp2_with (first | ((with_reducible refine gate_dst (N := 1) rfl ?_); refine zBx (N := 1) #[.int .i64 a0_0, .string a0_1] 25 ?_; intro gb1027 hg w5 hbox hb; have BK1027 := Aside0.mk (hbox); have GW1027 := zS hg; have GE1027 := zS hg; replace HB := zX hb; clear hb hbox hg; obtain ⟨hcz6_0, hcz6_1, hfz6_0, hfz6_1⟩ := zq2 BK1027.out) | ((with_reducible refine gate_callee (f := 105) rfl ?_); refine zD (some 10) Try.func105 #[.agg #[.int .i64 a0_0, .string a0_1]] ?_; (with_reducible refine (impl_orderOf.calls k a0_0 a0_1 t1028 true _ A2.out).mono ?_); rintro e w7 ⟨v1029, rfl, ho0, hb⟩; refine ⟨_, rfl, ?_⟩; have HO1030 := Aside0.mk (Kd.R_lower ho0 (below_size (zG GE1027.out))); replace BK1027 := zV BK1027.out hb; replace HB := zX1 GE1027.out hb; (try clear hb); (try clear ho0); obtain ⟨hcz8_0, hcz8_1, hfz8_0, hfz8_1⟩ := zq2 BK1027.out) | ((with_reducible refine gate_callee (f := 121) rfl ?_); refine zD (some 17) Try.func121 #[.int .i64 a0_0] ?_; (with_reducible refine (impl_fullSet.calls a0_0 t1032 _ A4.out).mono ?_); rintro e w' ⟨rfl, ⟨nd, rfl⟩⟩; refine ⟨_, rfl, ?_⟩))
  go_loopg [5, 6] k (fun kq v5 v6 w' => ∃ (x5_1 : List (List Int)) (x6_1 : Int), v6 = .int .i64 x6_1 ∧ Aside0 (impl_LayersOf.l0 kq t1028 x5_1 x6_1 = some r) ∧ Aside0 (kq ≤ k) ∧ Aside0 (Kd.R (Kd.int .i64) 115 w' w.heap.size (fun _ => True) v1029 t1028) ∧ Aside0 (Kd.S (Kd.slice 3 (Kd.int .i64)) 27 w' w.heap.size (fun _ => True) v5 x5_1) ∧ Aside0 (w'.heap[gb1027]? = some (.cells #[.int .i64 a0_0, .string a0_1] 25 (0, 0))) ∧ Aside0 (Below w.heap.size w w'))
  case atStart => exact ⟨(([] : List (List Int))), (t1032), zF, H', ⟨Nat.le_refl _⟩, ⟨zR HO1030.out⟩, ⟨by first | exact Kd.S_nil _ _ _ _ _ | exact Kd.N_nil _ _ _ _ _ | exact Kd.V_nil _ _ _ _ _ | exact Kd.Q_nil _ _ _ _ _ | exact Kd.R_nil _ _ _ _ _⟩, ⟨zK BK1027.out⟩, ⟨zG GE1027.out⟩⟩
  case round =>
  clear H'
  try clear c3
  try clear hcz6_0
  try clear hcz6_1
  try clear hcz8_0
  try clear hcz8_1
  try clear hfz6_0
  try clear hfz6_1
  try clear hfz8_0
  try clear hfz8_1
  obtain ⟨x5_1, x6_1, rfl, HA, HK1, HO_3, HO_5, BK1027, HB⟩ := hrel
  cases gk with
  | zero => exact absurd HA.out (by simp [impl_LayersOf.l0])
  | succ k1 =>
  have H := HA.out
  clear HA
  simp only [impl_LayersOf.l0] at H
  by_cases c9 : x6_1 = 0
  ·rw [if_pos c9] at H
   have c9b0 := beq_iff_eq.mpr c9
   have c9b1 := bne_eq_false_iff_eq.mpr c9
   clear c9
   obtain rfl := Option.some.inj H
   go_wp2
   go_ret
   exact ⟨_, zE, by (with_reducible repeat (first | apply Kd.S_alloc | apply Kd.S_drewN | apply Kd.S_drew)); exact HO_5.out, zG GE1027.out⟩
  rw [if_neg c9] at H
  have c9b0 := beq_eq_false_iff_ne.mpr c9
  have c9b1 := bne_iff_ne.mpr c9
  by_cases c10 : t1028.length = 344
  ·rw [if_pos c10] at H
   have c10b0 := eq_true c10
   have c10b1 := decide_eq_true c10
   clear c10
   obtain ⟨t1033, A11, H⟩ := zO H
   obtain ⟨t1034, A12, H⟩ := zO H
   by_cases c13 : x5_1.length < 5864062014805
   ·rw [if_pos c13] at H
    have LMc13 := Aside0.mk c13
    clear c13
    obtain ⟨y1037, hy1037⟩ : ∃ y_ : List (List Int), y_ = (x5_1 ++ [t1034]) := ⟨_, rfl⟩
    replace H : (impl_LayersOf.l0 k1 t1028 y1037 (Go.bits .andNot .i64 x6_1 t1033)) = some r := by first | (rw [hy1037]; with_reducible exact H) | (have H2_ := (Option.bind_some _ _).symm.trans H; rw [hy1037]; with_reducible exact H2_) | (have H2_ := (Option.bind_some _ _).symm.trans H; with_reducible exact H2_) | with_reducible exact H | (rw [hy1037]; exact H) | exact H
    have Ny1037 := Aside0.mk hy1037
    clear hy1037
    have H' := Aside0.mk H; clear H
    obtain ⟨go14, co14, eo14, gb14, gl14, cl14, HG14⟩ := Kd.R_form HO_3.out (by have hl_ := Nat.le_of_eq (Eq.symm (zA : t1028.length = 344)); omega)
    (first | cases eo14 | (injection eo14 with ea_ en_ ec_; (first | subst ea_ | (injection ea_ with ea_; subst ea_)); subst ec_; clear en_))
    have GB14 := Aside0.mk gb14
    have GG14 := Aside0.mk HG14
    clear gb14 gl14 HG14
    go_wp2_with (first | ((with_reducible refine gate_callee (f := 122) rfl ?_); refine zD (some 22) Try.func122 #[.pointer (some ⟨go14, 0, none⟩), .int .i64 x6_1] ?_; (with_reducible refine (impl_chi_extremeIn.calls k1 _ t1028 x6_1 t1033 _ ?side1 ?side2 A11.out).mono ?_); (case side1 => repeat (first | exact (Kd.R_reads' HO_3.out).2.2 | (with_reducible refine Kd.C_alloc ?_ _) | (with_reducible refine Kd.C_drewN ?_ _) | (with_reducible refine Kd.C_drew ?_))); (case side2 => exact (zA : t1028.length = 344)); rintro e w15 ⟨rfl, hb⟩; refine ⟨_, rfl, ?_⟩; replace HO_3 := zW HO_3.out hb; replace HO_5 := Aside0.mk (Kd.S_below (by (with_reducible repeat (first | apply Kd.S_alloc | apply Kd.S_drewN | apply Kd.S_drew)); exact HO_5.out) hb); replace BK1027 := zV BK1027.out hb; replace HB := zX1 GE1027.out hb; (try clear hb)) | ((with_reducible refine gate_callee (f := 123) rfl ?_); refine zD (some 25) Try.func123 #[.int .i64 t1033] ?_; (with_reducible refine (impl_elementsOf.calls k1 t1033 t1034 _ A12.out).mono ?_); rintro e w16 ⟨v1035, rfl, ho0, hb⟩; refine ⟨_, rfl, ?_⟩; replace HO_3 := zW HO_3.out hb; replace HO_5 := Aside0.mk (Kd.S_elder' (by (with_reducible repeat (first | apply Kd.S_alloc | apply Kd.S_drewN | apply Kd.S_drew)); exact HO_5.out) (Kd.R_base ho0) hb); have HO1036 := Aside0.mk (Kd.R_lower ho0 (below_size (zG GE1027.out))); replace BK1027 := zV BK1027.out hb; replace HB := zX1 GE1027.out hb; (try clear hb); (try clear ho0); obtain ⟨Ao18, co18, eo18⟩ := Kd.R_slice HO1036.out; subst eo18) | ((with_reducible refine gate_builtin (b := .append) (xs := #[.tmp 23, .tmp 26]) rfl ?_); at_builtin; refine Kd.S_append (Kd.slice 3 (Kd.int .i64)) (w0 := w) w.heap.size rfl (.tmp 23) (.tmp 26) 44 27 (.slice none 0 0) 24 rfl Try.underlying44 info27 rfl (by decide) (by omega) u5 x5_1 t1034 [.slice Ao18 t1034.length co18] (fun _ => True) (fun k_ => some k_ = (.slice Ao18 t1034.length co18 : Value).ownBlock) rfl rfl ?aP (fun k_ hk_ => ((Kd.R_mono (ok' := fun k_ => ((fun _ => True)) k_ ∧ some k_ ≠ (u5 : Value).ownBlock) (Kd.R_apart' (HO1036.out) (Kd.S_typed HO_5.out) (by decide)) (fun k_ hk => ⟨trivial, hk.2⟩))).1 k_ hk_.symm) ?aF ?aO ?aB ?aS ?aL ?_; (case aP => exact Kd.M_row (Kd.R_mono (Kd.R_tight rfl (Kd.R_mono (ok' := fun k_ => ((fun _ => True)) k_ ∧ some k_ ≠ (u5 : Value).ownBlock) (Kd.R_apart' (HO1036.out) (Kd.S_typed HO_5.out) (by decide)) (fun k_ hk => ⟨trivial, hk.2⟩))) (fun _ h_ => h_))); (case aB => exact (zG GE1027.out)); (case aF => exact (fun _ _ => trivial)); (case aO => exact (by (with_reducible repeat (first | apply Kd.S_alloc | apply Kd.S_drewN | apply Kd.S_drew)); exact Kd.S_mono HO_5.out (fun k_ hk => ⟨trivial, fun e_ => hk.2 e_⟩))); (case aS => exact (below_size (zG GE1027.out))); (case aL => have := LMc13.out; omega); intro v1038 w17 ho hb hg hat; rw [← Ny1037.out] at ho; have n0_ := Aside0.mk (Kd.R_over' (zR HO_3.out) (Kd.S_typed (by (with_reducible repeat (first | apply Kd.S_alloc | apply Kd.S_drewN | apply Kd.S_drew)); exact HO_5.out)) (by decide) hg); have n1_ := Aside0.mk (blk_grown (g := gb1027) (o := .cells #[.int .i64 a0_0, .string a0_1] 25 (0, 0)) (zK BK1027.out) hg (Kd.S_ne HO_5.out BK1027.out (by decide))); have n2_ := Aside0.mk (hb); have n3_ := Aside0.mk (ho); clear HO_3; clear BK1027; clear HB; clear HO_5; clear HO1036; have HO_3 := n0_; have BK1027 := n1_; have HB := n2_; have HO1039 := n3_; clear n0_ n1_ n2_ n3_; clear ho hb hg hat))
    go_roundg k1
    case measure => have := HK1.out; omega
    case rel => exact ⟨(y1037), (Go.bits .andNot .i64 x6_1 t1033), zF, H', ⟨by have := HK1.out; omega⟩, ⟨zR HO_3.out⟩, ⟨by (with_reducible repeat (first | apply Kd.S_alloc | apply Kd.S_drewN | apply Kd.S_drew)); exact HO1039.out⟩, ⟨zK BK1027.out⟩, ⟨zG GE1027.out⟩⟩
   rw [if_neg c13] at H
   exact absurd H (by simp)
  rw [if_neg c10] at H
  exact absurd H (by simp)
 replace c3 := Bool.eq_false_iff.mpr c3
 subst c3
 replace H := (if_neg zFf).symm.trans H
 obtain rfl := Option.some.inj H
 go_enter Try.func50, Try.ntmps50
 go_wp2_with (first | ((with_reducible refine gate_dst (N := 1) rfl ?_); refine zBx (N := 1) #[.int .i64 a0_0, .string a0_1] 25 ?_; intro gb1027 hg w19 hbox hb; have BK1027 := Aside0.mk (hbox); have GW1027 := zS hg; have GE1027 := zS hg; replace HB := zX hb; clear hb hbox hg; obtain ⟨hcz20_0, hcz20_1, hfz20_0, hfz20_1⟩ := zq2 BK1027.out) | ((with_reducible refine gate_callee (f := 105) rfl ?_); refine zD (some 10) Try.func105 #[.agg #[.int .i64 a0_0, .string a0_1]] ?_; (with_reducible refine (impl_orderOf.calls k a0_0 a0_1 t1028 false _ A2.out).mono ?_); rintro e w21 ⟨v1029, rfl, ho0, hb⟩; refine ⟨_, rfl, ?_⟩; have HO1030 := Aside0.mk (Kd.R_lower ho0 (below_size (zG GE1027.out))); replace BK1027 := zV BK1027.out hb; replace HB := zX1 GE1027.out hb; (try clear hb); (try clear ho0)))
 go_ret
 exact ⟨_, zE, by first | exact Kd.S_nil _ _ _ _ _ | exact Kd.N_nil _ _ _ _ _ | exact Kd.V_nil _ _ _ _ _ | exact Kd.Q_nil _ _ _ _ _ | exact Kd.R_nil _ _ _ _ _, zG GE1027.out⟩
/-! ### spec_l1Max: function 112 -/
def spec_l1Max.f (a0 : Int) (a1 : Int) : Option (Int) := if a0 > a1 then (some a0) else (some a1)
set_option maxHeartbeats 8000000 in
set_option maxRecDepth 100000 in
theorem spec_l1Max.calls (a0 : Int) (a1 : Int) (r : Int) (w : World) (h : spec_l1Max.f a0 a1 = some r) :
  Calls Try.prog 112 #[.int .i64 a0, .int .i64 a1] w fun e w' => e = .returned (.int .i64 r) ∧ Drawn0 w w' := by
 have H : (if a0 > a1 then (some a0) else (some a1)) = some r := h
 clear h
 by_cases c3 : a0 > a1
 ·rw [if_pos c3] at H
  have c3b0 : decide (a1 < a0) = true := decide_eq_true c3
  clear c3
  obtain rfl := Option.some.inj H
  go_enter Try.func112, Try.ntmps112
  go_wp2
  go_ret
  exact ⟨by first | rfl | (simp; done) | (simp [*]; done), by repeat (first | exact Drawn0.refl _ | apply Drawn0.step)⟩
 rw [if_neg c3] at H
 have c3b0 : decide (a1 < a0) = false := decide_eq_false c3
 clear c3
 obtain rfl := Option.some.inj H
 go_enter Try.func112, Try.ntmps112
 go_wp2
 go_ret
 exact ⟨by first | rfl | (simp; done) | (simp [*]; done), by repeat (first | exact Drawn0.refl _ | apply Drawn0.step)⟩
/-! ### spec_l1Bit: function 119 -/
def spec_l1Bit.f (a0 : Bool) : Option (Int) := if a0 = true then (some 1) else (some 0)
set_option maxHeartbeats 8000000 in
set_option maxRecDepth 100000 in
theorem spec_l1Bit.calls (a0 : Bool) (r : Int) (w : World) (h : spec_l1Bit.f a0 = some r) :
  Calls Try.prog 119 #[.bool a0] w fun e w' => e = .returned (.int .i64 r) ∧ Drawn0 w w' := by
 have H : (if a0 = true then (some 1) else (some 0)) = some r := h
 clear h
 by_cases c2 : a0 = true
 ·subst c2
  replace H := (if_pos rfl).symm.trans H
  obtain rfl := Option.some.inj H
  go_enter Try.func119, Try.ntmps119
  go_wp2
  go_ret
  exact ⟨by first | rfl | (simp; done) | (simp [*]; done), by repeat (first | exact Drawn0.refl _ | apply Drawn0.step)⟩
 replace c2 := Bool.eq_false_iff.mpr c2
 subst c2
 replace H := (if_neg zFf).symm.trans H
 obtain rfl := Option.some.inj H
 go_enter Try.func119, Try.ntmps119
 go_wp2
 go_ret
 exact ⟨by first | rfl | (simp; done) | (simp [*]; done), by repeat (first | exact Drawn0.refl _ | apply Drawn0.step)⟩
/-! ### spec_l6One: function 124 -/
def spec_l6One.f (k : Nat) (l0 : List Int) : Option (Int × ByteArray × Int) := (spec_l1New.f k l0).bind fun bt1041 => ((spec_l5Draw.f k bt1041.1 bt1041.2.1 bt1041.2.2).bind fun bt1045 => ((spec_l1Max.f 1 bt1045.1).bind fun t1050 => ((spec_l1Below.f bt1041.1 bt1045.2.2.1 bt1045.2.2.2 t1050).bind fun bt1051 => ((spec_l1Once.f bt1041.1 bt1051.2.1 bt1051.2.2 14).bind fun bt1054 => ((spec_l1Bit.f bt1054.1).bind fun t1057 => (some (bt1045.1, bt1045.2.1, wrap64 (bt1051.1 - t1057))))))))
def spec_l6One.T3 : Bool × List (List Nat × List Nat) := (true, [([], []), ([], []), ([], []), ([2], [2]), ([3], [3]), ([1, 4, 4], [1, 4]), ([], []), ([6, 5], [6]), ([7, 7], [7]), ([5, 8], [5, 8]), ([0, 8, 0], [0]), ([9, 10, 0, 1, 2, 3, 4, 5, 6, 7, 8, 9, 10], [9])])
def spec_l6One.B3 : List Nat := [0, 0, 0, 4, 12, 30, 0, 126, 254, 510, 511, 2047]
theorem spec_l6One.tab3 : rtab .any (opsOf Try.f124 3) = spec_l6One.T3 := by kernel_rfl
theorem spec_l6One.bits3 : waitsOk spec_l6One.T3.2 spec_l6One.B3 = true := by kernel_rfl
theorem zl110_0 {p q p0 : Prop} (g : p) (g0 : p0) (h : p → p0 → q := by intro zg_ z0_; repeat (first | (with_reducible first | exact zg_ | apply below_alloc | apply pw_below_drewN | apply below_drew1 | refine below_set ?_ z0_) | exact zg_)) : q := h g g0
theorem zl110_1 {p q p0 : Prop} (g : p) (g0 : p0) (h : p → p0 → q := by intro zg_ z0_; repeat (first | (with_reducible first | exact zg_ | apply IsS110.alloc | apply IsS110.drewN | apply IsS110.drew | apply IsS110.set_1 | apply IsS110.set_2 | refine IsS110.far ?_ z0_ _) | exact zg_)) : q := h g g0
theorem zl110_2 {p q p0 p1 : Prop} (g : p) (g0 : p0) (g1 : p1) (h : p → p0 → p1 → q := by intro zg_ z0_ z1_; repeat (first | (with_reducible first | exact zg_ | apply below_alloc | apply pw_below_drewN | apply below_drew1 | refine below_set ?_ z0_ | refine below_set ?_ z1_) | exact zg_)) : q := h g g0 g1
theorem zl110_3 {p q p0 p1 : Prop} (g : p) (g0 : p0) (g1 : p1) (h : p → p0 → p1 → q := by intro zg_ z0_ z1_; repeat (first | (with_reducible first | exact zg_ | apply IsS110.alloc | apply IsS110.drewN | apply IsS110.drew | apply IsS110.set_1 | apply IsS110.set_2 | refine IsS110.far ?_ z0_ _ | refine IsS110.far ?_ z1_ _) | exact zg_)) : q := h g g0 g1
theorem zl110_4 {p q p0 p1 p2 : Prop} (g : p) (g0 : p0) (g1 : p1) (g2 : p2) (h : p → p0 → p1 → p2 → q := by intro zg_ z0_ z1_ z2_; repeat (first | (with_reducible first | exact zg_ | apply below_alloc | apply pw_below_drewN | apply below_drew1 | refine below_set ?_ z0_ | refine below_set ?_ z1_ | refine below_set ?_ z2_) | exact zg_)) : q := h g g0 g1 g2
set_option maxHeartbeats 8000000 in
set_option maxRecDepth 100000 in
theorem spec_l6One.calls (k : Nat) (A0 : Option Addr) (c0 : Nat) (l0 : List Int) (r1 : Int) (r2 : ByteArray) (r3 : Int) (w : World) (hr0 : Kd.C (Kd.int .u8) w A0 l0.length l0) (hc0 : l0.length ≤ c0) (h : spec_l6One.f k l0 = some (r1, r2, r3)) :
  Calls Try.prog 124 #[.slice A0 l0.length c0] w fun e w' => e = .returned (.tuple #[.agg #[.int .i64 r1, .string r2], .int .i64 r3]) ∧ Below w.heap.size w w' := by
 have hu25 := Try.underlying25
 have HR0 := Aside0.mk hr0
 have HC0 := Aside0.mk hc0
 clear hr0 hc0
 have HB := Aside0.mk (Below.refl w.heap.size w)
 have H : ((spec_l1New.f k l0).bind fun bt1041 => ((spec_l5Draw.f k bt1041.1 bt1041.2.1 bt1041.2.2).bind fun bt1045 => ((spec_l1Max.f 1 bt1045.1).bind fun t1050 => ((spec_l1Below.f bt1041.1 bt1045.2.2.1 bt1045.2.2.2 t1050).bind fun bt1051 => ((spec_l1Once.f bt1041.1 bt1051.2.1 bt1051.2.2 14).bind fun bt1054 => ((spec_l1Bit.f bt1054.1).bind fun t1057 => (some (bt1045.1, bt1045.2.1, wrap64 (bt1051.1 - t1057))))))))) = some (r1, r2, r3) := h
 clear h
 obtain ⟨⟨t1041, t1042, t1043⟩, A2, H⟩ := zO H
 dsimp only at H
 obtain ⟨⟨t1045, t1046, t1047, t1048⟩, A3, H⟩ := zO H
 dsimp only at H
 obtain ⟨t1050, A4, H⟩ := zO H
 obtain ⟨⟨t1051, t1052, t1053⟩, A5, H⟩ := zO H
 dsimp only at H
 obtain ⟨⟨t1054, t1055, t1056⟩, A6, H⟩ := zO H
 dsimp only at H
 obtain ⟨t1057, A7, H⟩ := zO H
 simp only [Option.some.injEq, Prod.mk.injEq] at H
 obtain ⟨rfl, rfl, rfl⟩ := H
 go_enter Try.func124, Try.ntmps124
 try go_wp2_with (first | ((with_reducible refine gate_dst (N := 2) rfl ?_); refine zBx (N := 2) #[.int .i64 0, .string (⟨#[]⟩ : ByteArray)] 25 ?_; intro gb1040 hg w8 hbox hb; have BK1040 := Aside0.mk (hbox); have GW1040 := zS hg; have GE1040 := zS hg; replace HB := zX hb; clear hb hbox hg) | ((with_reducible refine gate_callee (f := 81) rfl ?_); refine zD (some 7) Try.func81 #[.slice A0 l0.length c0] ?_; (with_reducible refine (spec_l1New.calls k _ _ l0 t1041 t1042 t1043 w _ ?side1 ?side2 ?side3 A2.out).mono ?_); (case side1 => exact (zl110_0 HB.out GE1040.out)); (case side2 => exact HR0.out); (case side3 => exact HC0.out); rintro e w9 ⟨g1044, rfl, hi, hb, hb2⟩; refine ⟨_, rfl, ?_⟩; have HI1044 := Aside0.mk (hi); have NB1044_1040 := Aside0.mk (IsS110.ne_blk hi (blk_below (g := gb1040) (o := .cells #[.int .i64 0, .string (⟨#[]⟩ : ByteArray)] 25 (0, 0)) (zK BK1040.out) hb2) (by decide)); have NB1040_1044 := Aside0.mk (Ne.symm (IsS110.ne_blk hi (blk_below (g := gb1040) (o := .cells #[.int .i64 0, .string (⟨#[]⟩ : ByteArray)] 25 (0, 0)) (zK BK1040.out) hb2) (by decide))); replace BK1040 := Aside0.mk (blk_below (g := gb1040) (o := .cells #[.int .i64 0, .string (⟨#[]⟩ : ByteArray)] 25 (0, 0)) (zK BK1040.out) hb2); replace HB := Aside0.mk (hb); (try clear hb); (try clear hb2); (try clear hi)) | ((with_reducible refine gate_callee (f := 109) rfl ?_); refine zD (some 9) Try.func109 #[.pointer (some ⟨g1044, 0, none⟩)] ?_; (with_reducible refine (spec_l5Draw.calls k g1044 t1041 t1042 t1043 t1045 t1046 t1047 t1048 w _ ?side1 ?side2 A3.out).mono ?_); (case side1 => exact (zl110_1 HI1044.out NB1044_1040.out)); (case side2 => exact (zl110_2 HB.out (IsS110.ge HI1044.out) GE1040.out)); rintro e w10 ⟨rfl, hi, hb, hk⟩; refine ⟨_, rfl, ?_⟩; replace BK1040 := zKB hk BK1040.out NB1040_1044.out; replace HI1044 := Aside0.mk (hi); replace HB := Aside0.mk (hb); (try clear hb); (try clear hk); (try clear hi)) | ((with_reducible refine gate_dst (N := 5) rfl ?_); refine zBx (N := 5) #[.int .i64 0, .string (⟨#[]⟩ : ByteArray)] 25 ?_; intro gb1049 hg w11 hbox hb; have n0_ := zV BK1040.out hb; have n1_ := Aside0.mk (IsS110.below (zl110_1 HI1044.out NB1044_1040.out) hb); have n2_ := Aside0.mk (below_step (zG2 (IsS110.ge HI1044.out) GE1040.out) hb); have n3_ := Aside0.mk (hbox); have n4_ := zSg hg (zG2 (IsS110.ge HI1044.out) GE1040.out); have n5_ := zSg hg (zG2 (IsS110.ge HI1044.out) GE1040.out); have n6_ := zL hg BK1040.out; have n7_ := zLg hg BK1040.out; have n8_ := Aside0.mk ((by rw [hg]; exact Nat.ne_of_lt (IsS110.lt (show IsS110 w _ g1044 t1041 t1047 t1048 from (zl110_1 HI1044.out NB1044_1040.out))) : g1044 ≠ gb1049)); have n9_ := Aside0.mk ((by rw [hg]; exact Nat.ne_of_gt (IsS110.lt (show IsS110 w _ g1044 t1041 t1047 t1048 from (zl110_1 HI1044.out NB1044_1040.out))) : gb1049 ≠ g1044)); clear BK1040; clear HI1044; clear HB; have BK1040 := n0_; have HI1044 := n1_; have HB := n2_; have BK1049 := n3_; have GW1049 := n4_; have GE1049 := n5_; have NB1040_1049 := n6_; have NB1049_1040 := n7_; have NB1044_1049 := n8_; have NB1049_1044 := n9_; clear n0_ n1_ n2_ n3_ n4_ n5_ n6_ n7_ n8_ n9_; clear hb hbox hg; have hnb12 := NB1049_1040.out; have hnc12 := NB1040_1049.out; have hnb13 := NB1049_1044.out; have hnc13 := NB1044_1049.out; obtain ⟨hcz14_0, hcz14_1, hfz14_0, hfz14_1⟩ := zq2 BK1049.out))
 have n0_ : Aside0 (((w11.setCell ⟨gb1049, 0, none⟩ (.int .i64 t1045)).setCell ⟨gb1049, 1, none⟩ (.string t1046)).heap[gb1040]? = some (.cells #[.int .i64 0, .string (⟨#[]⟩ : ByteArray)] 25 (0, 0))) := ⟨zk2 BK1040.out NB1040_1049.out NB1040_1049.out⟩
 have n1_ : Aside0 (((w11.setCell ⟨gb1049, 0, none⟩ (.int .i64 t1045)).setCell ⟨gb1049, 1, none⟩ (.string t1046)).heap[gb1049]? = some (.cells #[.int .i64 t1045, .string t1046] 25 (0, 0))) := ⟨zk0 BK1049.out⟩
 have n2_ : Aside0 (IsS110 w ((w11.setCell ⟨gb1049, 0, none⟩ (.int .i64 t1045)).setCell ⟨gb1049, 1, none⟩ (.string t1046)) g1044 t1041 t1047 t1048) := ⟨(zl110_3 HI1044.out NB1044_1040.out NB1044_1049.out)⟩
 have n3_ : Aside0 (Below w.heap.size w ((w11.setCell ⟨gb1049, 0, none⟩ (.int .i64 t1045)).setCell ⟨gb1049, 1, none⟩ (.string t1046))) := ⟨zG3 (IsS110.ge HI1044.out) GE1040.out GE1049.out⟩
 (try clear BK1040)
 (try clear BK1049)
 (try clear HI1044)
 (try clear HB)
 generalize ((w11.setCell ⟨gb1049, 0, none⟩ (.int .i64 t1045)).setCell ⟨gb1049, 1, none⟩ (.string t1046)) = w15 at n0_ n1_ n2_ n3_ ⊢
 have BK1040 := n0_
 have BK1049 := n1_
 have HI1044 := n2_
 have HB := n3_
 clear n0_ n1_ n2_ n3_
 replace BK1040 := Aside0.mk (blk_drew BK1040.out)
 replace BK1049 := Aside0.mk (blk_drew BK1049.out)
 replace HI1044 := Aside0.mk (IsS110.drew HI1044.out)
 replace HB := Aside0.mk (below_drew1 HB.out)
 refine start_ (n := 12) (S := fun w' => w'.cell? ⟨gb1049, 0, none⟩ = some (.int .i64 t1045) ∧ w'.cell? ⟨gb1049, 1, none⟩ = some (.string t1046)) (ds := []) #[false, false, false, false, false, false, false, false, false, false, false, false] (by kernel_rfl) rfl rfl ⟨(blk_cell BK1049.out 0).trans rfl, (blk_cell BK1049.out 1).trans rfl⟩ (fun hHeld => ?_); refine with_tabW spec_l6One.tab3 spec_l6One.bits3 (fun HT_ HW_ => ?_)
 generalize w15.drew = w16 at BK1040 BK1049 HI1044 HB hHeld ⊢
 refine zP 1 (some 11) rfl rfl ?_
 refine zP 2 (some 12) rfl rfl ?_
 refine zP 6 (some 16) rfl rfl ?_
 refine zY2 0 (some 10) rfl rfl hHeld ?_
 refine zY2 3 (some 13) rfl rfl hHeld ?_
 refine zU 4 (some 14) rfl rfl (fun K hK => ?_)
 refine goes_ Try.func112 (by kernel_rfl) rfl #[.int .i64 1, .int .i64 t1045] (by rfl) rfl rfl zM ?_
 with_reducible refine (spec_l1Max.calls 1 t1045 t1050 _ A4.out).mono ?_
 rintro e w' ⟨rfl, ⟨nd, rfl⟩⟩
 refine ⟨_, rfl, ?_⟩
 refine hK.out _ _ (zh2 BK1049.out) (fun hHeld => ?_)
 clear hK K
 refine zN ?_
 refine zU 5 (some 15) rfl rfl (fun K hK => ?_)
 refine goes_ Try.func125 (by kernel_rfl) rfl #[.pointer (some ⟨g1044, 0, none⟩), .int .i64 t1050] (by rfl) rfl rfl zM ?_
 with_reducible refine (spec_l1Below.calls g1044 t1041 t1047 t1048 t1050 t1051 t1052 t1053 w _ ?side1 ?side2 A5.out).mono ?_
 (case side1 => exact (zl110_3 HI1044.out NB1044_1040.out NB1044_1049.out))
 (case side2 => exact (zl110_4 HB.out (IsS110.ge HI1044.out) GE1040.out GE1049.out))
 rintro e w17 ⟨rfl, hi, hb, hk⟩
 refine ⟨_, rfl, ?_⟩
 replace BK1040 := zKB hk BK1040.out NB1040_1044.out
 replace BK1049 := zKB hk BK1049.out NB1049_1044.out
 replace HI1044 := Aside0.mk (hi)
 replace HB := Aside0.mk (hb)
 (try clear hb)
 (try clear hk)
 (try clear hi)
 refine hK.out _ _ (zh2 BK1049.out) (fun hHeld => ?_)
 clear hK K
 refine zN ?_
 refine zU 7 (some 17) rfl rfl (fun K hK => ?_)
 refine goes_ Try.func127 (by kernel_rfl) rfl #[.pointer (some ⟨g1044, 0, none⟩), .int .i64 14] (by rfl) rfl rfl zM ?_
 with_reducible refine (spec_l1Once.calls g1044 t1041 t1052 t1053 14 t1054 t1055 t1056 w _ ?side1 ?side2 A6.out).mono ?_
 (case side1 => exact (zl110_3 HI1044.out NB1044_1040.out NB1044_1049.out))
 (case side2 => exact (zl110_4 HB.out (IsS110.ge HI1044.out) GE1040.out GE1049.out))
 rintro e w18 ⟨rfl, hi, hb, hk⟩
 refine ⟨_, rfl, ?_⟩
 replace BK1040 := zKB hk BK1040.out NB1040_1044.out
 replace BK1049 := zKB hk BK1049.out NB1049_1044.out
 replace HI1044 := Aside0.mk (hi)
 replace HB := Aside0.mk (hb)
 (try clear hb)
 (try clear hk)
 (try clear hi)
 refine hK.out _ _ (zh2 BK1049.out) (fun hHeld => ?_)
 clear hK K
 refine zN ?_
 refine zU 8 (some 18) rfl rfl (fun K hK => ?_)
 refine goes_ Try.func119 (by kernel_rfl) rfl #[.bool t1054] (by rfl) rfl rfl zM ?_
 with_reducible refine (spec_l1Bit.calls t1054 t1057 _ A7.out).mono ?_
 rintro e w' ⟨rfl, ⟨nd, rfl⟩⟩
 refine ⟨_, rfl, ?_⟩
 refine hK.out _ _ (zh2 BK1049.out) (fun hHeld => ?_)
 clear hK K
 refine zN ?_
 refine zP 9 (some 19) rfl rfl ?_
 refine zU 10 none rfl rfl (fun K hK => ?_)
 have hs19 : w18.cell? ⟨gb1040, 0, none⟩ = some (.int .i64 0) := (blk_cell BK1040.out 0).trans rfl
 have hfs19 := blk_frozen BK1040.out 0
 have hns19_1 := NB1049_1040.out
 have hms19_1 := NB1040_1049.out
 have hs20 : w18.cell? ⟨gb1040, 1, none⟩ = some (.string (⟨#[]⟩ : ByteArray)) := (blk_cell BK1040.out 1).trans rfl
 have hfs20 := blk_frozen BK1040.out 1
 have hns20_1 := NB1049_1040.out
 have hms20_1 := NB1040_1049.out
 refine skip_ (w1 := ?_) (by rfl) rfl ?_ ?_
 rotate_left
 ·go_simp
  rfl
 refine hK.out _ _ ⟨((cell_far (p := ⟨gb1040, _, none⟩) NB1049_1040.out _).trans (((cell_far (p := ⟨gb1040, _, none⟩) NB1049_1040.out _).trans (hHeld.1)))), ((cell_far (p := ⟨gb1040, _, none⟩) NB1049_1040.out _).trans (((cell_far (p := ⟨gb1040, _, none⟩) NB1049_1040.out _).trans (hHeld.2))))⟩ (fun hHeld => ?_)
 clear hK K
 refine zP 11 (some 3) rfl rfl ?_
 refine done_ (done_of HT_.out (by kernel_rfl)) ?_
 try go_wp2
 refine bodyPost_ret (results_ct rfl _ _ gb1040 25 #[.int .i64 t1045, .string t1046] (0, 0) _ rfl (zk0 BK1040.out) Try.underlying25 rfl (by kernel_rfl)) rfl ?_
 exact ⟨zE, zG3 (IsS110.ge HI1044.out) GE1040.out GE1049.out⟩
/-! ### spec_DrawIsExtreme: function 51 -/
def spec_DrawIsExtreme.f (k : Nat) (l0 : List Int) : Option (Int × ByteArray × Int) := (spec_l6One.f k l0).bind fun bt1059 => (some (bt1059.1, bt1059.2.1, bt1059.2.2))
set_option maxHeartbeats 8000000 in
set_option maxRecDepth 100000 in
theorem spec_DrawIsExtreme.calls (k : Nat) (A0 : Option Addr) (c0 : Nat) (l0 : List Int) (r1 : Int) (r2 : ByteArray) (r3 : Int) (w : World) (hr0 : Kd.C (Kd.int .u8) w A0 l0.length l0) (hc0 : l0.length ≤ c0) (h : spec_DrawIsExtreme.f k l0 = some (r1, r2, r3)) :
  Calls Try.prog 51 #[.slice A0 l0.length c0] w fun e w' => e = .returned (.tuple #[.agg #[.int .i64 r1, .string r2], .int .i64 r3]) ∧ Below w.heap.size w w' := by
 have hu25 := Try.underlying25
 have HR0 := Aside0.mk hr0
 have HC0 := Aside0.mk hc0
 clear hr0 hc0
 have HB := Aside0.mk (Below.refl w.heap.size w)
 have H : ((spec_l6One.f k l0).bind fun bt1059 => (some (bt1059.1, bt1059.2.1, bt1059.2.2))) = some (r1, r2, r3) := h
 clear h
 obtain ⟨⟨t1059, t1060, t1061⟩, A2, H⟩ := zO H
 replace H : (some (t1059, t1060, t1061)) = some (r1, r2, r3) := H
 simp only [Option.some.injEq, Prod.mk.injEq] at H
 obtain ⟨rfl, rfl, rfl⟩ := H
 go_enter Try.func51, Try.ntmps51
 go_wp2_with (first | ((with_reducible refine gate_dst (N := 2) rfl ?_); refine zBx (N := 2) #[.int .i64 0, .string (⟨#[]⟩ : ByteArray)] 25 ?_; intro gb1058 hg w3 hbox hb; have BK1058 := Aside0.mk (hbox); have GW1058 := zS hg; have GE1058 := zS hg; replace HB := zX hb; clear hb hbox hg) | ((with_reducible refine gate_callee (f := 124) rfl ?_); refine zD (some 8) Try.func124 #[.slice A0 l0.length c0] ?_; (with_reducible refine (spec_l6One.calls k _ _ l0 t1059 t1060 t1061 _ ?side1 ?side2 A2.out).mono ?_); (case side1 => repeat (first | exact (Kd.C_below HR0.out HB.out) | (with_reducible refine Kd.C_alloc ?_ _) | (with_reducible refine Kd.C_drewN ?_ _) | (with_reducible refine Kd.C_drew ?_))); (case side2 => exact HC0.out); rintro e w4 ⟨rfl, hb⟩; refine ⟨_, rfl, ?_⟩; replace BK1058 := zV BK1058.out hb; replace HB := zX1 GE1058.out hb; (try clear hb)) | ((with_reducible refine gate_dst (N := 4) rfl ?_); refine zBx (N := 4) #[.int .i64 0, .string (⟨#[]⟩ : ByteArray)] 25 ?_; intro gb1062 hg w5 hbox hb; have BK1062 := Aside0.mk (hbox); have GW1062 := zSg hg (zG GE1058.out); have GE1062 := zSg hg (zG GE1058.out); have NB1058_1062 := zL hg BK1058.out; have NB1062_1058 := zLg hg BK1058.out; replace BK1058 := zV BK1058.out hb; replace HB := zX1 GE1058.out hb; clear hb hbox hg; have hnb6 := NB1062_1058.out; have hnc6 := NB1058_1062.out; obtain ⟨hcz7_0, hcz7_1, hfz7_0, hfz7_1⟩ := zq2 BK1062.out; obtain ⟨hcz8_0, hcz8_1, hfz8_0, hfz8_1⟩ := zq2 BK1058.out))
 refine bodyPost_ret (results_ct rfl _ _ gb1058 25 #[.int .i64 t1059, .string t1060] (0, 0) _ rfl (zk2 BK1058.out NB1058_1062.out NB1058_1062.out) Try.underlying25 rfl (by kernel_rfl)) rfl ?_
 exact ⟨zE, zG2 GE1058.out GE1062.out⟩
/-! ### spec_l6Has: function 129 -/
def spec_l6Has.f (a0 : Int) (a1 : Int) : Option (Bool) := if 0 ≤ (IntKind.u64.wrap (a1)) then (some ((Go.bits .and .i64 (shr .i64 a0 (IntKind.u64.wrap (a1))) 1) == 1)) else (none)
set_option maxHeartbeats 8000000 in
set_option maxRecDepth 100000 in
theorem spec_l6Has.calls (a0 : Int) (a1 : Int) (r : Bool) (w : World) (h : spec_l6Has.f a0 a1 = some r) :
  Calls Try.prog 129 #[.int .i64 a0, .int .i64 a1] w fun e w' => e = .returned (.bool r) ∧ Drawn0 w w' := by
 have H : (if 0 ≤ (IntKind.u64.wrap (a1)) then (some ((Go.bits .and .i64 (shr .i64 a0 (IntKind.u64.wrap (a1))) 1) == 1)) else (none)) = some r := h
 clear h
 obtain ⟨ji3, hji3⟩ : ∃ j_ : Int, (IntKind.u64.wrap (a1)) = j_ := ⟨_, rfl⟩
 replace H : (if 0 ≤ (ji3) then (some ((Go.bits .and .i64 (shr .i64 a0 (ji3)) 1) == 1)) else (none)) = some r := by first | (rw [hji3] at H; exact H) | (simp only [hji3] at H ⊢; exact H)
 by_cases c4 : 0 ≤ (ji3)
 ·rw [if_pos c4] at H
  have c4b0 := eq_true c4
  have c4b1 := decide_eq_true c4
  clear c4
  obtain ⟨ji5, hji5⟩ : ∃ j_ : Int, (shr .i64 a0 (ji3)) = j_ := ⟨_, rfl⟩
  replace H : (some ((Go.bits .and .i64 (ji5) 1) == 1)) = some r := by first | (rw [hji5] at H; exact H) | (simp only [hji5] at H ⊢; exact H)
  have hji5_ : (a0 / 2 ^ min (ji3).toNat 64) = ji5 := hji5
  have hji5z : (ji3) ≤ 64 → (a0 / 2 ^ (ji3).toNat) = ji5 := shr_small hji5
  obtain rfl := Option.some.inj H
  go_enter Try.func129, Try.ntmps129
  go_wp2
  go_ret
  exact ⟨by first | rfl | (simp; done) | (simp only [← hji3, ← hji5] <;> (first | rfl | simp)) | (simp [*]; done), by repeat (first | exact Drawn0.refl _ | apply Drawn0.step)⟩
 rw [if_neg c4] at H
 exact absurd H (by simp)
/-! ### spec_l4Circuit: function 98 -/
def spec_l4Circuit.f (k : Nat) (a0_0 : Int) (a0_1 : ByteArray) (a1 : Int) (a2 : Int) (a3 : Int) (a4 : Int) : Option (ByteArray) := (spec_l3At.f k a0_0 a0_1 a2 a3 a4).bind fun t533 => ((spec_l3At.f k a0_0 a0_1 a1 a3 a4).bind fun t534 => ((spec_l3Byte.f (wrap64 ((wrap64 (-t533)) * t534))).bind fun t535 => (if 1 + t535.size ≤ 9223372036854775807 then ((spec_l3At.f k a0_0 a0_1 a1 a2 a4).bind fun t536 => ((spec_l3Byte.f (wrap64 (t533 * t536))).bind fun t537 => (if 1 + t535.size + t537.size ≤ 9223372036854775807 then ((spec_l3At.f k a0_0 a0_1 a1 a2 a3).bind fun t538 => ((spec_l3Byte.f (wrap64 ((wrap64 (-t533)) * t538))).bind fun t539 => (if 1 + t535.size + t537.size + t539.size ≤ 9223372036854775807 then (some ((((⟨#[43]⟩ : ByteArray) ++ t535) ++ t537) ++ t539)) else (none)))) else (none)))) else (none))))
def spec_l4Circuit.T2 : Bool × List (List Nat × List Nat) := (true, [([], []), ([0], [0]), ([], []), ([], []), ([], []), ([], []), ([2, 3, 4, 5], [2, 3, 4, 5]), ([1, 6], [1, 6]), ([7, 6], [7]), ([8], [8]), ([], []), ([], []), ([], []), ([], []), ([], []), ([11, 12, 13, 14, 8], [11, 12, 13, 14]), ([10, 15], [10, 15]), ([16, 15], [16]), ([9, 17], [9, 17]), ([18, 17, 0, 1, 2, 3, 4, 5, 6, 7, 8, 9, 10, 11, 12, 13, 14, 15, 16, 17, 18], [18])])
def spec_l4Circuit.B2 : List Nat := [0, 1, 0, 0, 0, 0, 60, 127, 255, 511, 0, 0, 0, 0, 0, 31231, 65023, 130559, 262143, 524287]
theorem spec_l4Circuit.tab2 : rtab .any (opsOf Try.f98 2) = spec_l4Circuit.T2 := by kernel_rfl
theorem spec_l4Circuit.bits2 : waitsOk spec_l4Circuit.T2.2 spec_l4Circuit.B2 = true := by kernel_rfl
set_option maxHeartbeats 8000000 in
set_option maxRecDepth 100000 in
theorem spec_l4Circuit.calls (k : Nat) (a0_0 : Int) (a0_1 : ByteArray) (a1 : Int) (a2 : Int) (a3 : Int) (a4 : Int) (r : ByteArray) (w : World) (h : spec_l4Circuit.f k a0_0 a0_1 a1 a2 a3 a4 = some r) :
  Calls Try.prog 98 #[.agg #[.int .i64 a0_0, .string a0_1], .int .i64 a1, .int .i64 a2, .int .i64 a3, .int .i64 a4] w fun e w' => e = .returned (.string r) ∧ Below w.heap.size w w' := by
 have hu25 := Try.underlying25
 have HB := Aside0.mk (Below.refl w.heap.size w)
 have H : ((spec_l3At.f k a0_0 a0_1 a2 a3 a4).bind fun t533 => ((spec_l3At.f k a0_0 a0_1 a1 a3 a4).bind fun t534 => ((spec_l3Byte.f (wrap64 ((wrap64 (-t533)) * t534))).bind fun t535 => (if 1 + t535.size ≤ 9223372036854775807 then ((spec_l3At.f k a0_0 a0_1 a1 a2 a4).bind fun t536 => ((spec_l3Byte.f (wrap64 (t533 * t536))).bind fun t537 => (if 1 + t535.size + t537.size ≤ 9223372036854775807 then ((spec_l3At.f k a0_0 a0_1 a1 a2 a3).bind fun t538 => ((spec_l3Byte.f (wrap64 ((wrap64 (-t533)) * t538))).bind fun t539 => (if 1 + t535.size + t537.size + t539.size ≤ 9223372036854775807 then (some ((((⟨#[43]⟩ : ByteArray) ++ t535) ++ t537) ++ t539)) else (none)))) else (none)))) else (none))))) = some r := h
 clear h
 obtain ⟨t533, A6, H⟩ := zO H
 obtain ⟨t534, A7, H⟩ := zO H
 obtain ⟨t535, A8, H⟩ := zO H
 by_cases c9 : 1 + t535.size ≤ 9223372036854775807
 ·rw [if_pos c9] at H
  have c9b0 := eq_true c9
  have c9b1 := decide_eq_true c9
  try have c9b2 : (9223372036854775807 < 1 + t535.size) = False := eq_false (Nat.not_lt.2 c9)
  obtain ⟨t536, A10, H⟩ := zO H
  obtain ⟨t537, A11, H⟩ := zO H
  by_cases c12 : 1 + t535.size + t537.size ≤ 9223372036854775807
  ·rw [if_pos c12] at H
   have c12b0 := eq_true c12
   have c12b1 := decide_eq_true c12
   try have c12b2 : (9223372036854775807 < 1 + t535.size + t537.size) = False := eq_false (Nat.not_lt.2 c12)
   obtain ⟨t538, A13, H⟩ := zO H
   obtain ⟨t539, A14, H⟩ := zO H
   by_cases c15 : 1 + t535.size + t537.size + t539.size ≤ 9223372036854775807
   ·rw [if_pos c15] at H
    have c15b0 := eq_true c15
    have c15b1 := decide_eq_true c15
    try have c15b2 : (9223372036854775807 < 1 + t535.size + t537.size + t539.size) = False := eq_false (Nat.not_lt.2 c15)
    obtain rfl := Option.some.inj H
    go_enter Try.func98, Try.ntmps98
    try go_wp2_with (first | ((with_reducible refine gate_dst (N := 5) rfl ?_); refine zBx (N := 5) #[.int .i64 a0_0, .string a0_1] 25 ?_; intro gb532 hg w16 hbox hb; have BK532 := Aside0.mk (hbox); have GW532 := zS hg; have GE532 := zS hg; replace HB := zX hb; clear hb hbox hg; obtain ⟨hcz17_0, hcz17_1, hfz17_0, hfz17_1⟩ := zq2 BK532.out) | ((with_reducible refine gate_callee (f := 144) rfl ?_); refine zD (some 17) Try.func144 #[.agg #[.int .i64 a0_0, .string a0_1], .int .i64 a2, .int .i64 a3, .int .i64 a4] ?_; (with_reducible refine (spec_l3At.calls k a0_0 a0_1 a2 a3 a4 t533 _ A6.out).mono ?_); rintro e w18 ⟨rfl, hb⟩; refine ⟨_, rfl, ?_⟩; replace BK532 := zV BK532.out hb; replace HB := zX1 GE532.out hb; (try clear hb)))
    replace BK532 := Aside0.mk (blk_drew BK532.out)
    replace HB := Aside0.mk (below_drew1 HB.out)
    refine start_ (n := 20) (S := fun w' => w'.cell? ⟨gb532, 0, none⟩ = some (.int .i64 a0_0) ∧ w'.cell? ⟨gb532, 1, none⟩ = some (.string a0_1)) (ds := []) #[false, false, false, false, false, false, false, false, false, false, false, false, false, false, false, false, false, false, false, false] (by kernel_rfl) rfl rfl ⟨(blk_cell BK532.out 0).trans rfl, (blk_cell BK532.out 1).trans rfl⟩ (fun hHeld => ?_); refine with_tabW spec_l4Circuit.tab2 spec_l4Circuit.bits2 (fun HT_ HW_ => ?_)
    generalize w18.drew = w19 at BK532 HB hHeld ⊢
    refine zP 0 (some 18) rfl rfl ?_
    refine zP 1 (some 19) rfl rfl ?_
    refine zP 3 (some 21) rfl rfl ?_
    refine zP 4 (some 22) rfl rfl ?_
    refine zP 5 (some 23) rfl rfl ?_
    refine zP 10 (some 28) rfl rfl ?_
    refine zP 12 (some 30) rfl rfl ?_
    refine zP 13 (some 31) rfl rfl ?_
    refine zP 14 (some 32) rfl rfl ?_
    refine zY2 2 (some 20) rfl rfl hHeld ?_
    refine zY2 11 (some 29) rfl rfl hHeld ?_
    refine zU 6 (some 24) rfl rfl (fun K hK => ?_)
    refine goes_ Try.func144 (by kernel_rfl) rfl #[.agg #[.int .i64 a0_0, .string a0_1], .int .i64 a1, .int .i64 a3, .int .i64 a4] (by rfl) rfl rfl zM ?_
    with_reducible refine (spec_l3At.calls k a0_0 a0_1 a1 a3 a4 t534 _ A7.out).mono ?_
    rintro e w20 ⟨rfl, hb⟩
    refine ⟨_, rfl, ?_⟩
    replace BK532 := zV BK532.out hb
    replace HB := zX1 GE532.out hb
    (try clear hb)
    refine hK.out _ _ (zh2 BK532.out) (fun hHeld => ?_)
    clear hK K
    refine zN ?_
    refine zP 7 (some 25) rfl rfl ?_
    refine zU 8 (some 26) rfl rfl (fun K hK => ?_)
    refine goes_ Try.func102 (by kernel_rfl) rfl #[.int .i64 (wrap64 ((wrap64 (-t533)) * t534))] (by rfl) rfl rfl zM ?_
    with_reducible refine (spec_l3Byte.calls (wrap64 ((wrap64 (-t533)) * t534)) t535 _ A8.out).mono ?_
    rintro e w' ⟨rfl, ⟨nd, rfl⟩⟩
    refine ⟨_, rfl, ?_⟩
    refine hK.out _ _ (zh2 BK532.out) (fun hHeld => ?_)
    clear hK K
    refine zN ?_
    refine zP 9 (some 27) rfl rfl ?_
    refine zU 15 (some 33) rfl rfl (fun K hK => ?_)
    refine goes_ Try.func144 (by kernel_rfl) rfl #[.agg #[.int .i64 a0_0, .string a0_1], .int .i64 a1, .int .i64 a2, .int .i64 a4] (by rfl) rfl rfl zM ?_
    with_reducible refine (spec_l3At.calls k a0_0 a0_1 a1 a2 a4 t536 _ A10.out).mono ?_
    rintro e w21 ⟨rfl, hb⟩
    refine ⟨_, rfl, ?_⟩
    replace BK532 := zV BK532.out hb
    replace HB := zX1 GE532.out hb
    (try clear hb)
    refine hK.out _ _ (zh2 BK532.out) (fun hHeld => ?_)
    clear hK K
    refine zN ?_
    refine zP 16 (some 34) rfl rfl ?_
    refine zU 17 (some 35) rfl rfl (fun K hK => ?_)
    refine goes_ Try.func102 (by kernel_rfl) rfl #[.int .i64 (wrap64 (t533 * t536))] (by rfl) rfl rfl zM ?_
    with_reducible refine (spec_l3Byte.calls (wrap64 (t533 * t536)) t537 _ A11.out).mono ?_
    rintro e w' ⟨rfl, ⟨nd, rfl⟩⟩
    refine ⟨_, rfl, ?_⟩
    refine hK.out _ _ (zh2 BK532.out) (fun hHeld => ?_)
    clear hK K
    refine zN ?_
    refine zP 18 (some 36) rfl rfl ?_
    refine zP 19 (some 12) rfl rfl ?_
    refine done_ (done_of HT_.out (by kernel_rfl)) ?_
    obtain ⟨hcz22_0, hcz22_1, hfz22_0, hfz22_1⟩ := zq2 BK532.out
    try go_wp2_with (first | ((with_reducible refine gate_callee (f := 144) rfl ?_); refine zD (some 44) Try.func144 #[.agg #[.int .i64 a0_0, .string a0_1], .int .i64 a1, .int .i64 a2, .int .i64 a3] ?_; (with_reducible refine (spec_l3At.calls k a0_0 a0_1 a1 a2 a3 t538 _ A13.out).mono ?_); rintro e w23 ⟨rfl, hb⟩; refine ⟨_, rfl, ?_⟩; replace BK532 := zV BK532.out hb; replace HB := zX1 GE532.out hb; (try clear hb)) | ((with_reducible refine gate_callee (f := 102) rfl ?_); refine zD (some 46) Try.func102 #[.int .i64 (wrap64 ((wrap64 (-t533)) * t538))] ?_; (with_reducible refine (spec_l3Byte.calls (wrap64 ((wrap64 (-t533)) * t538)) t539 _ A14.out).mono ?_); rintro e w' ⟨rfl, ⟨nd, rfl⟩⟩; refine ⟨_, rfl, ?_⟩))
    go_ret
    exact ⟨zE, zG GE532.out⟩
   rw [if_neg c15] at H
   exact absurd H (by simp)
  rw [if_neg c12] at H
  exact absurd H (by simp)
 rw [if_neg c9] at H
 exact absurd H (by simp)
/-! ### spec_l5Split: function 108 -/
def spec_l5Split.l0 : Nat → List Int → ByteArray → Int → Int → Int → Option (Int × Int)
 | 0, _, _, _, _, _ => none
 | k + 1, x1, x6, x7, x8, x9 => if x9 < 4 then (if 0 ≤ x9 then (if x9 < (x6.size : Int) then (if (bt x6 x9) = 43 then (if x9 < (x1.length : Int) then (if 0 ≤ (IntKind.u64.wrap (rd x1 x9)) then (spec_l5Split.l0 k x1 x6 (wrap64 (x7 + (shl .i64 1 (IntKind.u64.wrap (rd x1 x9))))) x8 (wrap64 (x9 + 1))) else (none)) else (none)) else (if x9 < (x1.length : Int) then (if 0 ≤ (IntKind.u64.wrap (rd x1 x9)) then (spec_l5Split.l0 k x1 x6 x7 (wrap64 (x8 + (shl .i64 1 (IntKind.u64.wrap (rd x1 x9))))) (wrap64 (x9 + 1))) else (none)) else (none))) else (none)) else (none)) else (some (x7, x8))
def spec_l5Split.f (k : Nat) (a0_0 : Int) (a0_1 : ByteArray) (l1 : List Int) : Option (Int × Int) := if 0 < (l1.length : Int) then (if 1 < (l1.length : Int) then (if 2 < (l1.length : Int) then (if 3 < (l1.length : Int) then ((spec_l4Circuit.f k a0_0 a0_1 (rd l1 0) (rd l1 1) (rd l1 2) (rd l1 3)).bind fun t758 => (spec_l5Split.l0 k l1 t758 0 0 0)) else (none)) else (none)) else (none)) else (none)
def spec_l5Split.T1 : Bool × List (List Nat × List Nat) := (true, [([], []), ([], []), ([1], [1]), ([2], [2]), ([], []), ([4], [4]), ([5], [5]), ([], []), ([7], [7]), ([8], [8]), ([], []), ([10], [10]), ([11], [11]), ([0, 3, 6, 9, 12], [0, 3, 6, 9, 12]), ([13, 13, 0, 1, 2, 3, 4, 5, 6, 7, 8, 9, 10, 11, 12, 13], [13])])
def spec_l5Split.B1 : List Nat := [0, 0, 2, 6, 0, 16, 48, 0, 128, 384, 0, 1024, 3072, 8191, 16383]
theorem spec_l5Split.tab1 : rtab .any (opsOf Try.f108 1) = spec_l5Split.T1 := by kernel_rfl
theorem spec_l5Split.bits1 : waitsOk spec_l5Split.T1.2 spec_l5Split.B1 = true := by kernel_rfl
set_option maxHeartbeats 8000000 in
set_option maxRecDepth 100000 in
theorem spec_l5Split.calls (k : Nat) (a0_0 : Int) (a0_1 : ByteArray) (A1 : Option Addr) (c1 : Nat) (l1 : List Int) (r1 : Int) (r2 : Int) (w : World) (hr1 : Kd.C (Kd.int .i64) w A1 l1.length l1) (hc1 : l1.length ≤ c1) (h : spec_l5Split.f k a0_0 a0_1 l1 = some (r1, r2)) :
  Calls Try.prog 108 #[.agg #[.int .i64 a0_0, .string a0_1], .slice A1 l1.length c1] w fun e w' => e = .returned (.tuple #[.int .i64 r1, .int .i64 r2]) ∧ Below w.heap.size w w' := by
 have hu25 := Try.underlying25
 have HR1 := Aside0.mk hr1
 have HC1 := Aside0.mk hc1
 clear hr1 hc1
 have HB := Aside0.mk (Below.refl w.heap.size w)
 have H : (if 0 < (l1.length : Int) then (if 1 < (l1.length : Int) then (if 2 < (l1.length : Int) then (if 3 < (l1.length : Int) then ((spec_l4Circuit.f k a0_0 a0_1 (rd l1 0) (rd l1 1) (rd l1 2) (rd l1 3)).bind fun t758 => (spec_l5Split.l0 k l1 t758 0 0 0)) else (none)) else (none)) else (none)) else (none)) = some (r1, r2) := h
 clear h
 by_cases c3 : 0 < (l1.length : Int)
 ·rw [if_pos c3] at H
  have c3b0 := decide_eq_true c3
  have c3b1 : decide (0 < l1.length) = true := decide_eq_true (by omega)
  clear c3
  by_cases c4 : 1 < (l1.length : Int)
  ·rw [if_pos c4] at H
   have c4b0 := decide_eq_true c4
   have c4b1 : decide (1 < l1.length) = true := decide_eq_true (by omega)
   clear c4
   by_cases c5 : 2 < (l1.length : Int)
   ·rw [if_pos c5] at H
    have c5b0 := decide_eq_true c5
    have c5b1 : decide (2 < l1.length) = true := decide_eq_true (by omega)
    clear c5
    by_cases c6 : 3 < (l1.length : Int)
    ·rw [if_pos c6] at H
     have c6b0 := decide_eq_true c6
     have c6b1 : decide (3 < l1.length) = true := decide_eq_true (by omega)
     clear c6
     obtain ⟨t758, A7, H⟩ := zO H
     have H' := Aside0.mk H; clear H
     go_enter Try.func108, Try.ntmps108
     try go_wp2_with (first | ((with_reducible refine gate_dst (N := 2) rfl ?_); refine zBx (N := 2) #[.int .i64 a0_0, .string a0_1] 25 ?_; intro gb753 hg w8 hbox hb; have BK753 := Aside0.mk (hbox); have GW753 := zS hg; have GE753 := zS hg; replace HB := zX hb; clear hb hbox hg))
     replace BK753 := Aside0.mk (blk_drew BK753.out)
     replace HB := Aside0.mk (below_drew1 HB.out)
     have p754 : 0 ≤ (0 : Int) := (by omega)
     have q754 : 0 < (l1.length : Int) := zA
     obtain ⟨ad754, e754, hx754_0⟩ := Kd.at_int HR1.out 0 p754 q754
     have hw754_0 := hx754_0
     (try rw [show ((0 : Int)).toNat = 0 from rfl] at hw754_0)
     (try rw [show 0 * 1 = 0 from rfl] at hw754_0)
     (try rw [Addr.add_zero'] at hw754_0)
     cases e754
     have qi754 : (0 < l1.length) = True := eq_true (by omega)
     (try rw [show ((0 : Int)).toNat = 0 from rfl] at hx754_0)
     (try rw [Addr.add_zero'] at hx754_0)
     replace hx754_0 := (HB.out.cell (World.block_lt_of_cell? w _ hx754_0)).trans hx754_0
     replace p754 := eq_true p754
     replace q754 := eq_true q754
     have p755 : 0 ≤ (1 : Int) := (by omega)
     have q755 : 1 < (l1.length : Int) := zA
     obtain ⟨ad755, e755, hx755_0⟩ := Kd.at_int HR1.out 1 p755 q755
     have hw755_0 := hx755_0
     (try rw [show ((1 : Int)).toNat = 1 from rfl] at hw755_0)
     (try rw [show 1 * 1 = 1 from rfl] at hw755_0)
     (try simp only [Nat.reduceMul, Nat.reduceEqDiff, Go.Addr.add, ↓reduceIte] at hw755_0)
     obtain rfl : ad754 = ad755 := (by injection e755)
     (try simp only [show (1 : Int).toNat = 1 from rfl, Nat.reduceMul, Nat.reduceEqDiff, Go.Addr.add, ↓reduceIte] at hx755_0)
     have qi755 : (1 < l1.length) = True := eq_true (by omega)
     (try rw [show ((1 : Int)).toNat = 1 from rfl] at hx755_0)
     replace hx755_0 := (HB.out.cell (World.block_lt_of_cell? w _ hx755_0)).trans hx755_0
     replace p755 := eq_true p755
     replace q755 := eq_true q755
     have p756 : 0 ≤ (2 : Int) := (by omega)
     have q756 : 2 < (l1.length : Int) := zA
     obtain ⟨ad756, e756, hx756_0⟩ := Kd.at_int HR1.out 2 p756 q756
     have hw756_0 := hx756_0
     (try rw [show ((2 : Int)).toNat = 2 from rfl] at hw756_0)
     (try rw [show 2 * 1 = 2 from rfl] at hw756_0)
     (try simp only [Nat.reduceMul, Nat.reduceEqDiff, Go.Addr.add, ↓reduceIte] at hw756_0)
     obtain rfl : ad754 = ad756 := (by injection e756)
     (try simp only [show (2 : Int).toNat = 2 from rfl, Nat.reduceMul, Nat.reduceEqDiff, Go.Addr.add, ↓reduceIte] at hx756_0)
     have qi756 : (2 < l1.length) = True := eq_true (by omega)
     (try rw [show ((2 : Int)).toNat = 2 from rfl] at hx756_0)
     replace hx756_0 := (HB.out.cell (World.block_lt_of_cell? w _ hx756_0)).trans hx756_0
     replace p756 := eq_true p756
     replace q756 := eq_true q756
     have p757 : 0 ≤ (3 : Int) := (by omega)
     have q757 : 3 < (l1.length : Int) := zA
     obtain ⟨ad757, e757, hx757_0⟩ := Kd.at_int HR1.out 3 p757 q757
     have hw757_0 := hx757_0
     (try rw [show ((3 : Int)).toNat = 3 from rfl] at hw757_0)
     (try rw [show 3 * 1 = 3 from rfl] at hw757_0)
     (try simp only [Nat.reduceMul, Nat.reduceEqDiff, Go.Addr.add, ↓reduceIte] at hw757_0)
     obtain rfl : ad754 = ad757 := (by injection e757)
     (try simp only [show (3 : Int).toNat = 3 from rfl, Nat.reduceMul, Nat.reduceEqDiff, Go.Addr.add, ↓reduceIte] at hx757_0)
     have qi757 : (3 < l1.length) = True := eq_true (by omega)
     (try rw [show ((3 : Int)).toNat = 3 from rfl] at hx757_0)
     replace hx757_0 := (HB.out.cell (World.block_lt_of_cell? w _ hx757_0)).trans hx757_0
     replace p757 := eq_true p757
     replace q757 := eq_true q757
     refine start_ (n := 15) (S := fun w' => w'.cell? ⟨gb753, 0, none⟩ = some (.int .i64 a0_0) ∧ w'.cell? ⟨gb753, 1, none⟩ = some (.string a0_1) ∧ w'.cell? ad754 = some (.int .i64 (rd l1 0)) ∧ w'.cell? ⟨ad754.block, ad754.off + 1, none⟩ = some (.int .i64 (rd l1 1)) ∧ w'.cell? ⟨ad754.block, ad754.off + 2, none⟩ = some (.int .i64 (rd l1 2)) ∧ w'.cell? ⟨ad754.block, ad754.off + 3, none⟩ = some (.int .i64 (rd l1 3))) (ds := []) #[false, false, false, false, false, false, false, false, false, false, false, false, false, false, false] (by kernel_rfl) rfl rfl ⟨(blk_cell BK753.out 0).trans rfl, (blk_cell BK753.out 1).trans rfl, ((HB.out.cell (World.block_lt_of_cell? w _ hw754_0)).trans hw754_0), ((HB.out.cell (World.block_lt_of_cell? w _ hw755_0)).trans hw755_0), ((HB.out.cell (World.block_lt_of_cell? w _ hw756_0)).trans hw756_0), ((HB.out.cell (World.block_lt_of_cell? w _ hw757_0)).trans hw757_0)⟩ (fun hHeld => ?_); refine with_tabW spec_l5Split.tab1 spec_l5Split.bits1 (fun HT_ HW_ => ?_)
     generalize w8.drew = w9 at BK753 HB hx754_0 hx755_0 hx756_0 hx757_0 hHeld ⊢
     refine zP 1 (some 11) rfl rfl ?_
     refine zP 2 (some 12) rfl rfl ?_
     refine zP 4 (some 14) rfl rfl ?_
     refine zP 5 (some 15) rfl rfl ?_
     refine zP 7 (some 17) rfl rfl ?_
     refine zP 8 (some 18) rfl rfl ?_
     refine zP 10 (some 20) rfl rfl ?_
     refine zP 11 (some 21) rfl rfl ?_
     refine zY6 0 (some 10) rfl rfl hHeld ?_
     refine zY6 3 (some 13) rfl rfl hHeld ?_
     refine zY6 6 (some 16) rfl rfl hHeld ?_
     refine zY6 9 (some 19) rfl rfl hHeld ?_
     refine zY6 12 (some 22) rfl rfl hHeld ?_
     refine zU 13 (some 23) rfl rfl (fun K hK => ?_)
     refine goes_ Try.func98 (by kernel_rfl) rfl #[.agg #[.int .i64 a0_0, .string a0_1], .int .i64 (rd l1 0), .int .i64 (rd l1 1), .int .i64 (rd l1 2), .int .i64 (rd l1 3)] (by rfl) rfl rfl zM ?_
     with_reducible refine (spec_l4Circuit.calls k a0_0 a0_1 (rd l1 0) (rd l1 1) (rd l1 2) (rd l1 3) t758 _ A7.out).mono ?_
     rintro e w10 ⟨rfl, hb⟩
     refine ⟨_, rfl, ?_⟩
     replace BK753 := zV BK753.out hb
     replace HB := zX1 GE753.out hb
     (try clear hb)
     refine hK.out _ _ ⟨(blk_cell BK753.out 0).trans rfl, (blk_cell BK753.out 1).trans rfl, ((HB.out.cell (World.block_lt_of_cell? w _ hw754_0)).trans hw754_0), ((HB.out.cell (World.block_lt_of_cell? w _ hw755_0)).trans hw755_0), ((HB.out.cell (World.block_lt_of_cell? w _ hw756_0)).trans hw756_0), ((HB.out.cell (World.block_lt_of_cell? w _ hw757_0)).trans hw757_0)⟩ (fun hHeld => ?_)
     clear hK K
     refine zN ?_
     refine zP 14 (some 6) rfl rfl ?_
     refine done_ (done_of HT_.out (by kernel_rfl)) ?_
     try go_wp2
     go_loopg [7, 8, 9] k (fun kq v7 v8 v9 w' => ∃ (x7_1 : Int) (x8_1 : Int) (x9_1 : Int), v7 = .int .i64 x7_1 ∧ v8 = .int .i64 x8_1 ∧ v9 = .int .i64 x9_1 ∧ Aside0 (spec_l5Split.l0 kq l1 t758 x7_1 x8_1 x9_1 = some (r1, r2)) ∧ Aside0 (kq ≤ k) ∧ Aside0 (w'.heap[gb753]? = some (.cells #[.int .i64 a0_0, .string a0_1] 25 (0, 0))) ∧ Aside0 (Below w.heap.size w w'))
     case atStart => exact ⟨(0), (0), (0), zF, zF, zF, H', ⟨Nat.le_refl _⟩, ⟨zK BK753.out⟩, ⟨zG GE753.out⟩⟩
     case round =>
     clear H'
     try clear c3
     try clear c3b0
     try clear c3b1
     try clear c4
     try clear c4b0
     try clear c4b1
     try clear c5
     try clear c5b0
     try clear c5b1
     try clear c6
     try clear c6b0
     try clear c6b1
     try clear hx754_0
     try clear hx755_0
     try clear hx756_0
     try clear hx757_0
     try clear p754
     try clear p755
     try clear p756
     try clear p757
     try clear q754
     try clear q755
     try clear q756
     try clear q757
     obtain ⟨x7_1, x8_1, x9_1, rfl, rfl, rfl, HA, HK1, BK753, HB⟩ := hrel
     cases gk with
     | zero => exact absurd HA.out (by simp [spec_l5Split.l0])
     | succ k1 =>
     have H := HA.out
     clear HA
     simp only [spec_l5Split.l0] at H
     by_cases c11 : x9_1 < 4
     ·rw [if_pos c11] at H
      have c11b0 := decide_eq_true c11
      clear c11
      by_cases c12 : 0 ≤ x9_1
      ·rw [if_pos c12] at H
       have c12b0 := decide_eq_true c12
       clear c12
       by_cases c13 : x9_1 < (t758.size : Int)
       ·rw [if_pos c13] at H
        have c13b0 := decide_eq_true c13
        clear c13
        by_cases c15 : (bt t758 x9_1) = 43
        ·rw [if_pos c15] at H
         have c15b0 := beq_iff_eq.mpr c15
         have c15b1 := bne_eq_false_iff_eq.mpr c15
         clear c15
         by_cases c16 : x9_1 < (l1.length : Int)
         ·rw [if_pos c16] at H
          have c16b0 := decide_eq_true c16
          clear c16
          obtain ⟨ji17, hji17⟩ : ∃ j_ : Int, (IntKind.u64.wrap (rd l1 x9_1)) = j_ := ⟨_, rfl⟩
          replace H : (if 0 ≤ (ji17) then (spec_l5Split.l0 k1 l1 t758 (wrap64 (x7_1 + (shl .i64 1 (ji17)))) x8_1 (wrap64 (x9_1 + 1))) else (none)) = some (r1, r2) := by first | (rw [hji17] at H; exact H) | (simp only [hji17] at H ⊢; exact H)
          by_cases c18 : 0 ≤ (ji17)
          ·rw [if_pos c18] at H
           have c18b0 := eq_true c18
           have c18b1 := decide_eq_true c18
           clear c18
           obtain ⟨ji19, hji19⟩ : ∃ j_ : Int, (shl .i64 1 (ji17)) = j_ := ⟨_, rfl⟩
           replace H : (spec_l5Split.l0 k1 l1 t758 (wrap64 (x7_1 + (ji19))) x8_1 (wrap64 (x9_1 + 1))) = some (r1, r2) := by first | (rw [hji19] at H; exact H) | (simp only [hji19] at H ⊢; exact H)
           have hji19_ : (IntKind.i64.wrap (1 * 2 ^ min (ji17).toNat 64)) = ji19 := hji19
           have hji19z : (ji17) ≤ 64 → (IntKind.i64.wrap (1 * 2 ^ (ji17).toNat)) = ji19 := shl_small hji19
           have hji19u : (IntKind.i64.wrap (2 ^ min (ji17).toNat 64)) = ji19 := by have h_ := hji19_; rw [Int.one_mul] at h_; exact h_
           have hji19v : (ji17) ≤ 64 → (IntKind.i64.wrap (2 ^ (ji17).toNat)) = ji19 := fun hle_ => by have h_ := hji19z hle_; rw [Int.one_mul] at h_; exact h_
           have hji19y : (wrap64 (1 * 2 ^ min (ji17).toNat 64)) = ji19 := (i64_w _).symm.trans hji19_
           have hji19x : (ji17) ≤ 64 → (wrap64 (1 * 2 ^ (ji17).toNat)) = ji19 := fun h_ => (i64_w _).symm.trans (hji19z h_)
           have H' := Aside0.mk H; clear H
           have p14 : 0 ≤ (x9_1 : Int) := zA
           have q14 : x9_1 < (t758.size : Int) := zA
           have hx14 := bt_at t758 x9_1
           replace p14 := eq_true p14
           replace q14 := eq_true q14
           have p759 : 0 ≤ (x9_1 : Int) := zA
           have q759 : x9_1 < (l1.length : Int) := zA
           obtain ⟨ad759, e759, hx759_0⟩ := Kd.at_int HR1.out x9_1 p759 q759
           obtain rfl : ad754 = ad759 := (by injection e759)
           replace hx759_0 := (HB.out.cell (World.block_lt_of_cell? w _ hx759_0)).trans hx759_0
           replace p759 := eq_true p759
           replace q759 := eq_true q759
           go_wp2
           go_roundg k1
           case measure => have := HK1.out; omega
           case rel => exact ⟨(wrap64 (x7_1 + (ji19))), (x8_1), (wrap64 (x9_1 + 1)), (by first | rfl | (simp; done) | (simp only [← hji19] <;> (first | rfl | simp)) | (simp [*]; done)), zF, zF, H', ⟨by have := HK1.out; omega⟩, ⟨zK BK753.out⟩, ⟨zG GE753.out⟩⟩
          rw [if_neg c18] at H
          exact absurd H (by simp)
         rw [if_neg c16] at H
         exact absurd H (by simp)
        rw [if_neg c15] at H
        have c15b0 := beq_eq_false_iff_ne.mpr c15
        have c15b1 := bne_iff_ne.mpr c15
        by_cases c20 : x9_1 < (l1.length : Int)
        ·rw [if_pos c20] at H
         have c20b0 := decide_eq_true c20
         clear c20
         obtain ⟨ji21, hji21⟩ : ∃ j_ : Int, (IntKind.u64.wrap (rd l1 x9_1)) = j_ := ⟨_, rfl⟩
         replace H : (if 0 ≤ (ji21) then (spec_l5Split.l0 k1 l1 t758 x7_1 (wrap64 (x8_1 + (shl .i64 1 (ji21)))) (wrap64 (x9_1 + 1))) else (none)) = some (r1, r2) := by first | (rw [hji21] at H; exact H) | (simp only [hji21] at H ⊢; exact H)
         by_cases c22 : 0 ≤ (ji21)
         ·rw [if_pos c22] at H
          have c22b0 := eq_true c22
          have c22b1 := decide_eq_true c22
          clear c22
          obtain ⟨ji23, hji23⟩ : ∃ j_ : Int, (shl .i64 1 (ji21)) = j_ := ⟨_, rfl⟩
          replace H : (spec_l5Split.l0 k1 l1 t758 x7_1 (wrap64 (x8_1 + (ji23))) (wrap64 (x9_1 + 1))) = some (r1, r2) := by first | (rw [hji23] at H; exact H) | (simp only [hji23] at H ⊢; exact H)
          have hji23_ : (IntKind.i64.wrap (1 * 2 ^ min (ji21).toNat 64)) = ji23 := hji23
          have hji23z : (ji21) ≤ 64 → (IntKind.i64.wrap (1 * 2 ^ (ji21).toNat)) = ji23 := shl_small hji23
          have hji23u : (IntKind.i64.wrap (2 ^ min (ji21).toNat 64)) = ji23 := by have h_ := hji23_; rw [Int.one_mul] at h_; exact h_
          have hji23v : (ji21) ≤ 64 → (IntKind.i64.wrap (2 ^ (ji21).toNat)) = ji23 := fun hle_ => by have h_ := hji23z hle_; rw [Int.one_mul] at h_; exact h_
          have hji23y : (wrap64 (1 * 2 ^ min (ji21).toNat 64)) = ji23 := (i64_w _).symm.trans hji23_
          have hji23x : (ji21) ≤ 64 → (wrap64 (1 * 2 ^ (ji21).toNat)) = ji23 := fun h_ => (i64_w _).symm.trans (hji23z h_)
          have H' := Aside0.mk H; clear H
          have p14 : 0 ≤ (x9_1 : Int) := zA
          have q14 : x9_1 < (t758.size : Int) := zA
          have hx14 := bt_at t758 x9_1
          replace p14 := eq_true p14
          replace q14 := eq_true q14
          have p760 : 0 ≤ (x9_1 : Int) := zA
          have q760 : x9_1 < (l1.length : Int) := zA
          obtain ⟨ad760, e760, hx760_0⟩ := Kd.at_int HR1.out x9_1 p760 q760
          obtain rfl : ad754 = ad760 := (by injection e760)
          replace hx760_0 := (HB.out.cell (World.block_lt_of_cell? w _ hx760_0)).trans hx760_0
          replace p760 := eq_true p760
          replace q760 := eq_true q760
          go_wp2
          go_roundg k1
          case measure => have := HK1.out; omega
          case rel => exact ⟨(x7_1), (wrap64 (x8_1 + (ji23))), (wrap64 (x9_1 + 1)), zF, (by first | rfl | (simp; done) | (simp only [← hji23] <;> (first | rfl | simp)) | (simp [*]; done)), zF, H', ⟨by have := HK1.out; omega⟩, ⟨zK BK753.out⟩, ⟨zG GE753.out⟩⟩
         rw [if_neg c22] at H
         exact absurd H (by simp)
        rw [if_neg c20] at H
        exact absurd H (by simp)
       rw [if_neg c13] at H
       exact absurd H (by simp)
      rw [if_neg c12] at H
      exact absurd H (by simp)
     rw [if_neg c11] at H
     have c11b0 := decide_eq_false c11
     clear c11
     simp only [Option.some.injEq, Prod.mk.injEq] at H
     obtain ⟨rfl, rfl⟩ := H
     go_wp2
     go_ret2
     exact ⟨zE, zG GE753.out⟩
    rw [if_neg c6] at H
    exact absurd H (by simp)
   rw [if_neg c5] at H
   exact absurd H (by simp)
  rw [if_neg c4] at H
  exact absurd H (by simp)
 rw [if_neg c3] at H
 exact absurd H (by simp)
/-! ### spec_l5Only: function 113 -/
def spec_l5Only.l0 : Nat → Int → Int → Option (Int)
 | 0, _, _ => none
 | k + 1, x0, x3 => if x3 < 7 then (if 0 ≤ (IntKind.u64.wrap (x3)) then (if x0 = (shl .i64 1 (IntKind.u64.wrap (x3))) then (some x3) else (spec_l5Only.l0 k x0 (wrap64 (x3 + 1)))) else (none)) else (some (-1))
def spec_l5Only.f (k : Nat) (a0 : Int) : Option (Int) := spec_l5Only.l0 k a0 0
theorem spec_l5Only.mono_l : ∀ k, (∀ y0 y1, LeO (spec_l5Only.l0 k y0 y1) (spec_l5Only.l0 (k + 1) y0 y1))
 | 0 => fun _ _ r h => by simp [spec_l5Only.l0] at h
 | k + 1 => by
  have ih0 := spec_l5Only.mono_l k
  ·intro y0 y1
   unfold spec_l5Only.l0
   repeat' first
   | (with_reducible first | exact ih0 .. | exact LeO.refl _ | exact LeO.none _ | refine LeO.ite ?_ ?_ | refine LeO.bind ?_ (fun _ => ?_))
   | exact ih0 .. | exact LeO.none _ | refine LeO.ite ?_ ?_ | refine LeO.bind ?_ (fun _ => ?_)
theorem spec_l5Only.mono : ∀ a0 k, LeO (spec_l5Only.f k a0) (spec_l5Only.f (k + 1) a0) := by
 intro a0 k
 have ih0 := spec_l5Only.mono_l k
 unfold spec_l5Only.f
 repeat' first
   | (with_reducible first | exact ih0 .. | exact LeO.refl _ | exact LeO.none _ | refine LeO.ite ?_ ?_ | refine LeO.bind ?_ (fun _ => ?_))
   | exact ih0 .. | exact LeO.none _ | refine LeO.ite ?_ ?_ | refine LeO.bind ?_ (fun _ => ?_)
set_option maxHeartbeats 8000000 in
set_option maxRecDepth 100000 in
theorem spec_l5Only.calls (k : Nat) (a0 : Int) (r : Int) (w : World) (h : spec_l5Only.f k a0 = some r) :
  Calls Try.prog 113 #[.int .i64 a0] w fun e w' => e = .returned (.int .i64 r) ∧ Drawn0 w w' := by
 have H : (spec_l5Only.l0 k a0 0) = some r := h
 clear h
 have H' := Aside0.mk H; clear H
 go_enter Try.func113, Try.ntmps113
 go_wp2
 go_loopg [3] k (fun kq v3 w' => ∃ (x3_1 : Int), v3 = .int .i64 x3_1 ∧ Aside0 (spec_l5Only.l0 kq a0 x3_1 = some r) ∧ Aside0 (kq ≤ k) ∧ Drawn0 w w')
 case atStart => exact ⟨(0), zF, H', ⟨Nat.le_refl _⟩, by repeat (first | exact Drawn0.refl _ | apply Drawn0.step)⟩
 case round =>
 clear H'
 obtain ⟨x3_1, rfl, HA, HK1, ⟨m1, rfl⟩⟩ := hrel
 cases gk with
 | zero => exact absurd HA.out (by simp [spec_l5Only.l0])
 | succ k1 =>
 have H := HA.out
 clear HA
 simp only [spec_l5Only.l0] at H
 by_cases c2 : x3_1 < 7
 ·rw [if_pos c2] at H
  have c2b0 := decide_eq_true c2
  clear c2
  obtain ⟨ji3, hji3⟩ : ∃ j_ : Int, (IntKind.u64.wrap (x3_1)) = j_ := ⟨_, rfl⟩
  replace H : (if 0 ≤ (ji3) then (if a0 = (shl .i64 1 (ji3)) then (some x3_1) else (spec_l5Only.l0 k1 a0 (wrap64 (x3_1 + 1)))) else (none)) = some r := by first | (rw [hji3] at H; exact H) | (simp only [hji3] at H ⊢; exact H)
  by_cases c4 : 0 ≤ (ji3)
  ·rw [if_pos c4] at H
   have c4b0 := eq_true c4
   have c4b1 := decide_eq_true c4
   clear c4
   obtain ⟨ji5, hji5⟩ : ∃ j_ : Int, (shl .i64 1 (ji3)) = j_ := ⟨_, rfl⟩
   replace H : (if a0 = (ji5) then (some x3_1) else (spec_l5Only.l0 k1 a0 (wrap64 (x3_1 + 1)))) = some r := by first | (rw [hji5] at H; exact H) | (simp only [hji5] at H ⊢; exact H)
   have hji5_ : (IntKind.i64.wrap (1 * 2 ^ min (ji3).toNat 64)) = ji5 := hji5
   have hji5z : (ji3) ≤ 64 → (IntKind.i64.wrap (1 * 2 ^ (ji3).toNat)) = ji5 := shl_small hji5
   have hji5u : (IntKind.i64.wrap (2 ^ min (ji3).toNat 64)) = ji5 := by have h_ := hji5_; rw [Int.one_mul] at h_; exact h_
   have hji5v : (ji3) ≤ 64 → (IntKind.i64.wrap (2 ^ (ji3).toNat)) = ji5 := fun hle_ => by have h_ := hji5z hle_; rw [Int.one_mul] at h_; exact h_
   have hji5y : (wrap64 (1 * 2 ^ min (ji3).toNat 64)) = ji5 := (i64_w _).symm.trans hji5_
   have hji5x : (ji3) ≤ 64 → (wrap64 (1 * 2 ^ (ji3).toNat)) = ji5 := fun h_ => (i64_w _).symm.trans (hji5z h_)
   by_cases c6 : a0 = (ji5)
   ·rw [if_pos c6] at H
    have c6b0 := beq_iff_eq.mpr c6
    have c6b1 := bne_eq_false_iff_eq.mpr c6
    clear c6
    obtain rfl := Option.some.inj H
    go_wp2
    go_ret
    exact ⟨by first | rfl | (simp; done) | (simp only [← hji3, ← hji5] <;> (first | rfl | simp)) | (simp [*]; done), by repeat (first | exact Drawn0.refl _ | apply Drawn0.step)⟩
   rw [if_neg c6] at H
   have c6b0 := beq_eq_false_iff_ne.mpr c6
   have c6b1 := bne_iff_ne.mpr c6
   have H' := Aside0.mk H; clear H
   go_wp2
   go_roundg k1
   case measure => have := HK1.out; omega
   case rel => exact ⟨(wrap64 (x3_1 + 1)), zF, H', ⟨by have := HK1.out; omega⟩, by repeat (first | exact Drawn0.refl _ | apply Drawn0.step)⟩
  rw [if_neg c4] at H
  exact absurd H (by simp)
 rw [if_neg c2] at H
 have c2b0 := decide_eq_false c2
 clear c2
 obtain rfl := Option.some.inj H
 go_wp2
 go_ret
 exact ⟨by first | rfl | (simp; done) | (simp [*]; done), by repeat (first | exact Drawn0.refl _ | apply Drawn0.step)⟩
/-! ### spec_l5Inner: function 114 -/
def spec_l5Inner.f (k : Nat) (a0_0 : Int) (a0_1 : ByteArray) (l1 : List Int) : Option (Int) := (spec_l5Split.f k a0_0 a0_1 l1).bind fun bt830 => ((spec_l5Only.f k bt830.1).bind fun t832 => ((spec_l5Only.f k bt830.2).bind fun t833 => ((spec_l1Max.f t832 t833).bind fun t834 => (some t834))))
set_option maxHeartbeats 8000000 in
set_option maxRecDepth 100000 in
theorem spec_l5Inner.calls (k : Nat) (a0_0 : Int) (a0_1 : ByteArray) (A1 : Option Addr) (c1 : Nat) (l1 : List Int) (r : Int) (w : World) (hr1 : Kd.C (Kd.int .i64) w A1 l1.length l1) (hc1 : l1.length ≤ c1) (h : spec_l5Inner.f k a0_0 a0_1 l1 = some r) :
  Calls Try.prog 114 #[.agg #[.int .i64 a0_0, .string a0_1], .slice A1 l1.length c1] w fun e w' => e = .returned (.int .i64 r) ∧ Below w.heap.size w w' := by
 have hu25 := Try.underlying25
 have HR1 := Aside0.mk hr1
 have HC1 := Aside0.mk hc1
 clear hr1 hc1
 have HB := Aside0.mk (Below.refl w.heap.size w)
 have H : ((spec_l5Split.f k a0_0 a0_1 l1).bind fun bt830 => ((spec_l5Only.f k bt830.1).bind fun t832 => ((spec_l5Only.f k bt830.2).bind fun t833 => ((spec_l1Max.f t832 t833).bind fun t834 => (some t834))))) = some r := h
 clear h
 obtain ⟨⟨t830, t831⟩, A3, H⟩ := zO H
 dsimp only at H
 obtain ⟨t832, A4, H⟩ := zO H
 obtain ⟨t833, A5, H⟩ := zO H
 obtain ⟨t834, A6, H⟩ := zO H
 obtain rfl := Option.some.inj H
 go_enter Try.func114, Try.ntmps114
 go_wp2_with (first | ((with_reducible refine gate_dst (N := 2) rfl ?_); refine zBx (N := 2) #[.int .i64 a0_0, .string a0_1] 25 ?_; intro gb829 hg w7 hbox hb; have BK829 := Aside0.mk (hbox); have GW829 := zS hg; have GE829 := zS hg; replace HB := zX hb; clear hb hbox hg; obtain ⟨hcz8_0, hcz8_1, hfz8_0, hfz8_1⟩ := zq2 BK829.out) | ((with_reducible refine gate_callee (f := 108) rfl ?_); refine zD (some 10) Try.func108 #[.agg #[.int .i64 a0_0, .string a0_1], .slice A1 l1.length c1] ?_; (with_reducible refine (spec_l5Split.calls k a0_0 a0_1 _ _ l1 t830 t831 _ ?side1 ?side2 A3.out).mono ?_); (case side1 => repeat (first | exact (Kd.C_below HR1.out HB.out) | (with_reducible refine Kd.C_alloc ?_ _) | (with_reducible refine Kd.C_drewN ?_ _) | (with_reducible refine Kd.C_drew ?_))); (case side2 => exact HC1.out); rintro e w9 ⟨rfl, hb⟩; refine ⟨_, rfl, ?_⟩; replace BK829 := zV BK829.out hb; replace HB := zX1 GE829.out hb; (try clear hb)) | ((with_reducible refine gate_callee (f := 113) rfl ?_); refine zD (some 14) Try.func113 #[.int .i64 t830] ?_; (with_reducible refine (spec_l5Only.calls k t830 t832 _ A4.out).mono ?_); rintro e w' ⟨rfl, ⟨nd, rfl⟩⟩; refine ⟨_, rfl, ?_⟩) | ((with_reducible refine gate_callee (f := 113) rfl ?_); refine zD (some 16) Try.func113 #[.int .i64 t831] ?_; (with_reducible refine (spec_l5Only.calls k t831 t833 _ A5.out).mono ?_); rintro e w' ⟨rfl, ⟨nd, rfl⟩⟩; refine ⟨_, rfl, ?_⟩) | ((with_reducible refine gate_callee (f := 112) rfl ?_); refine zD (some 17) Try.func112 #[.int .i64 t832, .int .i64 t833] ?_; (with_reducible refine (spec_l1Max.calls t832 t833 t834 _ A6.out).mono ?_); rintro e w' ⟨rfl, ⟨nd, rfl⟩⟩; refine ⟨_, rfl, ?_⟩))
 go_ret
 exact ⟨zE, zG GE829.out⟩
/-! ### spec_l6In: function 132 -/
mutual
def spec_l6In.l0 : Nat → Int → Int → Int → Int → ByteArray → Option (Bool)
 | 0, _, _, _, _, _ => none
 | k + 1, x1, x2, x7, x1064000, x1064001 => if x7 < x1064000 then (spec_l6In.l1 k x1 x2 x7 (wrap64 (x7 + 1)) x1064000 x1064001) else (some false)
def spec_l6In.l1 : Nat → Int → Int → Int → Int → Int → ByteArray → Option (Bool)
 | 0, _, _, _, _, _, _ => none
 | k + 1, x1, x2, x7, x8, x1064000, x1064001 => if x8 < x1064000 then (spec_l6In.l2 k x1 x2 x7 x8 (wrap64 (x8 + 1)) x1064000 x1064001) else (spec_l6In.l0 k x1 x2 (wrap64 (x7 + 1)) x1064000 x1064001)
def spec_l6In.l2 : Nat → Int → Int → Int → Int → Int → Int → ByteArray → Option (Bool)
 | 0, _, _, _, _, _, _, _ => none
 | k + 1, x1, x2, x7, x8, x9, x1064000, x1064001 => if x9 < x1064000 then (if x2 = x7 then (spec_l6In.l2 k x1 x2 x7 x8 (wrap64 (x9 + 1)) x1064000 x1064001) else (if x2 = x8 then (spec_l6In.l2 k x1 x2 x7 x8 (wrap64 (x9 + 1)) x1064000 x1064001) else (if x2 = x9 then (spec_l6In.l2 k x1 x2 x7 x8 (wrap64 (x9 + 1)) x1064000 x1064001) else ((spec_l6Has.f x1 x7).bind fun t1064 => (if t1064 = true then ((spec_l6Has.f x1 x8).bind fun t1065 => (if t1065 = true then ((spec_l6Has.f x1 x9).bind fun t1066 => (if t1066 = true then ((spec_l5Inner.f k x1064000 x1064001 (([x2, x7, x8, x9] : List Int))).bind fun t1070 => (if t1070 = x2 then (some true) else (spec_l6In.l2 k x1 x2 x7 x8 (wrap64 (x9 + 1)) x1064000 x1064001))) else (spec_l6In.l2 k x1 x2 x7 x8 (wrap64 (x9 + 1)) x1064000 x1064001))) else (spec_l6In.l2 k x1 x2 x7 x8 (wrap64 (x9 + 1)) x1064000 x1064001))) else (spec_l6In.l2 k x1 x2 x7 x8 (wrap64 (x9 + 1)) x1064000 x1064001)))))) else (spec_l6In.l1 k x1 x2 x7 (wrap64 (x8 + 1)) x1064000 x1064001)
end
def spec_l6In.f (k : Nat) (a0_0 : Int) (a0_1 : ByteArray) (a1 : Int) (a2 : Int) : Option (Bool) := spec_l6In.l0 k a1 a2 0 a0_0 a0_1
set_option maxHeartbeats 8000000 in
set_option maxRecDepth 100000 in
theorem spec_l6In.calls (k : Nat) (a0_0 : Int) (a0_1 : ByteArray) (a1 : Int) (a2 : Int) (r : Bool) (w : World) (h : spec_l6In.f k a0_0 a0_1 a1 a2 = some r) :
  Calls Try.prog 132 #[.agg #[.int .i64 a0_0, .string a0_1], .int .i64 a1, .int .i64 a2] w fun e w' => e = .returned (.bool r) ∧ Below w.heap.size w w' := by
 have hu25 := Try.underlying25
 have HB := Aside0.mk (Below.refl w.heap.size w)
 have H : (spec_l6In.l0 k a1 a2 0 a0_0 a0_1) = some r := h
 clear h
 have H' := Aside0.mk H; clear H
 go_enter Try.func132, Try.ntmps132
 go_wp2_with (first | ((with_reducible refine gate_dst (N := 3) rfl ?_); (try (refine gate_guard (by rfl) ?_; dsimp only)); refine zBx (N := 3) #[.int .i64 a0_0, .string a0_1] 25 ?_; intro gb1063 hg w4 hbox hb; have BK1063 := Aside0.mk (hbox); have GW1063 := zS hg; have GE1063 := zS hg; replace HB := zX hb; clear hb hbox hg))
 go_loopg [7] k (fun kq v7 w' => ∃ (x7_1 : Int), v7 = .int .i64 x7_1 ∧ Aside0 (spec_l6In.l0 kq a1 a2 x7_1 a0_0 a0_1 = some r) ∧ Aside0 (kq ≤ k) ∧ Aside0 (w'.heap[gb1063]? = some (.cells #[.int .i64 a0_0, .string a0_1] 25 (0, 0))) ∧ Aside0 (Below w.heap.size w w'))
 case atStart => exact ⟨(0), zF, H', ⟨Nat.le_refl _⟩, ⟨zK BK1063.out⟩, ⟨zG GE1063.out⟩⟩
 case round =>
 clear H'
 obtain ⟨x7_1, rfl, HA, HK1, BK1063, HB⟩ := hrel
 cases gk with
 | zero => exact absurd HA.out (by simp [spec_l6In.l0])
 | succ k1 =>
 have H := HA.out
 clear HA
 simp only [spec_l6In.l0] at H
 by_cases c5 : x7_1 < a0_0
 ·rw [if_pos c5] at H
  have c5b0 := decide_eq_true c5
  clear c5
  have H' := Aside0.mk H; clear H
  obtain ⟨hcz6_0, hcz6_1, hfz6_0, hfz6_1⟩ := zq2 BK1063.out
  go_wp2
  go_loopg [8] k1 (fun kq v8 w' => ∃ (x8_2 : Int), v8 = .int .i64 x8_2 ∧ Aside0 (spec_l6In.l1 kq a1 a2 x7_1 x8_2 a0_0 a0_1 = some r) ∧ Aside0 (kq ≤ k1) ∧ Aside0 (w'.heap[gb1063]? = some (.cells #[.int .i64 a0_0, .string a0_1] 25 (0, 0))) ∧ Aside0 (Below w.heap.size w w'))
  case atStart => exact ⟨(wrap64 (x7_1 + 1)), zF, H', ⟨Nat.le_refl _⟩, ⟨zK BK1063.out⟩, ⟨zG GE1063.out⟩⟩
  case round =>
  clear H'
  try clear c5
  try clear c5b0
  try clear hcz6_0
  try clear hcz6_1
  try clear hfz6_0
  try clear hfz6_1
  obtain ⟨x8_2, rfl, HA, HK2, BK1063, HB⟩ := hrel
  cases gk with
  | zero => exact absurd HA.out (by simp [spec_l6In.l1])
  | succ k2 =>
  have H := HA.out
  clear HA
  simp only [spec_l6In.l1] at H
  by_cases c7 : x8_2 < a0_0
  ·rw [if_pos c7] at H
   have c7b0 := decide_eq_true c7
   clear c7
   have H' := Aside0.mk H; clear H
   obtain ⟨hcz8_0, hcz8_1, hfz8_0, hfz8_1⟩ := zq2 BK1063.out
   go_wp2
   go_loopg [9] k2 (fun kq v9 w' => ∃ (x9_3 : Int), v9 = .int .i64 x9_3 ∧ Aside0 (spec_l6In.l2 kq a1 a2 x7_1 x8_2 x9_3 a0_0 a0_1 = some r) ∧ Aside0 (kq ≤ k2) ∧ Aside0 (w'.heap[gb1063]? = some (.cells #[.int .i64 a0_0, .string a0_1] 25 (0, 0))) ∧ Aside0 (Below w.heap.size w w'))
   case atStart => exact ⟨(wrap64 (x8_2 + 1)), zF, H', ⟨Nat.le_refl _⟩, ⟨zK BK1063.out⟩, ⟨zG GE1063.out⟩⟩
   case round =>
   clear H'
   try clear c5
   try clear c5b0
   try clear c7
   try clear c7b0
   try clear hcz6_0
   try clear hcz6_1
   try clear hcz8_0
   try clear hcz8_1
   try clear hfz6_0
   try clear hfz6_1
   try clear hfz8_0
   try clear hfz8_1
   obtain ⟨x9_3, rfl, HA, HK3, BK1063, HB⟩ := hrel
   cases gk with
   | zero => exact absurd HA.out (by simp [spec_l6In.l2])
   | succ k3 =>
   have H := HA.out
   clear HA
   simp only [spec_l6In.l2] at H
   by_cases c9 : x9_3 < a0_0
   ·rw [if_pos c9] at H
    have c9b0 := decide_eq_true c9
    clear c9
    by_cases c10 : a2 = x7_1
    ·rw [if_pos c10] at H
     have c10b0 := beq_iff_eq.mpr c10
     have c10b1 := bne_eq_false_iff_eq.mpr c10
     clear c10
     have H' := Aside0.mk H; clear H
     obtain ⟨hcz11_0, hcz11_1, hfz11_0, hfz11_1⟩ := zq2 BK1063.out
     go_wp2
     go_roundg k3
     case measure => have := HK1.out; have := HK2.out; have := HK3.out; omega
     case rel => exact ⟨(wrap64 (x9_3 + 1)), zF, H', ⟨by have := HK1.out; have := HK2.out; have := HK3.out; omega⟩, ⟨zK BK1063.out⟩, ⟨zG GE1063.out⟩⟩
    rw [if_neg c10] at H
    have c10b0 := beq_eq_false_iff_ne.mpr c10
    have c10b1 := bne_iff_ne.mpr c10
    by_cases c12 : a2 = x8_2
    ·rw [if_pos c12] at H
     have c12b0 := beq_iff_eq.mpr c12
     have c12b1 := bne_eq_false_iff_eq.mpr c12
     clear c12
     have H' := Aside0.mk H; clear H
     obtain ⟨hcz13_0, hcz13_1, hfz13_0, hfz13_1⟩ := zq2 BK1063.out
     go_wp2
     go_roundg k3
     case measure => have := HK1.out; have := HK2.out; have := HK3.out; omega
     case rel => exact ⟨(wrap64 (x9_3 + 1)), zF, H', ⟨by have := HK1.out; have := HK2.out; have := HK3.out; omega⟩, ⟨zK BK1063.out⟩, ⟨zG GE1063.out⟩⟩
    rw [if_neg c12] at H
    have c12b0 := beq_eq_false_iff_ne.mpr c12
    have c12b1 := bne_iff_ne.mpr c12
    by_cases c14 : a2 = x9_3
    ·rw [if_pos c14] at H
     have c14b0 := beq_iff_eq.mpr c14
     have c14b1 := bne_eq_false_iff_eq.mpr c14
     clear c14
     have H' := Aside0.mk H; clear H
     obtain ⟨hcz15_0, hcz15_1, hfz15_0, hfz15_1⟩ := zq2 BK1063.out
     go_wp2
     go_roundg k3
     case measure => have := HK1.out; have := HK2.out; have := HK3.out; omega
     case rel => exact ⟨(wrap64 (x9_3 + 1)), zF, H', ⟨by have := HK1.out; have := HK2.out; have := HK3.out; omega⟩, ⟨zK BK1063.out⟩, ⟨zG GE1063.out⟩⟩
    rw [if_neg c14] at H
    have c14b0 := beq_eq_false_iff_ne.mpr c14
    have c14b1 := bne_iff_ne.mpr c14
    obtain ⟨t1064, A16, H⟩ := zO H
    by_cases c17 : t1064 = true
    ·subst c17
     replace H := (if_pos rfl).symm.trans H
     obtain ⟨t1065, A18, H⟩ := zO H
     by_cases c19 : t1065 = true
     ·subst c19
      replace H := (if_pos rfl).symm.trans H
      obtain ⟨t1066, A20, H⟩ := zO H
      by_cases c21 : t1066 = true
      ·subst c21
       replace H := (if_pos rfl).symm.trans H
       obtain ⟨y1067, hy1067⟩ : ∃ y_ : List Int, y_ = (([a2, x7_1, x8_2, x9_3] : List Int)) := ⟨_, rfl⟩
       replace H : ((spec_l5Inner.f k3 a0_0 a0_1 y1067).bind fun t1070 => (if t1070 = a2 then (some true) else (spec_l6In.l2 k3 a1 a2 x7_1 x8_2 (wrap64 (x9_3 + 1)) a0_0 a0_1))) = some r := by first | (rw [hy1067]; with_reducible exact H) | (have H2_ := (Option.bind_some _ _).symm.trans H; rw [hy1067]; with_reducible exact H2_) | (have H2_ := (Option.bind_some _ _).symm.trans H; with_reducible exact H2_) | with_reducible exact H | (rw [hy1067]; exact H) | exact H
       have Ny1067 := Aside0.mk hy1067
       clear hy1067
       obtain ⟨t1070, A22, H⟩ := zO H
       by_cases c23 : t1070 = a2
       ·rw [if_pos c23] at H
        have c23b0 := beq_iff_eq.mpr c23
        have c23b1 := bne_eq_false_iff_eq.mpr c23
        clear c23
        obtain rfl := Option.some.inj H
        obtain ⟨hcz24_0, hcz24_1, hfz24_0, hfz24_1⟩ := zq2 BK1063.out
        go_wp2_with (first | (go_at_call 129; (with_reducible refine (spec_l6Has.calls a1 x7_1 true _ A16.out).mono ?_); rintro e w' ⟨rfl, ⟨nd, rfl⟩⟩) | (go_at_call 129; (with_reducible refine (spec_l6Has.calls a1 x8_2 true _ A18.out).mono ?_); rintro e w' ⟨rfl, ⟨nd, rfl⟩⟩) | (go_at_call 129; (with_reducible refine (spec_l6Has.calls a1 x9_3 true _ A20.out).mono ?_); rintro e w' ⟨rfl, ⟨nd, rfl⟩⟩) | ((with_reducible refine gate_dst (N := 66) rfl ?_); (try (refine gate_guard (by rfl) ?_; dsimp only)); refine Kd.R_lit (Kd.int .i64) _ 3 ?hg (N := 66) ?hd (xs := ([a2, x7_1, x8_2, x9_3] : List Int)) (inner := [.int .i64 a2, .int .i64 x7_1, .int .i64 x8_2, .int .i64 x9_3]) (ok := fun _ => True) (okp := fun _ => True) ?hr ?hp (fun _ hk => hk) trivial (Below.refl _ _) (Nat.le_refl _) (by simp) ?_; (case hd => rfl); (case hg => rfl); (case hr => first | (go_simp; done) | (go_simp; rfl)); (case hp => exact (Reps.one (show Kd.M (Kd.int .i64) _ _ _ a2 [.int .i64 a2] from rfl) (Reps.one (show Kd.M (Kd.int .i64) _ _ _ x7_1 [.int .i64 x7_1] from rfl) (Reps.one (show Kd.M (Kd.int .i64) _ _ _ x8_2 [.int .i64 x8_2] from rfl) (Reps.one (show Kd.M (Kd.int .i64) _ _ _ x9_3 [.int .i64 x9_3] from rfl) (Reps.none _ _)))))); intro v1068 w25 ho26 hb hg_ hnew_; clear hg_ hnew_; (first | rw [← Ny1067.out] at ho26 | (simp only [Int.reduceToNat] at ho26; rw [← Ny1067.out] at ho26)); have HO1069 := Aside0.mk (Kd.R_lower ho26 (below_size (zG GE1063.out))); replace BK1063 := zV BK1063.out hb; replace HB := zX1 GE1063.out hb; clear hb ho26; obtain ⟨Ao27, co27, eo27⟩ := Kd.R_slice HO1069.out; subst eo27) | (go_at_call 114; (with_reducible refine (spec_l5Inner.calls k3 a0_0 a0_1 _ _ y1067 t1070 _ ?side1 ?side2 A22.out).mono ?_); (case side1 => repeat (first | exact (Kd.R_reads' HO1069.out).2.2 | (with_reducible refine Kd.C_alloc ?_ _) | (with_reducible refine Kd.C_drewN ?_ _) | (with_reducible refine Kd.C_drew ?_))); (case side2 => exact (Kd.R_reads' HO1069.out).2.1); rintro e w28 ⟨rfl, hb⟩; replace HO1069 := zW HO1069.out hb; replace BK1063 := zV BK1063.out hb; replace HB := zX1 GE1063.out hb; (try clear hb); (try clear hb2); (try clear hk); (try clear hi)))
        go_ret
        exact ⟨zE, zG GE1063.out⟩
       rw [if_neg c23] at H
       have c23b0 := beq_eq_false_iff_ne.mpr c23
       have c23b1 := bne_iff_ne.mpr c23
       have H' := Aside0.mk H; clear H
       obtain ⟨hcz29_0, hcz29_1, hfz29_0, hfz29_1⟩ := zq2 BK1063.out
       go_wp2_with (first | (go_at_call 129; (with_reducible refine (spec_l6Has.calls a1 x7_1 true _ A16.out).mono ?_); rintro e w' ⟨rfl, ⟨nd, rfl⟩⟩) | (go_at_call 129; (with_reducible refine (spec_l6Has.calls a1 x8_2 true _ A18.out).mono ?_); rintro e w' ⟨rfl, ⟨nd, rfl⟩⟩) | (go_at_call 129; (with_reducible refine (spec_l6Has.calls a1 x9_3 true _ A20.out).mono ?_); rintro e w' ⟨rfl, ⟨nd, rfl⟩⟩) | ((with_reducible refine gate_dst (N := 66) rfl ?_); (try (refine gate_guard (by rfl) ?_; dsimp only)); refine Kd.R_lit (Kd.int .i64) _ 3 ?hg (N := 66) ?hd (xs := ([a2, x7_1, x8_2, x9_3] : List Int)) (inner := [.int .i64 a2, .int .i64 x7_1, .int .i64 x8_2, .int .i64 x9_3]) (ok := fun _ => True) (okp := fun _ => True) ?hr ?hp (fun _ hk => hk) trivial (Below.refl _ _) (Nat.le_refl _) (by simp) ?_; (case hd => rfl); (case hg => rfl); (case hr => first | (go_simp; done) | (go_simp; rfl)); (case hp => exact (Reps.one (show Kd.M (Kd.int .i64) _ _ _ a2 [.int .i64 a2] from rfl) (Reps.one (show Kd.M (Kd.int .i64) _ _ _ x7_1 [.int .i64 x7_1] from rfl) (Reps.one (show Kd.M (Kd.int .i64) _ _ _ x8_2 [.int .i64 x8_2] from rfl) (Reps.one (show Kd.M (Kd.int .i64) _ _ _ x9_3 [.int .i64 x9_3] from rfl) (Reps.none _ _)))))); intro v1068 w30 ho31 hb hg_ hnew_; clear hg_ hnew_; (first | rw [← Ny1067.out] at ho31 | (simp only [Int.reduceToNat] at ho31; rw [← Ny1067.out] at ho31)); have HO1069 := Aside0.mk (Kd.R_lower ho31 (below_size (zG GE1063.out))); replace BK1063 := zV BK1063.out hb; replace HB := zX1 GE1063.out hb; clear hb ho31; obtain ⟨Ao32, co32, eo32⟩ := Kd.R_slice HO1069.out; subst eo32) | (go_at_call 114; (with_reducible refine (spec_l5Inner.calls k3 a0_0 a0_1 _ _ y1067 t1070 _ ?side1 ?side2 A22.out).mono ?_); (case side1 => repeat (first | exact (Kd.R_reads' HO1069.out).2.2 | (with_reducible refine Kd.C_alloc ?_ _) | (with_reducible refine Kd.C_drewN ?_ _) | (with_reducible refine Kd.C_drew ?_))); (case side2 => exact (Kd.R_reads' HO1069.out).2.1); rintro e w33 ⟨rfl, hb⟩; replace HO1069 := zW HO1069.out hb; replace BK1063 := zV BK1063.out hb; replace HB := zX1 GE1063.out hb; (try clear hb); (try clear hb2); (try clear hk); (try clear hi)))
       go_roundg k3
       case measure => have := HK1.out; have := HK2.out; have := HK3.out; omega
       case rel => exact ⟨(wrap64 (x9_3 + 1)), zF, H', ⟨by have := HK1.out; have := HK2.out; have := HK3.out; omega⟩, ⟨zK BK1063.out⟩, ⟨zG GE1063.out⟩⟩
      replace c21 := Bool.eq_false_iff.mpr c21
      subst c21
      replace H := (if_neg zFf).symm.trans H
      have H' := Aside0.mk H; clear H
      obtain ⟨hcz34_0, hcz34_1, hfz34_0, hfz34_1⟩ := zq2 BK1063.out
      go_wp2_with (first | (go_at_call 129; (with_reducible refine (spec_l6Has.calls a1 x7_1 true _ A16.out).mono ?_); rintro e w' ⟨rfl, ⟨nd, rfl⟩⟩) | (go_at_call 129; (with_reducible refine (spec_l6Has.calls a1 x8_2 true _ A18.out).mono ?_); rintro e w' ⟨rfl, ⟨nd, rfl⟩⟩) | (go_at_call 129; (with_reducible refine (spec_l6Has.calls a1 x9_3 false _ A20.out).mono ?_); rintro e w' ⟨rfl, ⟨nd, rfl⟩⟩))
      go_roundg k3
      case measure => have := HK1.out; have := HK2.out; have := HK3.out; omega
      case rel => exact ⟨(wrap64 (x9_3 + 1)), zF, H', ⟨by have := HK1.out; have := HK2.out; have := HK3.out; omega⟩, ⟨zK BK1063.out⟩, ⟨zG GE1063.out⟩⟩
     replace c19 := Bool.eq_false_iff.mpr c19
     subst c19
     replace H := (if_neg zFf).symm.trans H
     have H' := Aside0.mk H; clear H
     obtain ⟨hcz35_0, hcz35_1, hfz35_0, hfz35_1⟩ := zq2 BK1063.out
     go_wp2_with (first | (go_at_call 129; (with_reducible refine (spec_l6Has.calls a1 x7_1 true _ A16.out).mono ?_); rintro e w' ⟨rfl, ⟨nd, rfl⟩⟩) | (go_at_call 129; (with_reducible refine (spec_l6Has.calls a1 x8_2 false _ A18.out).mono ?_); rintro e w' ⟨rfl, ⟨nd, rfl⟩⟩))
     go_roundg k3
     case measure => have := HK1.out; have := HK2.out; have := HK3.out; omega
     case rel => exact ⟨(wrap64 (x9_3 + 1)), zF, H', ⟨by have := HK1.out; have := HK2.out; have := HK3.out; omega⟩, ⟨zK BK1063.out⟩, ⟨zG GE1063.out⟩⟩
    replace c17 := Bool.eq_false_iff.mpr c17
    subst c17
    replace H := (if_neg zFf).symm.trans H
    have H' := Aside0.mk H; clear H
    obtain ⟨hcz36_0, hcz36_1, hfz36_0, hfz36_1⟩ := zq2 BK1063.out
    go_wp2_with (first | (go_at_call 129; (with_reducible refine (spec_l6Has.calls a1 x7_1 false _ A16.out).mono ?_); rintro e w' ⟨rfl, ⟨nd, rfl⟩⟩))
    go_roundg k3
    case measure => have := HK1.out; have := HK2.out; have := HK3.out; omega
    case rel => exact ⟨(wrap64 (x9_3 + 1)), zF, H', ⟨by have := HK1.out; have := HK2.out; have := HK3.out; omega⟩, ⟨zK BK1063.out⟩, ⟨zG GE1063.out⟩⟩
   rw [if_neg c9] at H
   have c9b0 := decide_eq_false c9
   clear c9
   have H' := Aside0.mk H; clear H
   obtain ⟨hcz37_0, hcz37_1, hfz37_0, hfz37_1⟩ := zq2 BK1063.out
   go_wp2
   go_roundg k3
   case measure => have := HK1.out; have := HK2.out; have := HK3.out; omega
   case rel => exact ⟨(wrap64 (x8_2 + 1)), zF, H', ⟨by have := HK1.out; have := HK2.out; have := HK3.out; omega⟩, ⟨zK BK1063.out⟩, ⟨zG GE1063.out⟩⟩
  rw [if_neg c7] at H
  have c7b0 := decide_eq_false c7
  clear c7
  have H' := Aside0.mk H; clear H
  obtain ⟨hcz38_0, hcz38_1, hfz38_0, hfz38_1⟩ := zq2 BK1063.out
  go_wp2
  go_roundg k2
  case measure => have := HK1.out; have := HK2.out; omega
  case rel => exact ⟨(wrap64 (x7_1 + 1)), zF, H', ⟨by have := HK1.out; have := HK2.out; omega⟩, ⟨zK BK1063.out⟩, ⟨zG GE1063.out⟩⟩
 rw [if_neg c5] at H
 have c5b0 := decide_eq_false c5
 clear c5
 obtain rfl := Option.some.inj H
 obtain ⟨hcz39_0, hcz39_1, hfz39_0, hfz39_1⟩ := zq2 BK1063.out
 go_wp2
 go_ret
 exact ⟨zE, zG GE1063.out⟩
/-! ### spec_IsMatroid: function 22 -/
def spec_IsMatroid.f (k : Nat) (a0_0 : Int) (a0_1 : ByteArray) : Option (Bool) := (spec_AreSigns.f k a0_0 a0_1).bind fun t547 => (if t547 = true then ((spec_FirstBreak.f k a0_0 a0_1).bind fun t548 => (some ((t548.length : Int) == 0))) else (some false))
set_option maxHeartbeats 8000000 in
set_option maxRecDepth 100000 in
theorem spec_IsMatroid.calls (k : Nat) (a0_0 : Int) (a0_1 : ByteArray) (r : Bool) (w : World) (h : spec_IsMatroid.f k a0_0 a0_1 = some r) :
  Calls Try.prog 22 #[.agg #[.int .i64 a0_0, .string a0_1]] w fun e w' => e = .returned (.bool r) ∧ Below w.heap.size w w' := by
 have hu25 := Try.underlying25
 have HB := Aside0.mk (Below.refl w.heap.size w)
 have H : ((spec_AreSigns.f k a0_0 a0_1).bind fun t547 => (if t547 = true then ((spec_FirstBreak.f k a0_0 a0_1).bind fun t548 => (some ((t548.length : Int) == 0))) else (some false))) = some r := h
 clear h
 obtain ⟨t547, A2, H⟩ := zO H
 by_cases c3 : t547 = true
 ·subst c3
  replace H := (if_pos rfl).symm.trans H
  obtain ⟨t548, A4, H⟩ := zO H
  obtain rfl := Option.some.inj H
  go_enter Try.func22, Try.ntmps22
  go_wp2_with (first | ((with_reducible refine gate_dst (N := 1) rfl ?_); (try (refine gate_guard (by rfl) ?_; dsimp only)); refine zBx (N := 1) #[.int .i64 a0_0, .string a0_1] 25 ?_; intro gb546 hg w5 hbox hb; have BK546 := Aside0.mk (hbox); have GW546 := zS hg; have GE546 := zS hg; replace HB := zX hb; clear hb hbox hg; obtain ⟨hcz6_0, hcz6_1, hfz6_0, hfz6_1⟩ := zq2 BK546.out) | ((with_reducible refine gate_callee (f := 25) rfl ?_); refine zD (some 4) Try.func25 #[.agg #[.int .i64 a0_0, .string a0_1]] ?_; (with_reducible refine (spec_AreSigns.calls k a0_0 a0_1 true _ A2.out).mono ?_); rintro e w7 ⟨rfl, hb⟩; refine ⟨_, rfl, ?_⟩; replace BK546 := zV BK546.out hb; replace HB := zX1 GE546.out hb; (try clear hb); obtain ⟨hcz8_0, hcz8_1, hfz8_0, hfz8_1⟩ := zq2 BK546.out) | (go_at_call 17; (with_reducible refine (spec_FirstBreak.calls k a0_0 a0_1 t548 _ A4.out).mono ?_); rintro e w9 ⟨v549, rfl, ho0, hb⟩; have HO550 := Aside0.mk (Kd.R_lower ho0 (below_size (zG GE546.out))); replace BK546 := zV BK546.out hb; replace HB := zX1 GE546.out hb; (try clear hb); (try clear hb2); (try clear hk); (try clear hi); (try clear ho0); obtain ⟨Ao10, co10, eo10⟩ := Kd.R_slice HO550.out; subst eo10))
  go_ret
  exact ⟨zE, zG GE546.out⟩
 replace c3 := Bool.eq_false_iff.mpr c3
 subst c3
 replace H := (if_neg zFf).symm.trans H
 obtain rfl := Option.some.inj H
 go_enter Try.func22, Try.ntmps22
 go_wp2_with (first | ((with_reducible refine gate_dst (N := 1) rfl ?_); (try (refine gate_guard (by rfl) ?_; dsimp only)); refine zBx (N := 1) #[.int .i64 a0_0, .string a0_1] 25 ?_; intro gb546 hg w11 hbox hb; have BK546 := Aside0.mk (hbox); have GW546 := zS hg; have GE546 := zS hg; replace HB := zX hb; clear hb hbox hg; obtain ⟨hcz12_0, hcz12_1, hfz12_0, hfz12_1⟩ := zq2 BK546.out) | ((with_reducible refine gate_callee (f := 25) rfl ?_); refine zD (some 4) Try.func25 #[.agg #[.int .i64 a0_0, .string a0_1]] ?_; (with_reducible refine (spec_AreSigns.calls k a0_0 a0_1 false _ A2.out).mono ?_); rintro e w13 ⟨rfl, hb⟩; refine ⟨_, rfl, ?_⟩; replace BK546 := zV BK546.out hb; replace HB := zX1 GE546.out hb; (try clear hb)))
 go_ret
 exact ⟨zE, zG GE546.out⟩
/-! ### spec_l4Acyclic: function 99 -/
mutual
def spec_l4Acyclic.l0 : Nat → Int → Int → ByteArray → Option (Bool)
 | 0, _, _, _ => none
 | k + 1, x3, x552000, x552001 => if x3 < x552000 then (spec_l4Acyclic.l1 k x3 (wrap64 (x3 + 1)) x552000 x552001) else (some true)
def spec_l4Acyclic.l1 : Nat → Int → Int → Int → ByteArray → Option (Bool)
 | 0, _, _, _, _ => none
 | k + 1, x3, x4, x552000, x552001 => if x4 < x552000 then (spec_l4Acyclic.l2 k x3 x4 (wrap64 (x4 + 1)) x552000 x552001) else (spec_l4Acyclic.l0 k (wrap64 (x3 + 1)) x552000 x552001)
def spec_l4Acyclic.l2 : Nat → Int → Int → Int → Int → ByteArray → Option (Bool)
 | 0, _, _, _, _, _ => none
 | k + 1, x3, x4, x5, x552000, x552001 => if x5 < x552000 then (spec_l4Acyclic.l3 k x3 x4 x5 (wrap64 (x5 + 1)) x552000 x552001) else (spec_l4Acyclic.l1 k x3 (wrap64 (x4 + 1)) x552000 x552001)
def spec_l4Acyclic.l3 : Nat → Int → Int → Int → Int → Int → ByteArray → Option (Bool)
 | 0, _, _, _, _, _, _ => none
 | k + 1, x3, x4, x5, x6, x552000, x552001 => if x6 < x552000 then ((spec_l4Circuit.f k x552000 x552001 x3 x4 x5 x6).bind fun t552 => (if t552.toList = ([43, 43, 43, 43] : List UInt8) then (some false) else (spec_l4Acyclic.l3 k x3 x4 x5 (wrap64 (x6 + 1)) x552000 x552001))) else (spec_l4Acyclic.l2 k x3 x4 (wrap64 (x5 + 1)) x552000 x552001)
end
def spec_l4Acyclic.f (k : Nat) (a0_0 : Int) (a0_1 : ByteArray) : Option (Bool) := spec_l4Acyclic.l0 k 0 a0_0 a0_1
set_option maxHeartbeats 8000000 in
set_option maxRecDepth 100000 in
theorem spec_l4Acyclic.calls (k : Nat) (a0_0 : Int) (a0_1 : ByteArray) (r : Bool) (w : World) (h : spec_l4Acyclic.f k a0_0 a0_1 = some r) :
  Calls Try.prog 99 #[.agg #[.int .i64 a0_0, .string a0_1]] w fun e w' => e = .returned (.bool r) ∧ Below w.heap.size w w' := by
 have hu25 := Try.underlying25
 have HB := Aside0.mk (Below.refl w.heap.size w)
 have H : (spec_l4Acyclic.l0 k 0 a0_0 a0_1) = some r := h
 clear h
 have H' := Aside0.mk H; clear H
 go_enter Try.func99, Try.ntmps99
 go_wp2_with (first | ((with_reducible refine gate_dst (N := 1) rfl ?_); refine zBx (N := 1) #[.int .i64 a0_0, .string a0_1] 25 ?_; intro gb551 hg w2 hbox hb; have BK551 := Aside0.mk (hbox); have GW551 := zS hg; have GE551 := zS hg; replace HB := zX hb; clear hb hbox hg))
 go_loopg [3] k (fun kq v3 w' => ∃ (x3_1 : Int), v3 = .int .i64 x3_1 ∧ Aside0 (spec_l4Acyclic.l0 kq x3_1 a0_0 a0_1 = some r) ∧ Aside0 (kq ≤ k) ∧ Aside0 (w'.heap[gb551]? = some (.cells #[.int .i64 a0_0, .string a0_1] 25 (0, 0))) ∧ Aside0 (Below w.heap.size w w'))
 case atStart => exact ⟨(0), zF, H', ⟨Nat.le_refl _⟩, ⟨zK BK551.out⟩, ⟨zG GE551.out⟩⟩
 case round =>
 clear H'
 obtain ⟨x3_1, rfl, HA, HK1, BK551, HB⟩ := hrel
 cases gk with
 | zero => exact absurd HA.out (by simp [spec_l4Acyclic.l0])
 | succ k1 =>
 have H := HA.out
 clear HA
 simp only [spec_l4Acyclic.l0] at H
 by_cases c3 : x3_1 < a0_0
 ·rw [if_pos c3] at H
  have c3b0 := decide_eq_true c3
  clear c3
  have H' := Aside0.mk H; clear H
  obtain ⟨hcz4_0, hcz4_1, hfz4_0, hfz4_1⟩ := zq2 BK551.out
  go_wp2
  go_loopg [4] k1 (fun kq v4 w' => ∃ (x4_2 : Int), v4 = .int .i64 x4_2 ∧ Aside0 (spec_l4Acyclic.l1 kq x3_1 x4_2 a0_0 a0_1 = some r) ∧ Aside0 (kq ≤ k1) ∧ Aside0 (w'.heap[gb551]? = some (.cells #[.int .i64 a0_0, .string a0_1] 25 (0, 0))) ∧ Aside0 (Below w.heap.size w w'))
  case atStart => exact ⟨(wrap64 (x3_1 + 1)), zF, H', ⟨Nat.le_refl _⟩, ⟨zK BK551.out⟩, ⟨zG GE551.out⟩⟩
  case round =>
  clear H'
  try clear c3
  try clear c3b0
  try clear hcz4_0
  try clear hcz4_1
  try clear hfz4_0
  try clear hfz4_1
  obtain ⟨x4_2, rfl, HA, HK2, BK551, HB⟩ := hrel
  cases gk with
  | zero => exact absurd HA.out (by simp [spec_l4Acyclic.l1])
  | succ k2 =>
  have H := HA.out
  clear HA
  simp only [spec_l4Acyclic.l1] at H
  by_cases c5 : x4_2 < a0_0
  ·rw [if_pos c5] at H
   have c5b0 := decide_eq_true c5
   clear c5
   have H' := Aside0.mk H; clear H
   obtain ⟨hcz6_0, hcz6_1, hfz6_0, hfz6_1⟩ := zq2 BK551.out
   go_wp2
   go_loopg [5] k2 (fun kq v5 w' => ∃ (x5_3 : Int), v5 = .int .i64 x5_3 ∧ Aside0 (spec_l4Acyclic.l2 kq x3_1 x4_2 x5_3 a0_0 a0_1 = some r) ∧ Aside0 (kq ≤ k2) ∧ Aside0 (w'.heap[gb551]? = some (.cells #[.int .i64 a0_0, .string a0_1] 25 (0, 0))) ∧ Aside0 (Below w.heap.size w w'))
   case atStart => exact ⟨(wrap64 (x4_2 + 1)), zF, H', ⟨Nat.le_refl _⟩, ⟨zK BK551.out⟩, ⟨zG GE551.out⟩⟩
   case round =>
   clear H'
   try clear c3
   try clear c3b0
   try clear c5
   try clear c5b0
   try clear hcz4_0
   try clear hcz4_1
   try clear hcz6_0
   try clear hcz6_1
   try clear hfz4_0
   try clear hfz4_1
   try clear hfz6_0
   try clear hfz6_1
   obtain ⟨x5_3, rfl, HA, HK3, BK551, HB⟩ := hrel
   cases gk with
   | zero => exact absurd HA.out (by simp [spec_l4Acyclic.l2])
   | succ k3 =>
   have H := HA.out
   clear HA
   simp only [spec_l4Acyclic.l2] at H
   by_cases c7 : x5_3 < a0_0
   ·rw [if_pos c7] at H
    have c7b0 := decide_eq_true c7
    clear c7
    have H' := Aside0.mk H; clear H
    obtain ⟨hcz8_0, hcz8_1, hfz8_0, hfz8_1⟩ := zq2 BK551.out
    go_wp2
    go_loopg [6] k3 (fun kq v6 w' => ∃ (x6_4 : Int), v6 = .int .i64 x6_4 ∧ Aside0 (spec_l4Acyclic.l3 kq x3_1 x4_2 x5_3 x6_4 a0_0 a0_1 = some r) ∧ Aside0 (kq ≤ k3) ∧ Aside0 (w'.heap[gb551]? = some (.cells #[.int .i64 a0_0, .string a0_1] 25 (0, 0))) ∧ Aside0 (Below w.heap.size w w'))
    case atStart => exact ⟨(wrap64 (x5_3 + 1)), zF, H', ⟨Nat.le_refl _⟩, ⟨zK BK551.out⟩, ⟨zG GE551.out⟩⟩
    case round =>
    clear H'
    try clear c3
    try clear c3b0
    try clear c5
    try clear c5b0
    try clear c7
    try clear c7b0
    try clear hcz4_0
    try clear hcz4_1
    try clear hcz6_0
    try clear hcz6_1
    try clear hcz8_0
    try clear hcz8_1
    try clear hfz4_0
    try clear hfz4_1
    try clear hfz6_0
    try clear hfz6_1
    try clear hfz8_0
    try clear hfz8_1
    obtain ⟨x6_4, rfl, HA, HK4, BK551, HB⟩ := hrel
    cases gk with
    | zero => exact absurd HA.out (by simp [spec_l4Acyclic.l3])
    | succ k4 =>
    have H := HA.out
    clear HA
    simp only [spec_l4Acyclic.l3] at H
    by_cases c9 : x6_4 < a0_0
    ·rw [if_pos c9] at H
     have c9b0 := decide_eq_true c9
     clear c9
     obtain ⟨t552, A10, H⟩ := zO H
     by_cases c11 : t552.toList = ([43, 43, 43, 43] : List UInt8)
     ·rw [if_pos c11] at H
      have c11b0 := beq_iff_eq.mpr c11
      have c11b1 := bne_eq_false_iff_eq.mpr c11
      clear c11
      obtain rfl := Option.some.inj H
      obtain ⟨hcz12_0, hcz12_1, hfz12_0, hfz12_1⟩ := zq2 BK551.out
      go_wp2_with (first | ((with_reducible refine gate_callee (f := 98) rfl ?_); refine zD (some 42) Try.func98 #[.agg #[.int .i64 a0_0, .string a0_1], .int .i64 x3_1, .int .i64 x4_2, .int .i64 x5_3, .int .i64 x6_4] ?_; (with_reducible refine (spec_l4Circuit.calls k4 a0_0 a0_1 x3_1 x4_2 x5_3 x6_4 t552 _ A10.out).mono ?_); rintro e w13 ⟨rfl, hb⟩; refine ⟨_, rfl, ?_⟩; replace BK551 := zV BK551.out hb; replace HB := zX1 GE551.out hb; (try clear hb)))
      go_ret
      exact ⟨zE, zG GE551.out⟩
     rw [if_neg c11] at H
     have c11b0 := beq_eq_false_iff_ne.mpr c11
     have c11b1 := bne_iff_ne.mpr c11
     have H' := Aside0.mk H; clear H
     obtain ⟨hcz14_0, hcz14_1, hfz14_0, hfz14_1⟩ := zq2 BK551.out
     go_wp2_with (first | ((with_reducible refine gate_callee (f := 98) rfl ?_); refine zD (some 42) Try.func98 #[.agg #[.int .i64 a0_0, .string a0_1], .int .i64 x3_1, .int .i64 x4_2, .int .i64 x5_3, .int .i64 x6_4] ?_; (with_reducible refine (spec_l4Circuit.calls k4 a0_0 a0_1 x3_1 x4_2 x5_3 x6_4 t552 _ A10.out).mono ?_); rintro e w15 ⟨rfl, hb⟩; refine ⟨_, rfl, ?_⟩; replace BK551 := zV BK551.out hb; replace HB := zX1 GE551.out hb; (try clear hb)))
     go_roundg k4
     case measure => have := HK1.out; have := HK2.out; have := HK3.out; have := HK4.out; omega
     case rel => exact ⟨(wrap64 (x6_4 + 1)), zF, H', ⟨by have := HK1.out; have := HK2.out; have := HK3.out; have := HK4.out; omega⟩, ⟨zK BK551.out⟩, ⟨zG GE551.out⟩⟩
    rw [if_neg c9] at H
    have c9b0 := decide_eq_false c9
    clear c9
    have H' := Aside0.mk H; clear H
    obtain ⟨hcz16_0, hcz16_1, hfz16_0, hfz16_1⟩ := zq2 BK551.out
    go_wp2
    go_roundg k4
    case measure => have := HK1.out; have := HK2.out; have := HK3.out; have := HK4.out; omega
    case rel => exact ⟨(wrap64 (x5_3 + 1)), zF, H', ⟨by have := HK1.out; have := HK2.out; have := HK3.out; have := HK4.out; omega⟩, ⟨zK BK551.out⟩, ⟨zG GE551.out⟩⟩
   rw [if_neg c7] at H
   have c7b0 := decide_eq_false c7
   clear c7
   have H' := Aside0.mk H; clear H
   obtain ⟨hcz17_0, hcz17_1, hfz17_0, hfz17_1⟩ := zq2 BK551.out
   go_wp2
   go_roundg k3
   case measure => have := HK1.out; have := HK2.out; have := HK3.out; omega
   case rel => exact ⟨(wrap64 (x4_2 + 1)), zF, H', ⟨by have := HK1.out; have := HK2.out; have := HK3.out; omega⟩, ⟨zK BK551.out⟩, ⟨zG GE551.out⟩⟩
  rw [if_neg c5] at H
  have c5b0 := decide_eq_false c5
  clear c5
  have H' := Aside0.mk H; clear H
  obtain ⟨hcz18_0, hcz18_1, hfz18_0, hfz18_1⟩ := zq2 BK551.out
  go_wp2
  go_roundg k2
  case measure => have := HK1.out; have := HK2.out; omega
  case rel => exact ⟨(wrap64 (x3_1 + 1)), zF, H', ⟨by have := HK1.out; have := HK2.out; omega⟩, ⟨zK BK551.out⟩, ⟨zG GE551.out⟩⟩
 rw [if_neg c3] at H
 have c3b0 := decide_eq_false c3
 clear c3
 obtain rfl := Option.some.inj H
 obtain ⟨hcz19_0, hcz19_1, hfz19_0, hfz19_1⟩ := zq2 BK551.out
 go_wp2
 go_ret
 exact ⟨zE, zG GE551.out⟩
/-! ### spec_IsAcyclic: function 24 -/
def spec_IsAcyclic.f (k : Nat) (a0_0 : Int) (a0_1 : ByteArray) : Option (Bool) := (spec_IsMatroid.f k a0_0 a0_1).bind fun t571 => (if t571 = true then ((spec_l4Acyclic.f k a0_0 a0_1).bind fun t572 => (some t572)) else (some false))
set_option maxHeartbeats 8000000 in
set_option maxRecDepth 100000 in
theorem spec_IsAcyclic.calls (k : Nat) (a0_0 : Int) (a0_1 : ByteArray) (r : Bool) (w : World) (h : spec_IsAcyclic.f k a0_0 a0_1 = some r) :
  Calls Try.prog 24 #[.agg #[.int .i64 a0_0, .string a0_1]] w fun e w' => e = .returned (.bool r) ∧ Below w.heap.size w w' := by
 have hu25 := Try.underlying25
 have HB := Aside0.mk (Below.refl w.heap.size w)
 have H : ((spec_IsMatroid.f k a0_0 a0_1).bind fun t571 => (if t571 = true then ((spec_l4Acyclic.f k a0_0 a0_1).bind fun t572 => (some t572)) else (some false))) = some r := h
 clear h
 obtain ⟨t571, A2, H⟩ := zO H
 by_cases c3 : t571 = true
 ·subst c3
  replace H := (if_pos rfl).symm.trans H
  obtain ⟨t572, A4, H⟩ := zO H
  obtain rfl := Option.some.inj H
  go_enter Try.func24, Try.ntmps24
  go_wp2_with (first | ((with_reducible refine gate_dst (N := 1) rfl ?_); refine zBx (N := 1) #[.int .i64 a0_0, .string a0_1] 25 ?_; intro gb570 hg w5 hbox hb; have BK570 := Aside0.mk (hbox); have GW570 := zS hg; have GE570 := zS hg; replace HB := zX hb; clear hb hbox hg; obtain ⟨hcz6_0, hcz6_1, hfz6_0, hfz6_1⟩ := zq2 BK570.out) | ((with_reducible refine gate_callee (f := 22) rfl ?_); refine zD (some 4) Try.func22 #[.agg #[.int .i64 a0_0, .string a0_1]] ?_; (with_reducible refine (spec_IsMatroid.calls k a0_0 a0_1 true _ A2.out).mono ?_); rintro e w7 ⟨rfl, hb⟩; refine ⟨_, rfl, ?_⟩; replace BK570 := zV BK570.out hb; replace HB := zX1 GE570.out hb; (try clear hb); obtain ⟨hcz8_0, hcz8_1, hfz8_0, hfz8_1⟩ := zq2 BK570.out) | (go_at_call 99; (with_reducible refine (spec_l4Acyclic.calls k a0_0 a0_1 t572 _ A4.out).mono ?_); rintro e w9 ⟨rfl, hb⟩; replace BK570 := zV BK570.out hb; replace HB := zX1 GE570.out hb; (try clear hb); (try clear hb2); (try clear hk); (try clear hi)))
  go_ret
  exact ⟨zE, zG GE570.out⟩
 replace c3 := Bool.eq_false_iff.mpr c3
 subst c3
 replace H := (if_neg zFf).symm.trans H
 obtain rfl := Option.some.inj H
 go_enter Try.func24, Try.ntmps24
 go_wp2_with (first | ((with_reducible refine gate_dst (N := 1) rfl ?_); refine zBx (N := 1) #[.int .i64 a0_0, .string a0_1] 25 ?_; intro gb570 hg w10 hbox hb; have BK570 := Aside0.mk (hbox); have GW570 := zS hg; have GE570 := zS hg; replace HB := zX hb; clear hb hbox hg; obtain ⟨hcz11_0, hcz11_1, hfz11_0, hfz11_1⟩ := zq2 BK570.out) | ((with_reducible refine gate_callee (f := 22) rfl ?_); refine zD (some 4) Try.func22 #[.agg #[.int .i64 a0_0, .string a0_1]] ?_; (with_reducible refine (spec_IsMatroid.calls k a0_0 a0_1 false _ A2.out).mono ?_); rintro e w12 ⟨rfl, hb⟩; refine ⟨_, rfl, ?_⟩; replace BK570 := zV BK570.out hb; replace HB := zX1 GE570.out hb; (try clear hb)))
 go_ret
 exact ⟨zE, zG GE570.out⟩
/-! ### spec_IsExtreme: function 56 -/
def spec_IsExtreme.f (k : Nat) (a0_0 : Int) (a0_1 : ByteArray) (a1 : Int) : Option (Bool) := (spec_IsAcyclic.f k a0_0 a0_1).bind fun t1072 => (if t1072 = true then ((spec_l1In.f a1 0 (wrap64 (a0_0 - 1))).bind fun t1073 => (if t1073 = true then (if 0 ≤ (IntKind.u64.wrap (a0_0)) then ((spec_l6In.f k a0_0 a0_1 (wrap64 ((shl .i64 1 (IntKind.u64.wrap (a0_0))) - 1)) a1).bind fun t1074 => (some (!t1074))) else (none)) else (some false))) else (some false))
set_option maxHeartbeats 8000000 in
set_option maxRecDepth 100000 in
theorem spec_IsExtreme.calls (k : Nat) (a0_0 : Int) (a0_1 : ByteArray) (a1 : Int) (r : Bool) (w : World) (h : spec_IsExtreme.f k a0_0 a0_1 a1 = some r) :
  Calls Try.prog 56 #[.agg #[.int .i64 a0_0, .string a0_1], .int .i64 a1] w fun e w' => e = .returned (.bool r) ∧ Below w.heap.size w w' := by
 have hu25 := Try.underlying25
 have HB := Aside0.mk (Below.refl w.heap.size w)
 have H : ((spec_IsAcyclic.f k a0_0 a0_1).bind fun t1072 => (if t1072 = true then ((spec_l1In.f a1 0 (wrap64 (a0_0 - 1))).bind fun t1073 => (if t1073 = true then (if 0 ≤ (IntKind.u64.wrap (a0_0)) then ((spec_l6In.f k a0_0 a0_1 (wrap64 ((shl .i64 1 (IntKind.u64.wrap (a0_0))) - 1)) a1).bind fun t1074 => (some (!t1074))) else (none)) else (some false))) else (some false))) = some r := h
 clear h
 obtain ⟨t1072, A3, H⟩ := zO H
 by_cases c4 : t1072 = true
 ·subst c4
  replace H := (if_pos rfl).symm.trans H
  obtain ⟨t1073, A5, H⟩ := zO H
  by_cases c6 : t1073 = true
  ·subst c6
   replace H := (if_pos rfl).symm.trans H
   obtain ⟨ji7, hji7⟩ : ∃ j_ : Int, (IntKind.u64.wrap (a0_0)) = j_ := ⟨_, rfl⟩
   replace H : (if 0 ≤ (ji7) then ((spec_l6In.f k a0_0 a0_1 (wrap64 ((shl .i64 1 (ji7)) - 1)) a1).bind fun t1074 => (some (!t1074))) else (none)) = some r := by first | (rw [hji7] at H; exact H) | (simp only [hji7] at H ⊢; exact H)
   (try rw [hji7] at A3)
   (try rw [hji7] at A5)
   by_cases c8 : 0 ≤ (ji7)
   ·rw [if_pos c8] at H
    have c8b0 := eq_true c8
    have c8b1 := decide_eq_true c8
    clear c8
    obtain ⟨ji9, hji9⟩ : ∃ j_ : Int, (shl .i64 1 (ji7)) = j_ := ⟨_, rfl⟩
    replace H : ((spec_l6In.f k a0_0 a0_1 (wrap64 ((ji9) - 1)) a1).bind fun t1074 => (some (!t1074))) = some r := by first | (rw [hji9] at H; exact H) | (simp only [hji9] at H ⊢; exact H)
    (try rw [hji9] at A3)
    (try rw [hji9] at A5)
    have hji9_ : (IntKind.i64.wrap (1 * 2 ^ min (ji7).toNat 64)) = ji9 := hji9
    have hji9z : (ji7) ≤ 64 → (IntKind.i64.wrap (1 * 2 ^ (ji7).toNat)) = ji9 := shl_small hji9
    have hji9u : (IntKind.i64.wrap (2 ^ min (ji7).toNat 64)) = ji9 := by have h_ := hji9_; rw [Int.one_mul] at h_; exact h_
    have hji9v : (ji7) ≤ 64 → (IntKind.i64.wrap (2 ^ (ji7).toNat)) = ji9 := fun hle_ => by have h_ := hji9z hle_; rw [Int.one_mul] at h_; exact h_
    have hji9y : (wrap64 (1 * 2 ^ min (ji7).toNat 64)) = ji9 := (i64_w _).symm.trans hji9_
    have hji9x : (ji7) ≤ 64 → (wrap64 (1 * 2 ^ (ji7).toNat)) = ji9 := fun h_ => (i64_w _).symm.trans (hji9z h_)
    obtain ⟨t1074, A10, H⟩ := zO H
    obtain rfl := Option.some.inj H
    go_enter Try.func56, Try.ntmps56
    go_wp2_with (first | ((with_reducible refine gate_dst (N := 2) rfl ?_); refine zBx (N := 2) #[.int .i64 a0_0, .string a0_1] 25 ?_; intro gb1071 hg w11 hbox hb; have BK1071 := Aside0.mk (hbox); have GW1071 := zS hg; have GE1071 := zS hg; replace HB := zX hb; clear hb hbox hg; obtain ⟨hcz12_0, hcz12_1, hfz12_0, hfz12_1⟩ := zq2 BK1071.out) | ((with_reducible refine gate_callee (f := 24) rfl ?_); refine zD (some 6) Try.func24 #[.agg #[.int .i64 a0_0, .string a0_1]] ?_; (with_reducible refine (spec_IsAcyclic.calls k a0_0 a0_1 true _ A3.out).mono ?_); rintro e w13 ⟨rfl, hb⟩; refine ⟨_, rfl, ?_⟩; replace BK1071 := zV BK1071.out hb; replace HB := zX1 GE1071.out hb; (try clear hb); obtain ⟨hcz14_0, hcz14_1, hfz14_0, hfz14_1⟩ := zq2 BK1071.out) | (go_at_call 89; (with_reducible refine (spec_l1In.calls a1 0 (wrap64 (a0_0 - 1)) true _ A5.out).mono ?_); rintro e w' ⟨rfl, ⟨nd, rfl⟩⟩) | (go_at_call 132; (with_reducible refine (spec_l6In.calls k a0_0 a0_1 (wrap64 ((ji9) - 1)) a1 t1074 _ A10.out).mono ?_); rintro e w15 ⟨rfl, hb⟩; replace BK1071 := zV BK1071.out hb; replace HB := zX1 GE1071.out hb; (try clear hb); (try clear hb2); (try clear hk); (try clear hi)))
    go_ret
    exact ⟨by first | rfl | (simp [errW_none, errW_some] <;> rfl) | (simp only [← hji7, ← hji9]; first | rfl | (simp [errW_none, errW_some] <;> rfl)) | (simp [*, errW_none, errW_some] <;> rfl), zG GE1071.out⟩
   rw [if_neg c8] at H
   exact absurd H (by simp)
  replace c6 := Bool.eq_false_iff.mpr c6
  subst c6
  replace H := (if_neg zFf).symm.trans H
  obtain rfl := Option.some.inj H
  go_enter Try.func56, Try.ntmps56
  go_wp2_with (first | ((with_reducible refine gate_dst (N := 2) rfl ?_); refine zBx (N := 2) #[.int .i64 a0_0, .string a0_1] 25 ?_; intro gb1071 hg w16 hbox hb; have BK1071 := Aside0.mk (hbox); have GW1071 := zS hg; have GE1071 := zS hg; replace HB := zX hb; clear hb hbox hg; obtain ⟨hcz17_0, hcz17_1, hfz17_0, hfz17_1⟩ := zq2 BK1071.out) | ((with_reducible refine gate_callee (f := 24) rfl ?_); refine zD (some 6) Try.func24 #[.agg #[.int .i64 a0_0, .string a0_1]] ?_; (with_reducible refine (spec_IsAcyclic.calls k a0_0 a0_1 true _ A3.out).mono ?_); rintro e w18 ⟨rfl, hb⟩; refine ⟨_, rfl, ?_⟩; replace BK1071 := zV BK1071.out hb; replace HB := zX1 GE1071.out hb; (try clear hb); obtain ⟨hcz19_0, hcz19_1, hfz19_0, hfz19_1⟩ := zq2 BK1071.out) | (go_at_call 89; (with_reducible refine (spec_l1In.calls a1 0 (wrap64 (a0_0 - 1)) false _ A5.out).mono ?_); rintro e w' ⟨rfl, ⟨nd, rfl⟩⟩))
  go_ret
  exact ⟨zE, zG GE1071.out⟩
 replace c4 := Bool.eq_false_iff.mpr c4
 subst c4
 replace H := (if_neg zFf).symm.trans H
 obtain rfl := Option.some.inj H
 go_enter Try.func56, Try.ntmps56
 go_wp2_with (first | ((with_reducible refine gate_dst (N := 2) rfl ?_); refine zBx (N := 2) #[.int .i64 a0_0, .string a0_1] 25 ?_; intro gb1071 hg w20 hbox hb; have BK1071 := Aside0.mk (hbox); have GW1071 := zS hg; have GE1071 := zS hg; replace HB := zX hb; clear hb hbox hg; obtain ⟨hcz21_0, hcz21_1, hfz21_0, hfz21_1⟩ := zq2 BK1071.out) | ((with_reducible refine gate_callee (f := 24) rfl ?_); refine zD (some 6) Try.func24 #[.agg #[.int .i64 a0_0, .string a0_1]] ?_; (with_reducible refine (spec_IsAcyclic.calls k a0_0 a0_1 false _ A3.out).mono ?_); rintro e w22 ⟨rfl, hb⟩; refine ⟨_, rfl, ?_⟩; replace BK1071 := zV BK1071.out hb; replace HB := zX1 GE1071.out hb; (try clear hb)))
 go_ret
 exact ⟨zE, zG GE1071.out⟩
end Go.Proofs.Ytckkfjdkaimmhaa.PX
