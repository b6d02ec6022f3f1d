/- A part of proofs about signs and points: what some functions answer, and that their calls answer so. No condition. -/
import Derived.Test.YtckkfjdkaimmhaaProg
import Derived.Test.YtckkfjdkaimmhaaV1
import Derived.Test.YtckkfjdkaimmhaaBzwlise1
import Derived.Test.YtckkfjdkaimmhaaBzwlise2
import Derived.Test.YtckkfjdkaimmhaaBzwlise3
set_option linter.unusedVariables false
set_option linter.unusedSimpArgs false
namespace Go.Proofs.Ytckkfjdkaimmhaa.PX
open Go.RowKit Go.Proofs.Ytckkfjdkaimmhaa.G Go.Proofs.YtckkfjdkaimmhaaW.PrintWords Go.Proofs.YtckkfjdkaimmhaaW.PrintLast Go.Proofs.YtckkfjdkaimmhaaW.PrintMore
attribute [local go_sem] max2_int min2_int max_two min_two max_three min_three max_four min_four   -- for this text's walks alone
set_option linter.unusedVariables false
set_option linter.unusedSimpArgs false
/-! ### spec_DrawAcyclicSets: function 14 -/
def spec_DrawAcyclicSets.f (k : Nat) (l0 : List Int) : Option (Int × ByteArray) := (spec_l1New.f k l0).bind fun bt434 => ((spec_l4Draw.f k bt434.1 bt434.2.1 bt434.2.2).bind fun bt438 => (some (bt438.1, bt438.2.1)))
theorem zl44_0 {p q p0 : Prop} (g : p) (g0 : p0) (h : p → p0 → q := by intro zg_ z0_; repeat (first | (with_reducible first | exact zg_ | apply below_alloc | apply pw_below_drewN | apply below_drew1 | refine below_set ?_ z0_) | exact zg_)) : q := h g g0
theorem zl44_1 {p q p0 : Prop} (g : p) (g0 : p0) (h : p → p0 → q := by intro zg_ z0_; repeat (first | (with_reducible first | exact zg_ | apply IsS110.alloc | apply IsS110.drewN | apply IsS110.drew | apply IsS110.set_1 | apply IsS110.set_2 | refine IsS110.far ?_ z0_ _) | exact zg_)) : q := h g g0
theorem zl44_2 {p q p0 p1 : Prop} (g : p) (g0 : p0) (g1 : p1) (h : p → p0 → p1 → q := by intro zg_ z0_ z1_; repeat (first | (with_reducible first | exact zg_ | apply below_alloc | apply pw_below_drewN | apply below_drew1 | refine below_set ?_ z0_ | refine below_set ?_ z1_) | exact zg_)) : q := h g g0 g1
set_option maxHeartbeats 8000000 in
set_option maxRecDepth 100000 in
theorem spec_DrawAcyclicSets.calls (k : Nat) (A0 : Option Addr) (c0 : Nat) (l0 : List Int) (r1 : Int) (r2 : ByteArray) (w : World) (hr0 : Kd.C (Kd.int .u8) w A0 l0.length l0) (hc0 : l0.length ≤ c0) (h : spec_DrawAcyclicSets.f k l0 = some (r1, r2)) :
  Calls Try.prog 14 #[.slice A0 l0.length c0] w fun e w' => e = .returned (.agg #[.int .i64 r1, .string r2]) ∧ Below w.heap.size w w' := by
 have hu25 := Try.underlying25
 have HR0 := Aside0.mk hr0
 have HC0 := Aside0.mk hc0
 clear hr0 hc0
 have HB := Aside0.mk (Below.refl w.heap.size w)
 have H : ((spec_l1New.f k l0).bind fun bt434 => ((spec_l4Draw.f k bt434.1 bt434.2.1 bt434.2.2).bind fun bt438 => (some (bt438.1, bt438.2.1)))) = some (r1, r2) := h
 clear h
 obtain ⟨⟨t434, t435, t436⟩, A2, H⟩ := zO H
 dsimp only at H
 obtain ⟨⟨t438, t439, t440, t441⟩, A3, H⟩ := zO H
 replace H : (some (t438, t439)) = some (r1, r2) := H
 simp only [Option.some.injEq, Prod.mk.injEq] at H
 obtain ⟨rfl, rfl⟩ := H
 go_enter Try.func14, Try.ntmps14
 go_wp2_with (first | ((with_reducible refine gate_dst (N := 2) rfl ?_); refine zBx (N := 2) #[.int .i64 0, .string (⟨#[]⟩ : ByteArray)] 25 ?_; intro gb433 hg w4 hbox hb; have BK433 := Aside0.mk (hbox); have GW433 := zS hg; have GE433 := zS hg; replace HB := zX hb; clear hb hbox hg) | ((with_reducible refine gate_callee (f := 81) rfl ?_); refine zD (some 4) Try.func81 #[.slice A0 l0.length c0] ?_; (with_reducible refine (spec_l1New.calls k _ _ l0 t434 t435 t436 w _ ?side1 ?side2 ?side3 A2.out).mono ?_); (case side1 => exact (zl44_0 HB.out GE433.out)); (case side2 => exact HR0.out); (case side3 => exact HC0.out); rintro e w5 ⟨g437, rfl, hi, hb, hb2⟩; refine ⟨_, rfl, ?_⟩; have HI437 := Aside0.mk (hi); have NB437_433 := Aside0.mk (IsS110.ne_blk hi (blk_below (g := gb433) (o := .cells #[.int .i64 0, .string (⟨#[]⟩ : ByteArray)] 25 (0, 0)) (zK BK433.out) hb2) (by decide)); have NB433_437 := Aside0.mk (Ne.symm (IsS110.ne_blk hi (blk_below (g := gb433) (o := .cells #[.int .i64 0, .string (⟨#[]⟩ : ByteArray)] 25 (0, 0)) (zK BK433.out) hb2) (by decide))); replace BK433 := Aside0.mk (blk_below (g := gb433) (o := .cells #[.int .i64 0, .string (⟨#[]⟩ : ByteArray)] 25 (0, 0)) (zK BK433.out) hb2); replace HB := Aside0.mk (hb); (try clear hb); (try clear hb2); (try clear hi)) | ((with_reducible refine gate_callee (f := 80) rfl ?_); refine zD (some 5) Try.func80 #[.pointer (some ⟨g437, 0, none⟩)] ?_; (with_reducible refine (spec_l4Draw.calls k g437 t434 t435 t436 t438 t439 t440 t441 w _ ?side1 ?side2 A3.out).mono ?_); (case side1 => exact (zl44_1 HI437.out NB437_433.out)); (case side2 => exact (zl44_2 HB.out (IsS110.ge HI437.out) GE433.out)); rintro e w6 ⟨rfl, hi, hb, hk⟩; refine ⟨_, rfl, ?_⟩; replace BK433 := zKB hk BK433.out NB433_437.out; replace HI437 := Aside0.mk (hi); replace HB := Aside0.mk (hb); (try clear hb); (try clear hk); (try clear hi); have hnb7 := NB433_437.out; have hnc7 := NB437_433.out; obtain ⟨hcz8_0, hcz8_1, hfz8_0, hfz8_1⟩ := zq2 BK433.out))
 refine bodyPost_ret (results_cell_row rfl _ _ gb433 25 #[.int .i64 t438, .string t439] (0, 0) _ rfl (zk0 BK433.out) Try.underlying25 rfl (by kernel_rfl)) rfl ?_
 exact ⟨zE, zG2 (IsS110.ge HI437.out) GE433.out⟩
/-! ### impl_chi_circuit: function 96 -/
def impl_chi_circuit.l0 : Nat → List Int → List Int → Int → Int → Option (ByteArray)
 | 0, _, _, _, _ => none
 | k + 1, x11, x56, x57, x58 => if x58 < x57 then (if 0 ≤ x58 then (if x58 < (x56.length : Int) then (if (rd x56 x58) > 0 then (if x11.length < 140737488355328 then (impl_chi_circuit.l0 k (x11 ++ [43]) x56 x57 (wrap64 (x58 + 1))) else (none)) else (if x11.length < 140737488355328 then (impl_chi_circuit.l0 k (x11 ++ [45]) x56 x57 (wrap64 (x58 + 1))) else (none))) else (none)) else (none)) else (if 0 < (x11.length : Int) then (if (rd x11 0) = 45 then ((impl_opposite.f (strOfNums x11)).bind fun t457 => (some t457)) else (some (strOfNums x11))) else (none))
def impl_chi_circuit.f (k : Nat) (l0 : List Int) (a1 : Int) (a2 : Int) (a3 : Int) (a4 : Int) : Option (ByteArray) := if 0 ≤ a2 then (if a2 < 7 then (if 0 ≤ a3 then (if a3 < 7 then (if 0 ≤ a4 then (if a4 < 7 then (if 0 ≤ a1 then (if a1 < 7 then ((some (([rd3 l0 a2 a3 a4, wrap64 (-(rd3 l0 a1 a3 a4)), rd3 l0 a1 a2 a4, wrap64 (-(rd3 l0 a1 a2 a3))] : List Int) : List Int)).bind fun y446 => (impl_chi_circuit.l0 k ([] : List Int) y446 (y446.length : Int) 0)) else (none)) else (none)) else (none)) else (none)) else (none)) else (none)) else (none)) else (none)
theorem impl_chi_circuit.mono_l : ∀ k, (∀ y0 y1 y2 y3, LeO (impl_chi_circuit.l0 k y0 y1 y2 y3) (impl_chi_circuit.l0 (k + 1) y0 y1 y2 y3))
 | 0 => fun _ _ _ _ r h => by simp [impl_chi_circuit.l0] at h
 | k + 1 => by
  have ih0 := impl_chi_circuit.mono_l k
  ·intro y0 y1 y2 y3
   unfold impl_chi_circuit.l0
   repeat' first
   | (with_reducible first | exact ih0 .. | exact LeO.refl _ | exact LeO.none _ | refine LeO.ite ?_ ?_ | refine LeO.bind ?_ (fun _ => ?_))
   | exact ih0 .. | exact LeO.none _ | refine LeO.ite ?_ ?_ | refine LeO.bind ?_ (fun _ => ?_)
def impl_chi_circuit.T2 : Bool × List (List Nat × List Nat) := (true, [([], []), ([], []), ([], []), ([], []), ([0], [0]), ([4], [4]), ([5, 1], [1, 5]), ([6, 2], [2, 6]), ([7, 3], [3, 7]), ([8], [8]), ([], []), ([], []), ([], []), ([], []), ([10], [10]), ([14], [14]), ([15, 11], [11, 15]), ([16, 12], [12, 16]), ([17, 13], [13, 17]), ([18], [18]), ([19], [19]), ([], []), ([], []), ([], []), ([], []), ([21], [21]), ([25], [25]), ([26, 22], [22, 26]), ([27, 23], [23, 27]), ([28, 24], [24, 28]), ([29], [29]), ([], []), ([], []), ([], []), ([], []), ([31], [31]), ([35], [35]), ([36, 32], [32, 36]), ([37, 33], [33, 37]), ([38, 34], [34, 38]), ([39], [39]), ([40], [40]), ([9, 20, 30, 41], [9, 20, 30, 41]), ([42], [42]), ([], [])])
def impl_chi_circuit.B2 : List Nat := [0, 0, 0, 0, 1, 17, 51, 119, 255, 511, 0, 0, 0, 0, 1024, 17408, 52224, 121856, 261120, 523264, 1047552, 0, 0, 0, 0, 2097152, 35651584, 106954752, 249561088, 534773760, 1071644672, 0, 0, 0, 0, 2147483648, 36507222016, 109521666048, 255550554112, 547608330240, 1097364144128, 2196875771904, 4398046511103, 8796093022207, 0]
theorem impl_chi_circuit.tab2 : rtab .any (opsOf Try.f96 2) = impl_chi_circuit.T2 := by kernel_rfl
theorem impl_chi_circuit.bits2 : waitsOk impl_chi_circuit.T2.2 impl_chi_circuit.B2 = true := by kernel_rfl
set_option maxHeartbeats 8000000 in
set_option maxRecDepth 100000 in
theorem impl_chi_circuit.calls (k : Nat) (g0 : Nat) (l0 : List Int) (a1 : Int) (a2 : Int) (a3 : Int) (a4 : Int) (r : ByteArray) (w : World) (hr0 : Kd.C (Kd.int .i64) w (some ⟨g0, 0, none⟩) l0.length l0) (hc0 : l0.length = 344) (h : impl_chi_circuit.f k l0 a1 a2 a3 a4 = some r) :
  Calls Try.prog 96 #[.pointer (some ⟨g0, 0, none⟩), .int .i64 a1, .int .i64 a2, .int .i64 a3, .int .i64 a4] w fun e w' => e = .returned (.string r) ∧ Below w.heap.size w w' := by
 have hu115 := Try.underlying115
 have hu113 := Try.underlying113
 have hu112 := Try.underlying112
 have hu111 := Try.underlying111
 have HR0 := Aside0.mk hr0
 have HC0 := Aside0.mk hc0
 clear hr0 hc0
 have HB := Aside0.mk (Below.refl w.heap.size w)
 have H : (if 0 ≤ a2 then (if a2 < 7 then (if 0 ≤ a3 then (if a3 < 7 then (if 0 ≤ a4 then (if a4 < 7 then (if 0 ≤ a1 then (if a1 < 7 then ((some (([rd3 l0 a2 a3 a4, wrap64 (-(rd3 l0 a1 a3 a4)), rd3 l0 a1 a2 a4, wrap64 (-(rd3 l0 a1 a2 a3))] : List Int) : List Int)).bind fun y446 => (impl_chi_circuit.l0 k ([] : List Int) y446 (y446.length : Int) 0)) else (none)) else (none)) else (none)) else (none)) else (none)) else (none)) else (none)) else (none)) = some r := h
 clear h
 by_cases c6 : 0 ≤ a2
 ·rw [if_pos c6] at H
  have c6b0 : decide (0 ≤ a2) = true := decide_eq_true c6
  clear c6
  by_cases c7 : a2 < 7
  ·rw [if_pos c7] at H
   have c7b0 : decide (a2 < 7) = true := decide_eq_true c7
   clear c7
   by_cases c8 : 0 ≤ a3
   ·rw [if_pos c8] at H
    have c8b0 : decide (0 ≤ a3) = true := decide_eq_true c8
    clear c8
    by_cases c9 : a3 < 7
    ·rw [if_pos c9] at H
     have c9b0 : decide (a3 < 7) = true := decide_eq_true c9
     clear c9
     by_cases c10 : 0 ≤ a4
     ·rw [if_pos c10] at H
      have c10b0 : decide (0 ≤ a4) = true := decide_eq_true c10
      clear c10
      by_cases c11 : a4 < 7
      ·rw [if_pos c11] at H
       have c11b0 : decide (a4 < 7) = true := decide_eq_true c11
       clear c11
       by_cases c12 : 0 ≤ a1
       ·rw [if_pos c12] at H
        have c12b0 : decide (0 ≤ a1) = true := decide_eq_true c12
        clear c12
        by_cases c13 : a1 < 7
        ·rw [if_pos c13] at H
         have c13b0 : decide (a1 < 7) = true := decide_eq_true c13
         clear c13
         obtain ⟨y446, hy446⟩ : ∃ y_ : List Int, y_ = (([rd3 l0 a2 a3 a4, wrap64 (-(rd3 l0 a1 a3 a4)), rd3 l0 a1 a2 a4, wrap64 (-(rd3 l0 a1 a2 a3))] : List Int)) := ⟨_, rfl⟩
         replace H : (impl_chi_circuit.l0 k ([] : List Int) y446 (y446.length : Int) 0) = some r := by first | (rw [hy446]; with_reducible exact H) | (have H2_ := (Option.bind_some _ _).symm.trans H; rw [hy446]; with_reducible exact H2_) | (have H2_ := (Option.bind_some _ _).symm.trans H; with_reducible exact H2_) | with_reducible exact H | (rw [hy446]; exact H) | exact H
         have Ny446 := Aside0.mk hy446
         clear hy446
         have H' := Aside0.mk H; clear H
         go_enter Try.func96, Try.ntmps96
         try go_wp2
         replace HB := Aside0.mk (below_drew1 HB.out)
         have pz442_0 : 0 ≤ (a2 : Int) := zA
         have pz442_1 : 0 ≤ (a3 : Int) := zA
         have pz442_2 : 0 ≤ (a4 : Int) := zA
         have qz442_0 : (a2 : Int) < 7 := zA
         have qz442_1 : (a3 : Int) < 7 := zA
         have qz442_2 : (a4 : Int) < 7 := zA
         have hL442 := HC0.out
         have dp442 : decide (0 ≤ ((1 + a2 * 49 + a3 * 7 + a4) : Int)) = true := decide_eq_true (by omega)
         have dq442 : decide ((1 + a2 * 49 + a3 * 7 + a4) < (l0.length : Int)) = true := decide_eq_true (by omega)
         clear hL442
         have p442 : 0 ≤ ((1 + a2 * 49 + a3 * 7 + a4) : Int) := zA
         have q442 : (1 + a2 * 49 + a3 * 7 + a4) < (l0.length : Int) := zA
         obtain ⟨ad442, e442, hx442_0⟩ := Kd.at_int HR0.out (1 + a2 * 49 + a3 * 7 + a4) p442 q442
         obtain rfl : (⟨g0, 0, none⟩ : Addr) = ad442 := (by injection e442)
         (first | simp only [add_plain] at hx442_0 | simp only [add_at] at hx442_0 | simp only [Addr.add, Nat.zero_add] at hx442_0 | skip)
         have hw442_0 := hx442_0
         replace hx442_0 := (HB.out.cell (World.block_lt_of_cell? w _ hx442_0)).trans hx442_0
         replace p442 := eq_true p442
         replace q442 := eq_true q442
         clear dp442 dq442
         clear p442 q442
         rw [show ((1 + a2 * 49 + a3 * 7 + a4) : Int).toNat = 1 + (a2).toNat * 49 + (a3).toNat * 7 + (a4).toNat from by omega] at hx442_0
         change _ = some (Value.int .i64 (rd3 l0 a2 a3 a4)) at hx442_0
         rw [show ((1 + a2 * 49 + a3 * 7 + a4) : Int).toNat = 1 + (a2).toNat * 49 + (a3).toNat * 7 + (a4).toNat from by omega] at hw442_0
         change _ = some (Value.int .i64 (rd3 l0 a2 a3 a4)) at hw442_0
         replace pz442_0 := eq_true pz442_0
         replace pz442_1 := eq_true pz442_1
         replace pz442_2 := eq_true pz442_2
         replace qz442_0 := eq_true qz442_0
         replace qz442_1 := eq_true qz442_1
         replace qz442_2 := eq_true qz442_2
         have pz443_0 : 0 ≤ (a1 : Int) := zA
         have pz443_1 : 0 ≤ (a3 : Int) := zA
         have pz443_2 : 0 ≤ (a4 : Int) := zA
         have qz443_0 : (a1 : Int) < 7 := zA
         have qz443_1 : (a3 : Int) < 7 := zA
         have qz443_2 : (a4 : Int) < 7 := zA
         have hL443 := HC0.out
         have dp443 : decide (0 ≤ ((1 + a1 * 49 + a3 * 7 + a4) : Int)) = true := decide_eq_true (by omega)
         have dq443 : decide ((1 + a1 * 49 + a3 * 7 + a4) < (l0.length : Int)) = true := decide_eq_true (by omega)
         clear hL443
         have p443 : 0 ≤ ((1 + a1 * 49 + a3 * 7 + a4) : Int) := zA
         have q443 : (1 + a1 * 49 + a3 * 7 + a4) < (l0.length : Int) := zA
         obtain ⟨ad443, e443, hx443_0⟩ := Kd.at_int HR0.out (1 + a1 * 49 + a3 * 7 + a4) p443 q443
         obtain rfl : (⟨g0, 0, none⟩ : Addr) = ad443 := (by injection e443)
         (first | simp only [add_plain] at hx443_0 | simp only [add_at] at hx443_0 | simp only [Addr.add, Nat.zero_add] at hx443_0 | skip)
         have hw443_0 := hx443_0
         replace hx443_0 := (HB.out.cell (World.block_lt_of_cell? w _ hx443_0)).trans hx443_0
         replace p443 := eq_true p443
         replace q443 := eq_true q443
         clear dp443 dq443
         clear p443 q443
         rw [show ((1 + a1 * 49 + a3 * 7 + a4) : Int).toNat = 1 + (a1).toNat * 49 + (a3).toNat * 7 + (a4).toNat from by omega] at hx443_0
         change _ = some (Value.int .i64 (rd3 l0 a1 a3 a4)) at hx443_0
         rw [show ((1 + a1 * 49 + a3 * 7 + a4) : Int).toNat = 1 + (a1).toNat * 49 + (a3).toNat * 7 + (a4).toNat from by omega] at hw443_0
         change _ = some (Value.int .i64 (rd3 l0 a1 a3 a4)) at hw443_0
         replace pz443_0 := eq_true pz443_0
         replace pz443_1 := eq_true pz443_1
         replace pz443_2 := eq_true pz443_2
         replace qz443_0 := eq_true qz443_0
         replace qz443_1 := eq_true qz443_1
         replace qz443_2 := eq_true qz443_2
         have pz444_0 : 0 ≤ (a1 : Int) := zA
         have pz444_1 : 0 ≤ (a2 : Int) := zA
         have pz444_2 : 0 ≤ (a4 : Int) := zA
         have qz444_0 : (a1 : Int) < 7 := zA
         have qz444_1 : (a2 : Int) < 7 := zA
         have qz444_2 : (a4 : Int) < 7 := zA
         have hL444 := HC0.out
         have dp444 : decide (0 ≤ ((1 + a1 * 49 + a2 * 7 + a4) : Int)) = true := decide_eq_true (by omega)
         have dq444 : decide ((1 + a1 * 49 + a2 * 7 + a4) < (l0.length : Int)) = true := decide_eq_true (by omega)
         clear hL444
         have p444 : 0 ≤ ((1 + a1 * 49 + a2 * 7 + a4) : Int) := zA
         have q444 : (1 + a1 * 49 + a2 * 7 + a4) < (l0.length : Int) := zA
         obtain ⟨ad444, e444, hx444_0⟩ := Kd.at_int HR0.out (1 + a1 * 49 + a2 * 7 + a4) p444 q444
         obtain rfl : (⟨g0, 0, none⟩ : Addr) = ad444 := (by injection e444)
         (first | simp only [add_plain] at hx444_0 | simp only [add_at] at hx444_0 | simp only [Addr.add, Nat.zero_add] at hx444_0 | skip)
         have hw444_0 := hx444_0
         replace hx444_0 := (HB.out.cell (World.block_lt_of_cell? w _ hx444_0)).trans hx444_0
         replace p444 := eq_true p444
         replace q444 := eq_true q444
         clear dp444 dq444
         clear p444 q444
         rw [show ((1 + a1 * 49 + a2 * 7 + a4) : Int).toNat = 1 + (a1).toNat * 49 + (a2).toNat * 7 + (a4).toNat from by omega] at hx444_0
         change _ = some (Value.int .i64 (rd3 l0 a1 a2 a4)) at hx444_0
         rw [show ((1 + a1 * 49 + a2 * 7 + a4) : Int).toNat = 1 + (a1).toNat * 49 + (a2).toNat * 7 + (a4).toNat from by omega] at hw444_0
         change _ = some (Value.int .i64 (rd3 l0 a1 a2 a4)) at hw444_0
         replace pz444_0 := eq_true pz444_0
         replace pz444_1 := eq_true pz444_1
         replace pz444_2 := eq_true pz444_2
         replace qz444_0 := eq_true qz444_0
         replace qz444_1 := eq_true qz444_1
         replace qz444_2 := eq_true qz444_2
         have pz445_0 : 0 ≤ (a1 : Int) := zA
         have pz445_1 : 0 ≤ (a2 : Int) := zA
         have pz445_2 : 0 ≤ (a3 : Int) := zA
         have qz445_0 : (a1 : Int) < 7 := zA
         have qz445_1 : (a2 : Int) < 7 := zA
         have qz445_2 : (a3 : Int) < 7 := zA
         have hL445 := HC0.out
         have dp445 : decide (0 ≤ ((1 + a1 * 49 + a2 * 7 + a3) : Int)) = true := decide_eq_true (by omega)
         have dq445 : decide ((1 + a1 * 49 + a2 * 7 + a3) < (l0.length : Int)) = true := decide_eq_true (by omega)
         clear hL445
         have p445 : 0 ≤ ((1 + a1 * 49 + a2 * 7 + a3) : Int) := zA
         have q445 : (1 + a1 * 49 + a2 * 7 + a3) < (l0.length : Int) := zA
         obtain ⟨ad445, e445, hx445_0⟩ := Kd.at_int HR0.out (1 + a1 * 49 + a2 * 7 + a3) p445 q445
         obtain rfl : (⟨g0, 0, none⟩ : Addr) = ad445 := (by injection e445)
         (first | simp only [add_plain] at hx445_0 | simp only [add_at] at hx445_0 | simp only [Addr.add, Nat.zero_add] at hx445_0 | skip)
         have hw445_0 := hx445_0
         replace hx445_0 := (HB.out.cell (World.block_lt_of_cell? w _ hx445_0)).trans hx445_0
         replace p445 := eq_true p445
         replace q445 := eq_true q445
         clear dp445 dq445
         clear p445 q445
         rw [show ((1 + a1 * 49 + a2 * 7 + a3) : Int).toNat = 1 + (a1).toNat * 49 + (a2).toNat * 7 + (a3).toNat from by omega] at hx445_0
         change _ = some (Value.int .i64 (rd3 l0 a1 a2 a3)) at hx445_0
         rw [show ((1 + a1 * 49 + a2 * 7 + a3) : Int).toNat = 1 + (a1).toNat * 49 + (a2).toNat * 7 + (a3).toNat from by omega] at hw445_0
         change _ = some (Value.int .i64 (rd3 l0 a1 a2 a3)) at hw445_0
         replace pz445_0 := eq_true pz445_0
         replace pz445_1 := eq_true pz445_1
         replace pz445_2 := eq_true pz445_2
         replace qz445_0 := eq_true qz445_0
         replace qz445_1 := eq_true qz445_1
         replace qz445_2 := eq_true qz445_2
         refine start_ (n := 45) (S := fun w' => w'.cell? ⟨g0, 1 + (a2).toNat * 49 + (a3).toNat * 7 + (a4).toNat, none⟩ = some (.int .i64 (rd3 l0 a2 a3 a4)) ∧ w'.cell? ⟨g0, 1 + (a1).toNat * 49 + (a3).toNat * 7 + (a4).toNat, none⟩ = some (.int .i64 (rd3 l0 a1 a3 a4)) ∧ w'.cell? ⟨g0, 1 + (a1).toNat * 49 + (a2).toNat * 7 + (a4).toNat, none⟩ = some (.int .i64 (rd3 l0 a1 a2 a4)) ∧ w'.cell? ⟨g0, 1 + (a1).toNat * 49 + (a2).toNat * 7 + (a3).toNat, none⟩ = some (.int .i64 (rd3 l0 a1 a2 a3))) (ds := []) #[false, false, false, false, false, false, false, false, false, false, false, false, false, false, false, false, false, false, false, false, false, false, false, false, false, false, false, false, false, false, false, false, false, false, false, false, false, false, false, false, false, false, false, false, false] (by kernel_rfl) rfl rfl ⟨((HB.out.cell (World.block_lt_of_cell? w _ hw442_0)).trans hw442_0), ((HB.out.cell (World.block_lt_of_cell? w _ hw443_0)).trans hw443_0), ((HB.out.cell (World.block_lt_of_cell? w _ hw444_0)).trans hw444_0), ((HB.out.cell (World.block_lt_of_cell? w _ hw445_0)).trans hw445_0)⟩ (fun hHeld => ?_); refine with_tabW impl_chi_circuit.tab2 impl_chi_circuit.bits2 (fun HT_ HW_ => ?_)
         generalize w.drew = w14 at HB hx442_0 hx443_0 hx444_0 hx445_0 hHeld ⊢
         refine zP 0 (some 14) rfl rfl ?_
         refine zP 1 (some 15) rfl rfl ?_
         refine zP 2 (some 16) rfl rfl ?_
         refine zP 3 (some 17) rfl rfl ?_
         refine zP 4 (some 18) rfl rfl ?_
         refine zP 5 (some 19) rfl rfl ?_
         refine zP 6 (some 20) rfl rfl ?_
         refine zP 7 (some 21) rfl rfl ?_
         refine zP 8 (some 22) rfl rfl ?_
         refine zP 10 (some 24) rfl rfl ?_
         refine zP 11 (some 25) rfl rfl ?_
         refine zP 12 (some 26) rfl rfl ?_
         refine zP 13 (some 27) rfl rfl ?_
         refine zP 14 (some 28) rfl rfl ?_
         refine zP 15 (some 29) rfl rfl ?_
         refine zP 16 (some 30) rfl rfl ?_
         refine zP 17 (some 31) rfl rfl ?_
         refine zP 18 (some 32) rfl rfl ?_
         refine zP 21 (some 35) rfl rfl ?_
         refine zP 22 (some 36) rfl rfl ?_
         refine zP 23 (some 37) rfl rfl ?_
         refine zP 24 (some 38) rfl rfl ?_
         refine zP 25 (some 39) rfl rfl ?_
         refine zP 26 (some 40) rfl rfl ?_
         refine zP 27 (some 41) rfl rfl ?_
         refine zP 28 (some 42) rfl rfl ?_
         refine zP 29 (some 43) rfl rfl ?_
         refine zP 31 (some 45) rfl rfl ?_
         refine zP 32 (some 46) rfl rfl ?_
         refine zP 33 (some 47) rfl rfl ?_
         refine zP 34 (some 48) rfl rfl ?_
         refine zP 35 (some 49) rfl rfl ?_
         refine zP 36 (some 50) rfl rfl ?_
         refine zP 37 (some 51) rfl rfl ?_
         refine zP 38 (some 52) rfl rfl ?_
         refine zP 39 (some 53) rfl rfl ?_
         refine zP 44 (some 58) rfl rfl ?_
         refine zY4 9 (some 23) rfl rfl hHeld ?_
         refine zY4 19 (some 33) rfl rfl hHeld ?_
         refine zP 20 (some 34) rfl rfl ?_
         refine zY4 30 (some 44) rfl rfl hHeld ?_
         refine zY4 40 (some 54) rfl rfl hHeld ?_
         refine zP 41 (some 55) rfl rfl ?_
         refine zU 42 (some 56) rfl rfl (fun K hK => ?_)
         refine Kd.R_lit_step (Kd.int .i64) _ 3 ?hg (N := 56) ?hd (xs := ([rd3 l0 a2 a3 a4, wrap64 (-(rd3 l0 a1 a3 a4)), rd3 l0 a1 a2 a4, wrap64 (-(rd3 l0 a1 a2 a3))] : List Int)) (inner := [.int .i64 (rd3 l0 a2 a3 a4), .int .i64 (wrap64 (-(rd3 l0 a1 a3 a4))), .int .i64 (rd3 l0 a1 a2 a4), .int .i64 (wrap64 (-(rd3 l0 a1 a2 a3)))]) (ok := fun _ => True) (okp := fun _ => True) ?hr ?hp (fun _ hk => hk) trivial (Below.refl _ _) (Nat.le_refl _) (by simp) ?_; (case hd => rfl); (case hg => rfl); (case hr => first | (go_simp; done) | (go_simp; rfl)); (case hp => exact (Reps.one (show Kd.M (Kd.int .i64) _ _ _ (rd3 l0 a2 a3 a4) [.int .i64 (rd3 l0 a2 a3 a4)] from rfl) (Reps.one (show Kd.M (Kd.int .i64) _ _ _ (wrap64 (-(rd3 l0 a1 a3 a4))) [.int .i64 (wrap64 (-(rd3 l0 a1 a3 a4)))] from rfl) (Reps.one (show Kd.M (Kd.int .i64) _ _ _ (rd3 l0 a1 a2 a4) [.int .i64 (rd3 l0 a1 a2 a4)] from rfl) (Reps.one (show Kd.M (Kd.int .i64) _ _ _ (wrap64 (-(rd3 l0 a1 a2 a3))) [.int .i64 (wrap64 (-(rd3 l0 a1 a2 a3)))] from rfl) (Reps.none _ _))))))
         intro v447 w15 ho16 hb hg_ hnew_
         clear hg_ hnew_
         (first | rw [← Ny446.out] at ho16 | (simp only [Int.reduceToNat] at ho16; rw [← Ny446.out] at ho16))
         have HO448 := Aside0.mk (Kd.R_lower ho16 (below_size zB))
         replace HB := zX hb
         clear hb ho16
         obtain ⟨Ao17, co17, eo17⟩ := Kd.R_slice HO448.out
         (first | subst eo17 | (injection eo17 with f1_ f2_ f3_; have f4_ := f1_.symm; have f5_ := f3_.symm; clear f1_ f2_ f3_; subst f4_; subst f5_))
         refine hK.out _ _ ⟨((HB.out.cell (World.block_lt_of_cell? w _ hw442_0)).trans hw442_0), ((HB.out.cell (World.block_lt_of_cell? w _ hw443_0)).trans hw443_0), ((HB.out.cell (World.block_lt_of_cell? w _ hw444_0)).trans hw444_0), ((HB.out.cell (World.block_lt_of_cell? w _ hw445_0)).trans hw445_0)⟩ (fun hHeld => ?_)
         clear hK K
         refine zN ?_
         refine zP 43 (some 57) rfl rfl ?_
         refine done_ (done_of HT_.out (by kernel_rfl)) ?_
         try go_wp2
         go_loopg [11, 58] k (fun kq v11 v58 w' => ∃ (x11_1 : List Int) (x58_1 : Int), v58 = .int .i64 x58_1 ∧ Aside0 (impl_chi_circuit.l0 kq x11_1 y446 (y446.length : Int) x58_1 = some r) ∧ Aside0 (kq ≤ k) ∧ Aside0 (Kd.R (Kd.int .u8) 5 w' w.heap.size (fun _ => True) v11 x11_1) ∧ Aside0 (Kd.R (Kd.int .i64) 3 w' w.heap.size (fun _ => True) (.slice Ao17 y446.length co17) y446) ∧ Aside0 (Below w.heap.size w w'))
         case atStart => exact ⟨(([] : List Int)), (0), zF, H', ⟨Nat.le_refl _⟩, ⟨by first | exact Kd.R_nil _ _ _ _ _ | exact Kd.N_nil _ _ _ _ _ | exact Kd.V_nil _ _ _ _ _ | exact Kd.Q_nil _ _ _ _ _ | exact Kd.S_nil _ _ _ _ _⟩, ⟨zR HO448.out⟩, ⟨zB⟩⟩
         case round =>
         clear H'
         try clear c6
         try clear c6b0
         try clear c7
         try clear c7b0
         try clear c8
         try clear c8b0
         try clear c9
         try clear c9b0
         try clear c10
         try clear c10b0
         try clear c11
         try clear c11b0
         try clear c12
         try clear c12b0
         try clear c13
         try clear c13b0
         try clear hx442_0
         try clear hx443_0
         try clear hx444_0
         try clear hx445_0
         try clear p442
         try clear p443
         try clear p444
         try clear p445
         try clear q442
         try clear q443
         try clear q444
         try clear q445
         obtain ⟨x11_1, x58_1, rfl, HA, HK1, HO_11, HO_56, HB⟩ := hrel
         cases gk with
         | zero => exact absurd HA.out (by simp [impl_chi_circuit.l0])
         | succ k1 =>
         have H := HA.out
         clear HA
         simp only [impl_chi_circuit.l0] at H
         by_cases c18 : x58_1 < (y446.length : Int)
         ·rw [if_pos c18] at H
          have c18b0 : decide (x58_1 < (y446.length : Int)) = true := decide_eq_true c18
          clear c18
          by_cases c19 : 0 ≤ x58_1
          ·rw [if_pos c19] at H
           have c19b0 : decide (0 ≤ x58_1) = true := decide_eq_true c19
           clear c19
           by_cases c20 : x58_1 < (y446.length : Int)
           ·rw [if_pos c20] at H
            have c20b0 : decide (x58_1 < (y446.length : Int)) = true := decide_eq_true c20
            clear c20
            by_cases c21 : (rd y446 x58_1) > 0
            ·rw [if_pos c21] at H
             have c21b0 : decide (0 < (rd y446 x58_1)) = true := decide_eq_true c21
             clear c21
             by_cases c22 : x11_1.length < 140737488355328
             ·rw [if_pos c22] at H
              have LMc22 := Aside0.mk c22
              clear c22
              obtain ⟨y450, hy450⟩ : ∃ y_ : List Int, y_ = (x11_1 ++ [43]) := ⟨_, rfl⟩
              replace H : (impl_chi_circuit.l0 k1 y450 y446 (y446.length : Int) (wrap64 (x58_1 + 1))) = some r := by first | (rw [hy450]; with_reducible exact H) | (have H2_ := (Option.bind_some _ _).symm.trans H; rw [hy450]; with_reducible exact H2_) | (have H2_ := (Option.bind_some _ _).symm.trans H; with_reducible exact H2_) | with_reducible exact H | (rw [hy450]; exact H) | exact H
              have Ny450 := Aside0.mk hy450
              clear hy450
              have H' := Aside0.mk H; clear H
              have p449 : 0 ≤ (x58_1 : Int) := zA
              have q449 : x58_1 < (y446.length : Int) := zA
              obtain ⟨ad449, e449, hx449_0⟩ := Kd.at_int (Kd.R_reads' HO_56.out).2.2 x58_1 p449 q449
              cases e449
              replace p449 := eq_true p449
              replace q449 := eq_true q449
              go_wp2_with (first | ((with_reducible refine gate_builtin (b := .append) (xs := #[.tmp 64, .tmp 65]) rfl ?_); at_builtin; refine Kd.R_append (Kd.int .u8) (w0 := w) w.heap.size rfl (.tmp 64) (.tmp 65) 22 5 (.int .u8 0) 1 rfl Try.underlying22 info5 rfl (by decide) (by omega) u11 x11_1 43 [.int .u8 43] (fun _ => True) (fun _ => False) rfl rfl ?aP (fun _ hk => hk.elim) ?aF ?aO ?aB ?aS ?aL ?_; (case aP => exact rfl); (case aB => exact zB); (case aF => exact (fun _ _ => trivial)); (case aO => exact (zR HO_11.out)); (case aS => exact (below_size zB)); (case aL => have := LMc22.out; omega); intro v451 w23 ho hb hg hat; rw [← Ny450.out] at ho; have n0_ := Aside0.mk (Kd.R_over' (zR HO_56.out) (Kd.R_typed (zR HO_11.out)) (by decide) hg); have n1_ := Aside0.mk (hb); have n2_ := Aside0.mk (ho); clear HO_56; clear HB; clear HO_11; have HO_56 := n0_; have HB := n1_; have HO452 := n2_; clear n0_ n1_ n2_; clear ho hb hg hat))
              go_roundg k1
              case measure => have := HK1.out; omega
              case rel => exact ⟨(y450), (wrap64 (x58_1 + 1)), zF, H', ⟨by have := HK1.out; omega⟩, ⟨zR HO452.out⟩, ⟨zR HO_56.out⟩, ⟨zB⟩⟩
             rw [if_neg c22] at H
             exact absurd H (by simp)
            rw [if_neg c21] at H
            have c21b0 : decide (0 < (rd y446 x58_1)) = false := decide_eq_false c21
            clear c21
            by_cases c24 : x11_1.length < 140737488355328
            ·rw [if_pos c24] at H
             have LMc24 := Aside0.mk c24
             clear c24
             obtain ⟨y453, hy453⟩ : ∃ y_ : List Int, y_ = (x11_1 ++ [45]) := ⟨_, rfl⟩
             replace H : (impl_chi_circuit.l0 k1 y453 y446 (y446.length : Int) (wrap64 (x58_1 + 1))) = some r := by first | (rw [hy453]; with_reducible exact H) | (have H2_ := (Option.bind_some _ _).symm.trans H; rw [hy453]; with_reducible exact H2_) | (have H2_ := (Option.bind_some _ _).symm.trans H; with_reducible exact H2_) | with_reducible exact H | (rw [hy453]; exact H) | exact H
             have Ny453 := Aside0.mk hy453
             clear hy453
             have H' := Aside0.mk H; clear H
             have p449 : 0 ≤ (x58_1 : Int) := zA
             have q449 : x58_1 < (y446.length : Int) := zA
             obtain ⟨ad449, e449, hx449_0⟩ := Kd.at_int (Kd.R_reads' HO_56.out).2.2 x58_1 p449 q449
             cases e449
             replace p449 := eq_true p449
             replace q449 := eq_true q449
             go_wp2_with (first | ((with_reducible refine gate_builtin (b := .append) (xs := #[.tmp 67, .tmp 68]) rfl ?_); at_builtin; refine Kd.R_append (Kd.int .u8) (w0 := w) w.heap.size rfl (.tmp 67) (.tmp 68) 22 5 (.int .u8 0) 1 rfl Try.underlying22 info5 rfl (by decide) (by omega) u11 x11_1 45 [.int .u8 45] (fun _ => True) (fun _ => False) rfl rfl ?aP (fun _ hk => hk.elim) ?aF ?aO ?aB ?aS ?aL ?_; (case aP => exact rfl); (case aB => exact zB); (case aF => exact (fun _ _ => trivial)); (case aO => exact (zR HO_11.out)); (case aS => exact (below_size zB)); (case aL => have := LMc24.out; omega); intro v454 w25 ho hb hg hat; rw [← Ny453.out] at ho; have n0_ := Aside0.mk (Kd.R_over' (zR HO_56.out) (Kd.R_typed (zR HO_11.out)) (by decide) hg); have n1_ := Aside0.mk (hb); have n2_ := Aside0.mk (ho); clear HO_56; clear HB; clear HO_11; have HO_56 := n0_; have HB := n1_; have HO455 := n2_; clear n0_ n1_ n2_; clear ho hb hg hat))
             go_roundg k1
             case measure => have := HK1.out; omega
             case rel => exact ⟨(y453), (wrap64 (x58_1 + 1)), zF, H', ⟨by have := HK1.out; omega⟩, ⟨zR HO455.out⟩, ⟨zR HO_56.out⟩, ⟨zB⟩⟩
            rw [if_neg c24] at H
            exact absurd H (by simp)
           rw [if_neg c20] at H
           exact absurd H (by simp)
          rw [if_neg c19] at H
          exact absurd H (by simp)
         rw [if_neg c18] at H
         have c18b0 : decide (x58_1 < (y446.length : Int)) = false := decide_eq_false c18
         clear c18
         by_cases c26 : 0 < (x11_1.length : Int)
         ·rw [if_pos c26] at H
          have c26b0 : decide (0 < (x11_1.length : Int)) = true := decide_eq_true c26
          have c26b1 : decide (0 < x11_1.length) = true := decide_eq_true (by omega)
          clear c26
          by_cases c27 : (rd x11_1 0) = 45
          ·rw [if_pos c27] at H
           have c27b0 : ((rd x11_1 0) == 45) = true := beq_iff_eq.mpr c27
           have c27b1 : ((rd x11_1 0) != 45) = false := bne_eq_false_iff_eq.mpr c27
           clear c27
           obtain ⟨t457, A28, H⟩ := zO H
           obtain rfl := Option.some.inj H
           obtain ⟨Ao29, co29, eo29⟩ := Kd.R_slice HO_11.out
           subst eo29
           have p456 : 0 ≤ (0 : Int) := (by omega)
           have q456 : 0 < (x11_1.length : Int) := zA
           obtain ⟨ad456, e456, hx456_0⟩ := Kd.at_int (Kd.R_reads' HO_11.out).2.2 0 p456 q456
           cases e456
           have qi456 : (0 < x11_1.length) = True := eq_true (by omega)
           (try rw [show ((0 : Int)).toNat = 0 from rfl] at hx456_0)
           (try rw [Addr.add_zero'] at hx456_0)
           replace p456 := eq_true p456
           replace q456 := eq_true q456
           have hcv30 := own_string (P := Try.prog) Try.underlying22 Try.underlying5 Try.underlying9 (Kd.own_of_R HO_11.out)
           go_wp2_with (first | ((with_reducible refine gate_callee (f := 147) rfl ?_); refine zD (some 77) Try.func147 #[.string (strOfNums x11_1)] ?_; (with_reducible refine (impl_opposite.calls (strOfNums x11_1) t457 _ A28.out).mono ?_); rintro e w31 ⟨rfl, hb⟩; refine ⟨_, rfl, ?_⟩; replace HO_11 := zW HO_11.out hb; replace HO_56 := zW HO_56.out hb; replace HB := zX hb; (try clear hb)))
           go_ret
           exact ⟨zE, zB⟩
          rw [if_neg c27] at H
          have c27b0 : ((rd x11_1 0) == 45) = false := beq_eq_false_iff_ne.mpr c27
          have c27b1 : ((rd x11_1 0) != 45) = true := bne_iff_ne.mpr c27
          obtain rfl := Option.some.inj H
          obtain ⟨Ao32, co32, eo32⟩ := Kd.R_slice HO_11.out
          subst eo32
          have p456 : 0 ≤ (0 : Int) := (by omega)
          have q456 : 0 < (x11_1.length : Int) := zA
          obtain ⟨ad456, e456, hx456_0⟩ := Kd.at_int (Kd.R_reads' HO_11.out).2.2 0 p456 q456
          cases e456
          have qi456 : (0 < x11_1.length) = True := eq_true (by omega)
          (try rw [show ((0 : Int)).toNat = 0 from rfl] at hx456_0)
          (try rw [Addr.add_zero'] at hx456_0)
          replace p456 := eq_true p456
          replace q456 := eq_true q456
          have hcv33 := own_string (P := Try.prog) Try.underlying22 Try.underlying5 Try.underlying9 (Kd.own_of_R HO_11.out)
          go_wp2
          go_ret
          exact ⟨zE, zB⟩
         rw [if_neg c26] at H
         exact absurd H (by simp)
        rw [if_neg c13] at H
        exact absurd H (by simp)
       rw [if_neg c12] at H
       exact absurd H (by simp)
      rw [if_neg c11] at H
      exact absurd H (by simp)
     rw [if_neg c10] at H
     exact absurd H (by simp)
    rw [if_neg c9] at H
    exact absurd H (by simp)
   rw [if_neg c8] at H
   exact absurd H (by simp)
  rw [if_neg c7] at H
  exact absurd H (by simp)
 rw [if_neg c6] at H
 exact absurd H (by simp)
/-! ### impl_chi_isAcyclic: function 92 -/
def impl_chi_isAcyclic.l0 : Nat → List Int → List (S91) → Int → Int → Option (Bool)
 | 0, _, _, _, _ => none
 | k + 1, x0, x9, x10, x11 => if x11 < x10 then (if 0 ≤ x11 then (if x11 < (x9.length : Int) then ((impl_chi_circuit.f k x0 ((rd_T91 x9 x11).f0) ((rd_T91 x9 x11).f1) ((rd_T91 x9 x11).f2) ((rd_T91 x9 x11).f3)).bind fun t464 => (if t464.toList = ([43, 43, 43, 43] : List UInt8) then (some false) else (impl_chi_isAcyclic.l0 k x0 x9 x10 (wrap64 (x11 + 1))))) else (none)) else (none)) else (some true)
def impl_chi_isAcyclic.f (k : Nat) (l0 : List Int) : Option (Bool) := (impl_quadsOf.f k (rd l0 0)).bind fun t459 => (impl_chi_isAcyclic.l0 k l0 t459 (t459.length : Int) 0)
set_option maxHeartbeats 8000000 in
set_option maxRecDepth 100000 in
theorem impl_chi_isAcyclic.calls (k : Nat) (g0 : Nat) (l0 : List Int) (r : Bool) (w : World) (hr0 : Kd.C (Kd.int .i64) w (some ⟨g0, 0, none⟩) l0.length l0) (hc0 : l0.length = 344) (h : impl_chi_isAcyclic.f k l0 = some r) :
  Calls Try.prog 92 #[.pointer (some ⟨g0, 0, none⟩)] w fun e w' => e = .returned (.bool r) ∧ Below w.heap.size w w' := by
 have hu91 := Try.underlying91
 have hu115 := Try.underlying115
 have HR0 := Aside0.mk hr0
 have HC0 := Aside0.mk hc0
 clear hr0 hc0
 have HB := Aside0.mk (Below.refl w.heap.size w)
 have H : ((impl_quadsOf.f k (rd l0 0)).bind fun t459 => (impl_chi_isAcyclic.l0 k l0 t459 (t459.length : Int) 0)) = some r := h
 clear h
 obtain ⟨t459, A2, H⟩ := zO H
 have H' := Aside0.mk H; clear H
 have hL458 := HC0.out
 have dq458 : decide (0 < (l0.length : Int)) = true := decide_eq_true (by omega)
 clear hL458
 have p458 : 0 ≤ (0 : Int) := (by omega)
 have q458 : 0 < (l0.length : Int) := zA
 obtain ⟨ad458, e458, hx458_0⟩ := Kd.at_int HR0.out 0 p458 q458
 obtain rfl : (⟨g0, 0, none⟩ : Addr) = ad458 := (by injection e458)
 (first | simp only [add_plain] at hx458_0 | simp only [add_at] at hx458_0 | simp only [Addr.add, Nat.zero_add] at hx458_0 | skip)
 have qi458 : (0 < l0.length) = True := eq_true (by omega)
 (try rw [show ((0 : Int)).toNat = 0 from rfl] at hx458_0)
 (try rw [Addr.add_zero'] at hx458_0)
 replace p458 := eq_true p458
 replace q458 := eq_true q458
 clear dq458
 go_enter Try.func92, Try.ntmps92
 go_wp2_with (first | ((with_reducible refine gate_callee (f := 110) rfl ?_); refine zD (some 9) Try.func110 #[.int .i64 (rd l0 0)] ?_; (with_reducible refine (impl_quadsOf.calls k (rd l0 0) t459 _ A2.out).mono ?_); rintro e w3 ⟨v460, rfl, ho0, hb⟩; refine ⟨_, rfl, ?_⟩; have HO461 := Aside0.mk (Kd.R_lower ho0 (below_size zB)); replace HB := zX hb; (try clear hb); (try clear ho0); obtain ⟨Ao4, co4, eo4⟩ := Kd.R_slice HO461.out; subst eo4))
 go_loopg [11] k (fun kq v11 w' => ∃ (x11_1 : Int), v11 = .int .i64 x11_1 ∧ Aside0 (impl_chi_isAcyclic.l0 kq l0 t459 (t459.length : Int) x11_1 = some r) ∧ Aside0 (kq ≤ k) ∧ Aside0 (Kd.R k91 91 w' w.heap.size (fun _ => True) (.slice Ao4 t459.length co4) t459) ∧ Aside0 (Below w.heap.size w w'))
 case atStart => exact ⟨(0), zF, H', ⟨Nat.le_refl _⟩, ⟨zR HO461.out⟩, ⟨zB⟩⟩
 case round =>
 clear H'
 try clear hx458_0
 try clear p458
 try clear q458
 obtain ⟨x11_1, rfl, HA, HK1, HO_9, HB⟩ := hrel
 cases gk with
 | zero => exact absurd HA.out (by simp [impl_chi_isAcyclic.l0])
 | succ k1 =>
 have H := HA.out
 clear HA
 simp only [impl_chi_isAcyclic.l0] at H
 by_cases c5 : x11_1 < (t459.length : Int)
 ·rw [if_pos c5] at H
  have c5b0 : decide (x11_1 < (t459.length : Int)) = true := decide_eq_true c5
  clear c5
  by_cases c6 : 0 ≤ x11_1
  ·rw [if_pos c6] at H
   have c6b0 : decide (0 ≤ x11_1) = true := decide_eq_true c6
   clear c6
   by_cases c7 : x11_1 < (t459.length : Int)
   ·rw [if_pos c7] at H
    have c7b0 : decide (x11_1 < (t459.length : Int)) = true := decide_eq_true c7
    clear c7
    obtain ⟨t464, A8, H⟩ := zO H
    by_cases c9 : t464.toList = ([43, 43, 43, 43] : List UInt8)
    ·rw [if_pos c9] at H
     have c9b0 : (t464.toList == ([43, 43, 43, 43] : List UInt8)) = true := beq_iff_eq.mpr c9
     have c9b1 : (t464.toList != ([43, 43, 43, 43] : List UInt8)) = false := bne_eq_false_iff_eq.mpr c9
     clear c9
     obtain rfl := Option.some.inj H
     have p462 : 0 ≤ (x11_1 : Int) := zA
     have q462 : x11_1 < (t459.length : Int) := zA
     obtain ⟨ad462, e462, hx462_0, hx462_1, hx462_2, hx462_3⟩ := at_T91 (Kd.R_reads' HO_9.out).2.2 x11_1 p462 q462
     cases e462
     replace p462 := eq_true p462
     replace q462 := eq_true q462
     go_wp2_with (first | ((with_reducible refine gate_dst (N := 4) rfl ?_); refine zBx (N := 4) #[.int .i64 0, .int .i64 0, .int .i64 0, .int .i64 0] 91 ?_; intro gb463 hg w10 hbox hb; replace HO_9 := Aside0.mk (Kd.R_below (Kd.R_elderB (zR HO_9.out) gb463 (Nat.le_of_eq hg.symm)) hb); have BK463 := Aside0.mk (hbox); have GW463 := zS hg; have GE463 := zS hg; replace HB := zX hb; clear hb hbox hg; obtain ⟨hcz11_0, hcz11_1, hcz11_2, hcz11_3, hfz11_0, hfz11_1, hfz11_2, hfz11_3⟩ := zq4 BK463.out) | ((with_reducible refine gate_callee (f := 96) rfl ?_); refine zD (some 24) Try.func96 #[.pointer (some ⟨g0, 0, none⟩), .int .i64 ((rd_T91 t459 x11_1).f0), .int .i64 ((rd_T91 t459 x11_1).f1), .int .i64 ((rd_T91 t459 x11_1).f2), .int .i64 ((rd_T91 t459 x11_1).f3)] ?_; (with_reducible refine (impl_chi_circuit.calls k1 _ l0 ((rd_T91 t459 x11_1).f0) ((rd_T91 t459 x11_1).f1) ((rd_T91 t459 x11_1).f2) ((rd_T91 t459 x11_1).f3) t464 _ ?side1 ?side2 A8.out).mono ?_); (case side1 => exact Kd.C_below HR0.out (zG GE463.out)); (case side2 => exact HC0.out); rintro e w12 ⟨rfl, hb⟩; refine ⟨_, rfl, ?_⟩; replace HO_9 := Aside0.mk (Kd.R_below (by (with_reducible repeat (first | apply Kd.R_alloc | apply Kd.R_drewN | apply Kd.R_drew)); exact (Kd.R_mono (Kd.R_far (p := ⟨gb463, 3, none⟩) (Kd.R_far (p := ⟨gb463, 2, none⟩) (Kd.R_far (p := ⟨gb463, 1, none⟩) (Kd.R_far (p := ⟨gb463, 0, none⟩) (Kd.R_mono HO_9.out (fun k_ hk => (⟨hk, hk.2⟩ : _ ∧ k_ ≠ gb463))) (fun _ hk => hk.2) (.int .i64 ((rd_T91 t459 x11_1).f0))) (fun _ hk => hk.2) (.int .i64 ((rd_T91 t459 x11_1).f1))) (fun _ hk => hk.2) (.int .i64 ((rd_T91 t459 x11_1).f2))) (fun _ hk => hk.2) (.int .i64 ((rd_T91 t459 x11_1).f3))) (fun _ h_ => h_.1))) hb); replace BK463 := Aside0.mk (blk_below (g := gb463) (o := .cells #[.int .i64 ((rd_T91 t459 x11_1).f0), .int .i64 ((rd_T91 t459 x11_1).f1), .int .i64 ((rd_T91 t459 x11_1).f2), .int .i64 ((rd_T91 t459 x11_1).f3)] 91 (0, 0)) (zk0 BK463.out) hb); replace HB := zX1 GE463.out hb; (try clear hb)))
     go_ret
     exact ⟨zE, zG GE463.out⟩
    rw [if_neg c9] at H
    have c9b0 : (t464.toList == ([43, 43, 43, 43] : List UInt8)) = false := beq_eq_false_iff_ne.mpr c9
    have c9b1 : (t464.toList != ([43, 43, 43, 43] : List UInt8)) = true := bne_iff_ne.mpr c9
    have H' := Aside0.mk H; clear H
    have p462 : 0 ≤ (x11_1 : Int) := zA
    have q462 : x11_1 < (t459.length : Int) := zA
    obtain ⟨ad462, e462, hx462_0, hx462_1, hx462_2, hx462_3⟩ := at_T91 (Kd.R_reads' HO_9.out).2.2 x11_1 p462 q462
    cases e462
    replace p462 := eq_true p462
    replace q462 := eq_true q462
    go_wp2_with (first | ((with_reducible refine gate_dst (N := 4) rfl ?_); refine zBx (N := 4) #[.int .i64 0, .int .i64 0, .int .i64 0, .int .i64 0] 91 ?_; intro gb463 hg w13 hbox hb; replace HO_9 := Aside0.mk (Kd.R_below (Kd.R_elderB (zR HO_9.out) gb463 (Nat.le_of_eq hg.symm)) hb); have BK463 := Aside0.mk (hbox); have GW463 := zS hg; have GE463 := zS hg; replace HB := zX hb; clear hb hbox hg; obtain ⟨hcz14_0, hcz14_1, hcz14_2, hcz14_3, hfz14_0, hfz14_1, hfz14_2, hfz14_3⟩ := zq4 BK463.out) | ((with_reducible refine gate_callee (f := 96) rfl ?_); refine zD (some 24) Try.func96 #[.pointer (some ⟨g0, 0, none⟩), .int .i64 ((rd_T91 t459 x11_1).f0), .int .i64 ((rd_T91 t459 x11_1).f1), .int .i64 ((rd_T91 t459 x11_1).f2), .int .i64 ((rd_T91 t459 x11_1).f3)] ?_; (with_reducible refine (impl_chi_circuit.calls k1 _ l0 ((rd_T91 t459 x11_1).f0) ((rd_T91 t459 x11_1).f1) ((rd_T91 t459 x11_1).f2) ((rd_T91 t459 x11_1).f3) t464 _ ?side1 ?side2 A8.out).mono ?_); (case side1 => exact Kd.C_below HR0.out (zG GE463.out)); (case side2 => exact HC0.out); rintro e w15 ⟨rfl, hb⟩; refine ⟨_, rfl, ?_⟩; replace HO_9 := Aside0.mk (Kd.R_below (by (with_reducible repeat (first | apply Kd.R_alloc | apply Kd.R_drewN | apply Kd.R_drew)); exact (Kd.R_mono (Kd.R_far (p := ⟨gb463, 3, none⟩) (Kd.R_far (p := ⟨gb463, 2, none⟩) (Kd.R_far (p := ⟨gb463, 1, none⟩) (Kd.R_far (p := ⟨gb463, 0, none⟩) (Kd.R_mono HO_9.out (fun k_ hk => (⟨hk, hk.2⟩ : _ ∧ k_ ≠ gb463))) (fun _ hk => hk.2) (.int .i64 ((rd_T91 t459 x11_1).f0))) (fun _ hk => hk.2) (.int .i64 ((rd_T91 t459 x11_1).f1))) (fun _ hk => hk.2) (.int .i64 ((rd_T91 t459 x11_1).f2))) (fun _ hk => hk.2) (.int .i64 ((rd_T91 t459 x11_1).f3))) (fun _ h_ => h_.1))) hb); replace BK463 := Aside0.mk (blk_below (g := gb463) (o := .cells #[.int .i64 ((rd_T91 t459 x11_1).f0), .int .i64 ((rd_T91 t459 x11_1).f1), .int .i64 ((rd_T91 t459 x11_1).f2), .int .i64 ((rd_T91 t459 x11_1).f3)] 91 (0, 0)) (zk0 BK463.out) hb); replace HB := zX1 GE463.out hb; (try clear hb)))
    go_roundg k1
    case measure => have := HK1.out; omega
    case rel => exact ⟨(wrap64 (x11_1 + 1)), zF, H', ⟨by have := HK1.out; omega⟩, ⟨by (with_reducible repeat (first | apply Kd.R_alloc | apply Kd.R_drewN | apply Kd.R_drew)); exact Kd.R_mono HO_9.out (fun _ hk => trivial)⟩, ⟨zG GE463.out⟩⟩
   rw [if_neg c7] at H
   exact absurd H (by simp)
  rw [if_neg c6] at H
  exact absurd H (by simp)
 rw [if_neg c5] at H
 have c5b0 : decide (x11_1 < (t459.length : Int)) = false := decide_eq_false c5
 clear c5
 obtain rfl := Option.some.inj H
 go_wp2
 go_ret
 exact ⟨zE, zB⟩
/-! ### impl_AcyclicSets: function 15 -/
mutual
def impl_AcyclicSets.l0 : Nat → List Int → Int → Int → ByteArray → Option (List Int)
 | 0, _, _, _, _ => none
 | k + 1, x3, x4, x466000, x466001 => if 0 ≤ x466000 then (if x4 < (shl .i64 1 x466000) then ((impl_tableOf.f k x466000 x466001).bind fun t467 => (impl_AcyclicSets.l1 k x3 x4 t467 0 x466000 x466001)) else (some x3)) else (none)
def impl_AcyclicSets.l1 : Nat → List Int → Int → List Int → Int → Int → ByteArray → Option (List Int)
 | 0, _, _, _, _, _, _ => none
 | k + 1, x3, x4, x5, x6, x466000, x466001 => if x6 < x466000 then (if 0 ≤ x6 then (if (Go.bits .and .i64 (shr .i64 x4 x6) 1) = 1 then (if x5.length = 344 then ((impl_chi_reverse.f k x5 x6).bind fun t470 => (impl_AcyclicSets.l1 k x3 x4 t470 (wrap64 (x6 + 1)) x466000 x466001)) else (none)) else (impl_AcyclicSets.l1 k x3 x4 x5 (wrap64 (x6 + 1)) x466000 x466001)) else (none)) else (if x5.length = 344 then ((impl_chi_isAcyclic.f k x5).bind fun t471 => (if t471 = true then (if x3.length < 17592186044416 then (impl_AcyclicSets.l0 k (x3 ++ [x4]) (wrap64 (x4 + 1)) x466000 x466001) else (none)) else (impl_AcyclicSets.l0 k x3 (wrap64 (x4 + 1)) x466000 x466001))) else (none))
end
def impl_AcyclicSets.f (k : Nat) (a0_0 : Int) (a0_1 : ByteArray) : Option (List Int) := (impl_IsMatroid.f a0_0 a0_1).bind fun t466 => (if t466 = true then (impl_AcyclicSets.l0 k ([] : List Int) 0 a0_0 a0_1) else (some ([] : List Int)))
theorem zl47_0 {p q p0 : Prop} (g : p) (g0 : p0) (h : p → p0 → q := by intro zg_ z0_; repeat (first | (with_reducible first | exact zg_ | apply below_alloc | apply pw_below_drewN | apply below_drew1 | refine below_set ?_ z0_) | exact zg_)) : q := h g g0
set_option maxHeartbeats 8000000 in
set_option maxRecDepth 100000 in
theorem impl_AcyclicSets.calls (k : Nat) (a0_0 : Int) (a0_1 : ByteArray) (r : List Int) (w : World) (h : impl_AcyclicSets.f k a0_0 a0_1 = some r) :
  Calls Try.prog 15 #[.agg #[.int .i64 a0_0, .string a0_1]] w fun e w' => ∃ v0_ : Value, e = .returned (v0_) ∧ Kd.R (Kd.int .i64) 3 w' w.heap.size (fun _ => True) v0_ r ∧ Below w.heap.size w w' := by
 have hu25 := Try.underlying25
 have HB := Aside0.mk (Below.refl w.heap.size w)
 have H : ((impl_IsMatroid.f a0_0 a0_1).bind fun t466 => (if t466 = true then (impl_AcyclicSets.l0 k ([] : List Int) 0 a0_0 a0_1) else (some ([] : List Int)))) = some r := h
 clear h
 obtain ⟨t466, A2, H⟩ := zO H
 by_cases c3 : t466 = true
 ·subst c3
  replace H := (if_pos rfl).symm.trans H
  have H' := Aside0.mk H; clear H
  go_enter Try.func15, Try.ntmps15
  go_wp2_with (first | ((with_reducible refine gate_dst (N := 1) rfl ?_); refine zBx (N := 1) #[.int .i64 a0_0, .string a0_1] 25 ?_; intro gb465 hg w4 hbox hb; have BK465 := Aside0.mk (hbox); have GW465 := zS hg; have GE465 := zS hg; replace HB := zX hb; clear hb hbox hg; obtain ⟨hcz5_0, hcz5_1, hfz5_0, hfz5_1⟩ := zq2 BK465.out) | ((with_reducible refine gate_callee (f := 21) rfl ?_); refine zD (some 8) Try.func21 #[.agg #[.int .i64 a0_0, .string a0_1]] ?_; (with_reducible refine (impl_IsMatroid.calls a0_0 a0_1 true _ A2.out).mono ?_); rintro e w6 ⟨rfl, hb⟩; refine ⟨_, rfl, ?_⟩; replace BK465 := zV BK465.out hb; replace HB := zX1 GE465.out hb; (try clear hb)))
  go_loopg [3, 4] k (fun kq v3 v4 w' => ∃ (x3_1 : List Int) (x4_1 : Int), v4 = .int .i64 x4_1 ∧ Aside0 (impl_AcyclicSets.l0 kq x3_1 x4_1 a0_0 a0_1 = some r) ∧ Aside0 (kq ≤ k) ∧ Aside0 (Kd.R (Kd.int .i64) 3 w' w.heap.size (fun _ => True) v3 x3_1) ∧ Aside0 (w'.heap[gb465]? = some (.cells #[.int .i64 a0_0, .string a0_1] 25 (0, 0))) ∧ Aside0 (Below w.heap.size w w'))
  case atStart => exact ⟨(([] : List Int)), (0), zF, H', ⟨Nat.le_refl _⟩, ⟨by first | exact Kd.R_nil _ _ _ _ _ | exact Kd.N_nil _ _ _ _ _ | exact Kd.V_nil _ _ _ _ _ | exact Kd.Q_nil _ _ _ _ _ | exact Kd.S_nil _ _ _ _ _⟩, ⟨zK BK465.out⟩, ⟨zG GE465.out⟩⟩
  case round =>
  clear H'
  try clear c3
  try clear hcz5_0
  try clear hcz5_1
  try clear hfz5_0
  try clear hfz5_1
  obtain ⟨x3_1, x4_1, rfl, HA, HK1, HO_3, BK465, HB⟩ := hrel
  cases gk with
  | zero => exact absurd HA.out (by simp [impl_AcyclicSets.l0])
  | succ k1 =>
  have H := HA.out
  clear HA
  simp only [impl_AcyclicSets.l0] at H
  by_cases c7 : 0 ≤ a0_0
  ·rw [if_pos c7] at H
   have c7b0 := eq_true c7
   have c7b1 : decide (0 ≤ a0_0) = true := decide_eq_true c7
   clear c7
   obtain ⟨ji8, hji8⟩ : ∃ j_ : Int, (shl .i64 1 a0_0) = j_ := ⟨_, rfl⟩
   replace H : (if x4_1 < (ji8) then ((impl_tableOf.f k1 a0_0 a0_1).bind fun t467 => (impl_AcyclicSets.l1 k1 x3_1 x4_1 t467 0 a0_0 a0_1)) else (some x3_1)) = some r := by first | (rw [hji8] at H; exact H) | (simp only [hji8] at H ⊢; exact H)
   have hji8_ : (IntKind.i64.wrap (1 * 2 ^ min a0_0.toNat 64)) = ji8 := hji8
   have hji8z : a0_0 ≤ 64 → (IntKind.i64.wrap (1 * 2 ^ a0_0.toNat)) = ji8 := shl_small hji8
   have hji8u : (IntKind.i64.wrap (2 ^ min a0_0.toNat 64)) = ji8 := by have h_ := hji8_; rw [Int.one_mul] at h_; exact h_
   have hji8v : a0_0 ≤ 64 → (IntKind.i64.wrap (2 ^ a0_0.toNat)) = ji8 := fun hle_ => by have h_ := hji8z hle_; rw [Int.one_mul] at h_; exact h_
   have hji8y : (wrap64 (1 * 2 ^ min a0_0.toNat 64)) = ji8 := (i64_w _).symm.trans hji8_
   have hji8x : a0_0 ≤ 64 → (wrap64 (1 * 2 ^ a0_0.toNat)) = ji8 := fun h_ => (i64_w _).symm.trans (hji8z h_)
   by_cases c9 : x4_1 < (ji8)
   ·rw [if_pos c9] at H
    have c9b0 : decide (x4_1 < (ji8)) = true := decide_eq_true c9
    clear c9
    obtain ⟨t467, A10, H⟩ := zO H
    have H' := Aside0.mk H; clear H
    obtain ⟨hcz11_0, hcz11_1, hfz11_0, hfz11_1⟩ := zq2 BK465.out
    go_wp2_with (first | ((with_reducible refine gate_callee (f := 83) rfl ?_); refine zD (some 18) Try.func83 #[.agg #[.int .i64 a0_0, .string a0_1]] ?_; (with_reducible refine (impl_tableOf.calls k1 a0_0 a0_1 t467 _ A10.out).mono ?_); rintro e w12 ⟨v468, rfl, ho0, hb⟩; refine ⟨_, rfl, ?_⟩; replace HO_3 := zW HO_3.out hb; have HO469 := Aside0.mk (Kd.R_lower ho0 (below_size (zG GE465.out))); replace BK465 := zV BK465.out hb; replace HB := zX1 GE465.out hb; (try clear hb); (try clear ho0)))
    go_loopg [6] k1 (fun kq v6 w' => ∃ (x5_2 : List Int) (x6_2 : Int), v6 = .int .i64 x6_2 ∧ Aside0 (impl_AcyclicSets.l1 kq x3_1 x4_1 x5_2 x6_2 a0_0 a0_1 = some r) ∧ Aside0 (kq ≤ k1) ∧ Aside0 (Kd.R (Kd.int .i64) 3 w' w.heap.size (fun _ => True) u3 x3_1) ∧ Aside0 (Kd.R (Kd.int .i64) 115 w' w.heap.size (fun _ => True) v468 x5_2) ∧ Aside0 (w'.heap[gb465]? = some (.cells #[.int .i64 a0_0, .string a0_1] 25 (0, 0))) ∧ Aside0 (Below w.heap.size w w'))
    case atStart => exact ⟨(t467), (0), zF, H', ⟨Nat.le_refl _⟩, ⟨zR HO_3.out⟩, ⟨zR HO469.out⟩, ⟨zK BK465.out⟩, ⟨zG GE465.out⟩⟩
    case round =>
    clear H'
    try clear c3
    try clear c7
    try clear c7b0
    try clear c7b1
    try clear c9
    try clear c9b0
    try clear hcz11_0
    try clear hcz11_1
    try clear hcz5_0
    try clear hcz5_1
    try clear hfz11_0
    try clear hfz11_1
    try clear hfz5_0
    try clear hfz5_1
    obtain ⟨x5_2, x6_2, rfl, HA, HK2, HO_3, HO_5, BK465, HB⟩ := hrel
    cases gk with
    | zero => exact absurd HA.out (by simp [impl_AcyclicSets.l1])
    | succ k2 =>
    have H := HA.out
    clear HA
    simp only [impl_AcyclicSets.l1] at H
    by_cases c13 : x6_2 < a0_0
    ·rw [if_pos c13] at H
     have c13b0 : decide (x6_2 < a0_0) = true := decide_eq_true c13
     clear c13
     by_cases c14 : 0 ≤ x6_2
     ·rw [if_pos c14] at H
      have c14b0 := eq_true c14
      have c14b1 : decide (0 ≤ x6_2) = true := decide_eq_true c14
      clear c14
      obtain ⟨ji15, hji15⟩ : ∃ j_ : Int, (shr .i64 x4_1 x6_2) = j_ := ⟨_, rfl⟩
      replace H : (if (Go.bits .and .i64 (ji15) 1) = 1 then (if x5_2.length = 344 then ((impl_chi_reverse.f k2 x5_2 x6_2).bind fun t470 => (impl_AcyclicSets.l1 k2 x3_1 x4_1 t470 (wrap64 (x6_2 + 1)) a0_0 a0_1)) else (none)) else (impl_AcyclicSets.l1 k2 x3_1 x4_1 x5_2 (wrap64 (x6_2 + 1)) a0_0 a0_1)) = some r := by first | (rw [hji15] at H; exact H) | (simp only [hji15] at H ⊢; exact H)
      have hji15_ : (x4_1 / 2 ^ min x6_2.toNat 64) = ji15 := hji15
      have hji15z : x6_2 ≤ 64 → (x4_1 / 2 ^ x6_2.toNat) = ji15 := shr_small hji15
      by_cases c16 : (Go.bits .and .i64 (ji15) 1) = 1
      ·rw [if_pos c16] at H
       have c16b0 : ((Go.bits .and .i64 (ji15) 1) == 1) = true := beq_iff_eq.mpr c16
       have c16b1 : ((Go.bits .and .i64 (ji15) 1) != 1) = false := bne_eq_false_iff_eq.mpr c16
       clear c16
       by_cases c17 : x5_2.length = 344
       ·rw [if_pos c17] at H
        have c17b0 := eq_true c17
        have c17b1 : decide (x5_2.length = 344) = true := decide_eq_true c17
        clear c17
        obtain ⟨t470, A18, H⟩ := zO H
        have H' := Aside0.mk H; clear H
        obtain ⟨hcz19_0, hcz19_1, hfz19_0, hfz19_1⟩ := zq2 BK465.out
        obtain ⟨go20, co20, eo20, gb20, gl20, cl20, HG20⟩ := Kd.R_form HO_5.out (by have hl_ := Nat.le_of_eq (Eq.symm (zA : x5_2.length = 344)); omega)
        (first | cases eo20 | (injection eo20 with ea_ en_ ec_; (first | subst ea_ | (injection ea_ with ea_; subst ea_)); subst ec_; clear en_))
        have GB20 := Aside0.mk gb20
        have GG20 := Aside0.mk HG20
        clear gb20 gl20 HG20
        go_wp2_with (first | ((with_reducible refine gate_callee (f := 87) rfl ?_); refine zD (some 32) Try.func87 #[.pointer (some ⟨go20, 0, none⟩), .int .i64 x6_2] ?_; (with_reducible refine (impl_chi_reverse.calls k2 (fun k_ => some k_ = (.slice (some ⟨go20, 0, none⟩) x5_2.length co20 : Value).ownBlock) (.slice (some ⟨go20, 0, none⟩) x5_2.length co20) x5_2 x6_2 t470 w _ ?side1 ?side2 A18.out).mono ?_); (case side1 => exact (zl47_0 HB.out GE465.out)); (case side2 => exact Kd.R_tight rfl HO_5.out); rintro e w21 ⟨rfl, hy0, hb, hkp⟩; refine ⟨_, rfl, ?_⟩; replace HO_3 := Aside0.mk (Kd.R_mono (ok' := fun k_ => True) (Kd.R_keptB ((Kd.R_apart' HO_3.out (Kd.R_typed HO_5.out) (by decide))) hkp (fun k_ hk_ hs_ => (hk_.2) hs_)) (fun k_ hk_ => trivial)); replace BK465 := Aside0.mk (blk_kept (zK BK465.out) hkp (fun hs_ => (fun e_ => (Kd.R_ne HO_5.out BK465.out (by decide)) e_) hs_)); replace HO_5 := Aside0.mk (Kd.R_reok rfl hy0 (fun k_ e_ => HO_5.out.1 k_ e_)); replace HB := Aside0.mk (hb); (try clear hb); (try clear hkp); (try clear hy0)))
        go_roundg k2
        case measure => have := HK1.out; have := HK2.out; omega
        case rel => exact ⟨(t470), (wrap64 (x6_2 + 1)), zF, H', ⟨by have := HK1.out; have := HK2.out; omega⟩, ⟨zR HO_3.out⟩, ⟨zR HO_5.out⟩, ⟨zK BK465.out⟩, ⟨zG GE465.out⟩⟩
       rw [if_neg c17] at H
       exact absurd H (by simp)
      rw [if_neg c16] at H
      have c16b0 : ((Go.bits .and .i64 (ji15) 1) == 1) = false := beq_eq_false_iff_ne.mpr c16
      have c16b1 : ((Go.bits .and .i64 (ji15) 1) != 1) = true := bne_iff_ne.mpr c16
      have H' := Aside0.mk H; clear H
      obtain ⟨hcz22_0, hcz22_1, hfz22_0, hfz22_1⟩ := zq2 BK465.out
      go_wp2
      go_roundg k2
      case measure => have := HK1.out; have := HK2.out; omega
      case rel => exact ⟨(x5_2), (wrap64 (x6_2 + 1)), zF, H', ⟨by have := HK1.out; have := HK2.out; omega⟩, ⟨zR HO_3.out⟩, ⟨zR HO_5.out⟩, ⟨zK BK465.out⟩, ⟨zG GE465.out⟩⟩
     rw [if_neg c14] at H
     exact absurd H (by simp)
    rw [if_neg c13] at H
    have c13b0 : decide (x6_2 < a0_0) = false := decide_eq_false c13
    clear c13
    by_cases c23 : x5_2.length = 344
    ·rw [if_pos c23] at H
     have c23b0 := eq_true c23
     have c23b1 : decide (x5_2.length = 344) = true := decide_eq_true c23
     clear c23
     obtain ⟨t471, A24, H⟩ := zO H
     by_cases c25 : t471 = true
     ·subst c25
      replace H := (if_pos rfl).symm.trans H
      by_cases c26 : x3_1.length < 17592186044416
      ·rw [if_pos c26] at H
       have LMc26 := Aside0.mk c26
       clear c26
       obtain ⟨y472, hy472⟩ : ∃ y_ : List Int, y_ = (x3_1 ++ [x4_1]) := ⟨_, rfl⟩
       replace H : (impl_AcyclicSets.l0 k2 y472 (wrap64 (x4_1 + 1)) a0_0 a0_1) = some r := by first | (rw [hy472]; with_reducible exact H) | (have H2_ := (Option.bind_some _ _).symm.trans H; rw [hy472]; with_reducible exact H2_) | (have H2_ := (Option.bind_some _ _).symm.trans H; with_reducible exact H2_) | with_reducible exact H | (rw [hy472]; exact H) | exact H
       have Ny472 := Aside0.mk hy472
       clear hy472
       have H' := Aside0.mk H; clear H
       obtain ⟨hcz27_0, hcz27_1, hfz27_0, hfz27_1⟩ := zq2 BK465.out
       obtain ⟨go28, co28, eo28, gb28, gl28, cl28, HG28⟩ := Kd.R_form HO_5.out (by have hl_ := Nat.le_of_eq (Eq.symm (zA : x5_2.length = 344)); omega)
       (first | cases eo28 | (injection eo28 with ea_ en_ ec_; (first | subst ea_ | (injection ea_ with ea_; subst ea_)); subst ec_; clear en_))
       have GB28 := Aside0.mk gb28
       have GG28 := Aside0.mk HG28
       clear gb28 gl28 HG28
       go_wp2_with (first | ((with_reducible refine gate_callee (f := 92) rfl ?_); refine zD (some 34) Try.func92 #[.pointer (some ⟨go28, 0, none⟩)] ?_; (with_reducible refine (impl_chi_isAcyclic.calls k2 _ x5_2 true _ ?side1 ?side2 A24.out).mono ?_); (case side1 => repeat (first | exact (Kd.R_reads' HO_5.out).2.2 | (with_reducible refine Kd.C_alloc ?_ _) | (with_reducible refine Kd.C_drewN ?_ _) | (with_reducible refine Kd.C_drew ?_))); (case side2 => exact (zA : x5_2.length = 344)); rintro e w29 ⟨rfl, hb⟩; refine ⟨_, rfl, ?_⟩; replace HO_3 := zW HO_3.out hb; replace HO_5 := zW HO_5.out hb; replace BK465 := zV BK465.out hb; replace HB := zX1 GE465.out hb; (try clear hb)) | ((with_reducible refine gate_builtin (b := .append) (xs := #[.tmp 35, .tmp 37]) rfl ?_); at_builtin; refine Kd.R_append (Kd.int .i64) (w0 := w) w.heap.size rfl (.tmp 35) (.tmp 37) 27 3 (.int .i64 0) 8 rfl Try.underlying27 info3 rfl (by decide) (by omega) u3 x3_1 x4_1 [.int .i64 x4_1] (fun _ => True) (fun _ => False) rfl rfl ?aP (fun _ hk => hk.elim) ?aF ?aO ?aB ?aS ?aL ?_; (case aP => exact rfl); (case aB => exact (zG GE465.out)); (case aF => exact (fun _ _ => trivial)); (case aO => exact (zR HO_3.out)); (case aS => exact (below_size (zG GE465.out))); (case aL => have := LMc26.out; omega); intro v473 w30 ho hb hg hat; rw [← Ny472.out] at ho; have n0_ := Aside0.mk (Kd.R_over' (zR HO_5.out) (Kd.R_typed (zR HO_3.out)) (by decide) hg); have n1_ := Aside0.mk (blk_grown (g := gb465) (o := .cells #[.int .i64 a0_0, .string a0_1] 25 (0, 0)) (zK BK465.out) hg (Kd.R_ne HO_3.out BK465.out (by decide))); have n2_ := Aside0.mk (hb); have n3_ := Aside0.mk (ho); clear HO_5; clear BK465; clear HB; clear HO_3; have HO_5 := n0_; have BK465 := n1_; have HB := n2_; have HO474 := n3_; clear n0_ n1_ n2_ n3_; clear ho hb hg hat))
       go_roundg k2
       case measure => have := HK1.out; have := HK2.out; omega
       case rel => exact ⟨(y472), (wrap64 (x4_1 + 1)), zF, H', ⟨by have := HK1.out; have := HK2.out; omega⟩, ⟨zR HO474.out⟩, ⟨zK BK465.out⟩, ⟨zG GE465.out⟩⟩
      rw [if_neg c26] at H
      exact absurd H (by simp)
     replace c25 := Bool.eq_false_iff.mpr c25
     subst c25
     replace H := (if_neg zFf).symm.trans H
     have H' := Aside0.mk H; clear H
     obtain ⟨hcz31_0, hcz31_1, hfz31_0, hfz31_1⟩ := zq2 BK465.out
     obtain ⟨go32, co32, eo32, gb32, gl32, cl32, HG32⟩ := Kd.R_form HO_5.out (by have hl_ := Nat.le_of_eq (Eq.symm (zA : x5_2.length = 344)); omega)
     (first | cases eo32 | (injection eo32 with ea_ en_ ec_; (first | subst ea_ | (injection ea_ with ea_; subst ea_)); subst ec_; clear en_))
     have GB32 := Aside0.mk gb32
     have GG32 := Aside0.mk HG32
     clear gb32 gl32 HG32
     go_wp2_with (first | ((with_reducible refine gate_callee (f := 92) rfl ?_); refine zD (some 34) Try.func92 #[.pointer (some ⟨go32, 0, none⟩)] ?_; (with_reducible refine (impl_chi_isAcyclic.calls k2 _ x5_2 false _ ?side1 ?side2 A24.out).mono ?_); (case side1 => repeat (first | exact (Kd.R_reads' HO_5.out).2.2 | (with_reducible refine Kd.C_alloc ?_ _) | (with_reducible refine Kd.C_drewN ?_ _) | (with_reducible refine Kd.C_drew ?_))); (case side2 => exact (zA : x5_2.length = 344)); rintro e w33 ⟨rfl, hb⟩; refine ⟨_, rfl, ?_⟩; replace HO_3 := zW HO_3.out hb; replace HO_5 := zW HO_5.out hb; replace BK465 := zV BK465.out hb; replace HB := zX1 GE465.out hb; (try clear hb)))
     go_roundg k2
     case measure => have := HK1.out; have := HK2.out; omega
     case rel => exact ⟨(x3_1), (wrap64 (x4_1 + 1)), zF, H', ⟨by have := HK1.out; have := HK2.out; omega⟩, ⟨zR HO_3.out⟩, ⟨zK BK465.out⟩, ⟨zG GE465.out⟩⟩
    rw [if_neg c23] at H
    exact absurd H (by simp)
   rw [if_neg c9] at H
   have c9b0 : decide (x4_1 < (ji8)) = false := decide_eq_false c9
   clear c9
   obtain rfl := Option.some.inj H
   obtain ⟨hcz34_0, hcz34_1, hfz34_0, hfz34_1⟩ := zq2 BK465.out
   go_wp2
   go_ret
   exact ⟨_, by first | rfl | (simp [errW_none, errW_some] <;> rfl) | (simp only [← hji8]; first | rfl | (simp [errW_none, errW_some] <;> rfl)) | (simp [*, errW_none, errW_some] <;> rfl), zR HO_3.out, zG GE465.out⟩
  rw [if_neg c7] at H
  exact absurd H (by simp)
 replace c3 := Bool.eq_false_iff.mpr c3
 subst c3
 replace H := (if_neg zFf).symm.trans H
 obtain rfl := Option.some.inj H
 go_enter Try.func15, Try.ntmps15
 go_wp2_with (first | ((with_reducible refine gate_dst (N := 1) rfl ?_); refine zBx (N := 1) #[.int .i64 a0_0, .string a0_1] 25 ?_; intro gb465 hg w35 hbox hb; have BK465 := Aside0.mk (hbox); have GW465 := zS hg; have GE465 := zS hg; replace HB := zX hb; clear hb hbox hg; obtain ⟨hcz36_0, hcz36_1, hfz36_0, hfz36_1⟩ := zq2 BK465.out) | ((with_reducible refine gate_callee (f := 21) rfl ?_); refine zD (some 8) Try.func21 #[.agg #[.int .i64 a0_0, .string a0_1]] ?_; (with_reducible refine (impl_IsMatroid.calls a0_0 a0_1 false _ A2.out).mono ?_); rintro e w37 ⟨rfl, hb⟩; refine ⟨_, rfl, ?_⟩; replace BK465 := zV BK465.out hb; replace HB := zX1 GE465.out hb; (try clear hb)))
 go_ret
 exact ⟨_, zE, by first | exact Kd.R_nil _ _ _ _ _ | exact Kd.N_nil _ _ _ _ _ | exact Kd.V_nil _ _ _ _ _ | exact Kd.Q_nil _ _ _ _ _ | exact Kd.S_nil _ _ _ _ _, zG GE465.out⟩
/-! ### laws_sameInts: function 16 -/
def laws_sameInts.l0 : Nat → List Int → List Int → Int → Option (Bool)
 | 0, _, _, _ => none
 | k + 1, x0, x1, x5 => if x5 < (x0.length : Int) then (if 0 ≤ x5 then (if x5 < (x1.length : Int) then (if (rd x0 x5) = (rd x1 x5) then (laws_sameInts.l0 k x0 x1 (wrap64 (x5 + 1))) else (some false)) else (none)) else (none)) else (some true)
def laws_sameInts.f (k : Nat) (l0 : List Int) (l1 : List Int) : Option (Bool) := if (l0.length : Int) = (l1.length : Int) then (laws_sameInts.l0 k l0 l1 0) else (some false)
set_option maxHeartbeats 8000000 in
set_option maxRecDepth 100000 in
theorem laws_sameInts.calls (k : Nat) (A0 : Option Addr) (c0 : Nat) (l0 : List Int) (A1 : Option Addr) (c1 : Nat) (l1 : List Int) (r : Bool) (w : World) (hr0 : Kd.C (Kd.int .i64) w A0 l0.length l0) (hc0 : l0.length ≤ c0) (hr1 : Kd.C (Kd.int .i64) w A1 l1.length l1) (hc1 : l1.length ≤ c1) (h : laws_sameInts.f k l0 l1 = some r) :
  Calls Try.prog 16 #[.slice A0 l0.length c0, .slice A1 l1.length c1] w fun e w' => e = .returned (.bool r) ∧ Drawn0 w w' := by
 have HR0 := Aside0.mk hr0
 have HC0 := Aside0.mk hc0
 clear hr0 hc0
 have HR1 := Aside0.mk hr1
 have HC1 := Aside0.mk hc1
 clear hr1 hc1
 have H : (if (l0.length : Int) = (l1.length : Int) then (laws_sameInts.l0 k l0 l1 0) else (some false)) = some r := h
 clear h
 by_cases c3 : (l0.length : Int) = (l1.length : Int)
 ·rw [if_pos c3] at H
  have c3b0 : ((l0.length : Int) == (l1.length : Int)) = true := beq_iff_eq.mpr c3
  have c3b1 : ((l0.length : Int) != (l1.length : Int)) = false := bne_eq_false_iff_eq.mpr c3
  have c3b2 : (l0.length == l1.length) = true := by first | simpa using c3 | (simp at c3 ⊢; omega)
  clear c3
  have H' := Aside0.mk H; clear H
  go_enter Try.func16, Try.ntmps16
  go_wp2
  repeat (go_quiet (fail); try go_wp2)
  go_loopg [5] k (fun kq v5 w' => ∃ (x5_1 : Int), v5 = .int .i64 x5_1 ∧ Aside0 (laws_sameInts.l0 kq l0 l1 x5_1 = some r) ∧ Aside0 (kq ≤ k) ∧ Drawn0 w w')
  case atStart => exact ⟨(0), zF, H', ⟨Nat.le_refl _⟩, by repeat (first | exact Drawn0.refl _ | apply Drawn0.step)⟩
  case round =>
  clear H'
  try clear c3
  try clear c3b0
  try clear c3b1
  try clear c3b2
  obtain ⟨x5_1, rfl, HA, HK1, ⟨m1, rfl⟩⟩ := hrel
  cases gk with
  | zero => exact absurd HA.out (by simp [laws_sameInts.l0])
  | succ k1 =>
  have H := HA.out
  clear HA
  simp only [laws_sameInts.l0] at H
  by_cases c4 : x5_1 < (l0.length : Int)
  ·rw [if_pos c4] at H
   have c4b0 : decide (x5_1 < (l0.length : Int)) = true := decide_eq_true c4
   clear c4
   by_cases c5 : 0 ≤ x5_1
   ·rw [if_pos c5] at H
    have c5b0 : decide (0 ≤ x5_1) = true := decide_eq_true c5
    clear c5
    by_cases c6 : x5_1 < (l1.length : Int)
    ·rw [if_pos c6] at H
     have c6b0 : decide (x5_1 < (l1.length : Int)) = true := decide_eq_true c6
     clear c6
     by_cases c7 : (rd l0 x5_1) = (rd l1 x5_1)
     ·rw [if_pos c7] at H
      have c7b0 : ((rd l0 x5_1) == (rd l1 x5_1)) = true := beq_iff_eq.mpr c7
      have c7b1 : ((rd l0 x5_1) != (rd l1 x5_1)) = false := bne_eq_false_iff_eq.mpr c7
      clear c7
      have H' := Aside0.mk H; clear H
      have p475 : 0 ≤ (x5_1 : Int) := zA
      have q475 : x5_1 < (l0.length : Int) := zA
      obtain ⟨ad475, e475, hx475_0⟩ := Kd.at_int HR0.out x5_1 p475 q475
      cases e475
      replace p475 := eq_true p475
      replace q475 := eq_true q475
      have p476 : 0 ≤ (x5_1 : Int) := zA
      have q476 : x5_1 < (l1.length : Int) := zA
      obtain ⟨ad476, e476, hx476_0⟩ := Kd.at_int HR1.out x5_1 p476 q476
      cases e476
      replace p476 := eq_true p476
      replace q476 := eq_true q476
      go_wp2
      repeat (go_quiet (fail); try go_wp2)
      go_roundg k1
      case measure => have := HK1.out; omega
      case rel => exact ⟨(wrap64 (x5_1 + 1)), zF, H', ⟨by have := HK1.out; omega⟩, by repeat (first | exact Drawn0.refl _ | apply Drawn0.step)⟩
     rw [if_neg c7] at H
     have c7b0 : ((rd l0 x5_1) == (rd l1 x5_1)) = false := beq_eq_false_iff_ne.mpr c7
     have c7b1 : ((rd l0 x5_1) != (rd l1 x5_1)) = true := bne_iff_ne.mpr c7
     obtain rfl := Option.some.inj H
     have p475 : 0 ≤ (x5_1 : Int) := zA
     have q475 : x5_1 < (l0.length : Int) := zA
     obtain ⟨ad475, e475, hx475_0⟩ := Kd.at_int HR0.out x5_1 p475 q475
     cases e475
     replace p475 := eq_true p475
     replace q475 := eq_true q475
     have p476 : 0 ≤ (x5_1 : Int) := zA
     have q476 : x5_1 < (l1.length : Int) := zA
     obtain ⟨ad476, e476, hx476_0⟩ := Kd.at_int HR1.out x5_1 p476 q476
     cases e476
     replace p476 := eq_true p476
     replace q476 := eq_true q476
     go_wp2
     repeat (go_quiet (fail); try go_wp2)
     go_ret
     exact ⟨by first | rfl | (simp; done) | (simp [*]; done), by repeat (first | exact Drawn0.refl _ | apply Drawn0.step)⟩
    rw [if_neg c6] at H
    exact absurd H (by simp)
   rw [if_neg c5] at H
   exact absurd H (by simp)
  rw [if_neg c4] at H
  have c4b0 : decide (x5_1 < (l0.length : Int)) = false := decide_eq_false c4
  clear c4
  obtain rfl := Option.some.inj H
  go_wp2
  repeat (go_quiet (fail); try go_wp2)
  go_ret
  exact ⟨by first | rfl | (simp; done) | (simp [*]; done), by repeat (first | exact Drawn0.refl _ | apply Drawn0.step)⟩
 rw [if_neg c3] at H
 have c3b0 : ((l0.length : Int) == (l1.length : Int)) = false := beq_eq_false_iff_ne.mpr c3
 have c3b1 : ((l0.length : Int) != (l1.length : Int)) = true := bne_iff_ne.mpr c3
 have c3b2 : (l0.length == l1.length) = false := by first | simpa using c3 | (simp at c3 ⊢; omega)
 obtain rfl := Option.some.inj H
 go_enter Try.func16, Try.ntmps16
 go_wp2
 repeat (go_quiet (fail); try go_wp2)
 go_ret
 exact ⟨by first | rfl | (simp; done) | (simp [*]; done), by repeat (first | exact Drawn0.refl _ | apply Drawn0.step)⟩
/-! ### slices_Index_int_int: function 157 -/
def slices_Index_int_int.l0 : Nat → List Int → Int → Int → Int → Option (Int)
 | 0, _, _, _, _ => none
 | k + 1, x0, x1, x7, x8 => if x8 < x7 then (if 0 ≤ x8 then (if x8 < (x0.length : Int) then (if x1 = (rd x0 x8) then (some x8) else (slices_Index_int_int.l0 k x0 x1 x7 (wrap64 (x8 + 1)))) else (none)) else (none)) else (some (-1))
def slices_Index_int_int.f (k : Nat) (l0 : List Int) (a1 : Int) : Option (Int) := slices_Index_int_int.l0 k l0 a1 (l0.length : Int) 0
theorem slices_Index_int_int.mono_l : ∀ k, (∀ y0 y1 y2 y3, LeO (slices_Index_int_int.l0 k y0 y1 y2 y3) (slices_Index_int_int.l0 (k + 1) y0 y1 y2 y3))
 | 0 => fun _ _ _ _ r h => by simp [slices_Index_int_int.l0] at h
 | k + 1 => by
  have ih0 := slices_Index_int_int.mono_l k
  ·intro y0 y1 y2 y3
   unfold slices_Index_int_int.l0
   repeat' first
   | (with_reducible first | exact ih0 .. | exact LeO.refl _ | exact LeO.none _ | refine LeO.ite ?_ ?_ | refine LeO.bind ?_ (fun _ => ?_))
   | exact ih0 .. | exact LeO.none _ | refine LeO.ite ?_ ?_ | refine LeO.bind ?_ (fun _ => ?_)
theorem slices_Index_int_int.mono : ∀ a0 a1 k, LeO (slices_Index_int_int.f k a0 a1) (slices_Index_int_int.f (k + 1) a0 a1) := by
 intro a0 a1 k
 have ih0 := slices_Index_int_int.mono_l k
 unfold slices_Index_int_int.f
 repeat' first
   | (with_reducible first | exact ih0 .. | exact LeO.refl _ | exact LeO.none _ | refine LeO.ite ?_ ?_ | refine LeO.bind ?_ (fun _ => ?_))
   | exact ih0 .. | exact LeO.none _ | refine LeO.ite ?_ ?_ | refine LeO.bind ?_ (fun _ => ?_)
set_option maxHeartbeats 8000000 in
set_option maxRecDepth 100000 in
theorem slices_Index_int_int.calls (k : Nat) (A0 : Option Addr) (c0 : Nat) (l0 : List Int) (a1 : Int) (r : Int) (w : World) (hr0 : Kd.C (Kd.int .i64) w A0 l0.length l0) (hc0 : l0.length ≤ c0) (h : slices_Index_int_int.f k l0 a1 = some r) :
  Calls Try.prog 157 #[.slice A0 l0.length c0, .int .i64 a1] w fun e w' => e = .returned (.int .i64 r) ∧ Drawn0 w w' := by
 have HR0 := Aside0.mk hr0
 have HC0 := Aside0.mk hc0
 clear hr0 hc0
 have H : (slices_Index_int_int.l0 k l0 a1 (l0.length : Int) 0) = some r := h
 clear h
 have H' := Aside0.mk H; clear H
 go_enter Try.func157, Try.ntmps157
 go_wp2
 go_loopg [8] k (fun kq v8 w' => ∃ (x8_1 : Int), v8 = .int .i64 x8_1 ∧ Aside0 (slices_Index_int_int.l0 kq l0 a1 (l0.length : Int) x8_1 = some r) ∧ Aside0 (kq ≤ k) ∧ Drawn0 w w')
 case atStart => exact ⟨(0), zF, H', ⟨Nat.le_refl _⟩, by repeat (first | exact Drawn0.refl _ | apply Drawn0.step)⟩
 case round =>
 clear H'
 obtain ⟨x8_1, rfl, HA, HK1, ⟨m1, rfl⟩⟩ := hrel
 cases gk with
 | zero => exact absurd HA.out (by simp [slices_Index_int_int.l0])
 | succ k1 =>
 have H := HA.out
 clear HA
 simp only [slices_Index_int_int.l0] at H
 by_cases c3 : x8_1 < (l0.length : Int)
 ·rw [if_pos c3] at H
  have c3b0 : decide (x8_1 < (l0.length : Int)) = true := decide_eq_true c3
  clear c3
  by_cases c4 : 0 ≤ x8_1
  ·rw [if_pos c4] at H
   have c4b0 : decide (0 ≤ x8_1) = true := decide_eq_true c4
   clear c4
   by_cases c5 : x8_1 < (l0.length : Int)
   ·rw [if_pos c5] at H
    have c5b0 : decide (x8_1 < (l0.length : Int)) = true := decide_eq_true c5
    clear c5
    by_cases c6 : a1 = (rd l0 x8_1)
    ·rw [if_pos c6] at H
     have c6b0 : (a1 == (rd l0 x8_1)) = true := beq_iff_eq.mpr c6
     have c6b1 : (a1 != (rd l0 x8_1)) = false := bne_eq_false_iff_eq.mpr c6
     clear c6
     obtain rfl := Option.some.inj H
     have p510 : 0 ≤ (x8_1 : Int) := zA
     have q510 : x8_1 < (l0.length : Int) := zA
     obtain ⟨ad510, e510, hx510_0⟩ := Kd.at_int HR0.out x8_1 p510 q510
     cases e510
     replace p510 := eq_true p510
     replace q510 := eq_true q510
     go_wp2
     go_ret
     exact ⟨by first | rfl | (simp; done) | (simp [*]; done), by repeat (first | exact Drawn0.refl _ | apply Drawn0.step)⟩
    rw [if_neg c6] at H
    have c6b0 : (a1 == (rd l0 x8_1)) = false := beq_eq_false_iff_ne.mpr c6
    have c6b1 : (a1 != (rd l0 x8_1)) = true := bne_iff_ne.mpr c6
    have H' := Aside0.mk H; clear H
    have p510 : 0 ≤ (x8_1 : Int) := zA
    have q510 : x8_1 < (l0.length : Int) := zA
    obtain ⟨ad510, e510, hx510_0⟩ := Kd.at_int HR0.out x8_1 p510 q510
    cases e510
    replace p510 := eq_true p510
    replace q510 := eq_true q510
    go_wp2
    go_roundg k1
    case measure => have := HK1.out; omega
    case rel => exact ⟨(wrap64 (x8_1 + 1)), zF, H', ⟨by have := HK1.out; omega⟩, by repeat (first | exact Drawn0.refl _ | apply Drawn0.step)⟩
   rw [if_neg c5] at H
   exact absurd H (by simp)
  rw [if_neg c4] at H
  exact absurd H (by simp)
 rw [if_neg c3] at H
 have c3b0 : decide (x8_1 < (l0.length : Int)) = false := decide_eq_false c3
 clear c3
 obtain rfl := Option.some.inj H
 go_wp2
 go_ret
 exact ⟨by first | rfl | (simp; done) | (simp [*]; done), by repeat (first | exact Drawn0.refl _ | apply Drawn0.step)⟩
/-! ### slices_Contains_int_int: function 146 -/
def slices_Contains_int_int.f (k : Nat) (l0 : List Int) (a1 : Int) : Option (Bool) := (slices_Index_int_int.f k l0 a1).bind fun t511 => (some (decide (t511 ≥ 0)))
theorem slices_Contains_int_int.mono : ∀ a0 a1 k, LeO (slices_Contains_int_int.f k a0 a1) (slices_Contains_int_int.f (k + 1) a0 a1) := by
 intro a0 a1 k
 unfold slices_Contains_int_int.f
 repeat' first
   | (with_reducible exact slices_Index_int_int.mono _ _ _)
   | (with_reducible exact LeO.refl _)
   | (with_reducible exact LeO.none _)
   | (with_reducible refine LeO.ite ?_ ?_)
   | (with_reducible refine LeO.bind ?_ (fun _ => ?_))
   | exact slices_Index_int_int.mono _ _ _
   | exact LeO.none _
   | refine LeO.ite ?_ ?_
   | refine LeO.bind ?_ (fun _ => ?_)
set_option maxHeartbeats 8000000 in
set_option maxRecDepth 100000 in
theorem slices_Contains_int_int.calls (k : Nat) (A0 : Option Addr) (c0 : Nat) (l0 : List Int) (a1 : Int) (r : Bool) (w : World) (hr0 : Kd.C (Kd.int .i64) w A0 l0.length l0) (hc0 : l0.length ≤ c0) (h : slices_Contains_int_int.f k l0 a1 = some r) :
  Calls Try.prog 146 #[.slice A0 l0.length c0, .int .i64 a1] w fun e w' => e = .returned (.bool r) ∧ Drawn0 w w' := by
 have HR0 := Aside0.mk hr0
 have HC0 := Aside0.mk hc0
 clear hr0 hc0
 have H : ((slices_Index_int_int.f k l0 a1).bind fun t511 => (some (decide (t511 ≥ 0)))) = some r := h
 clear h
 obtain ⟨t511, A3, H⟩ := zO H
 obtain rfl := Option.some.inj H
 go_enter Try.func146, Try.ntmps146
 go_wp2_with (first | ((with_reducible refine gate_callee (f := 157) rfl ?_); refine zD (some 7) Try.func157 #[.slice A0 l0.length c0, .int .i64 a1] ?_; (with_reducible refine (slices_Index_int_int.calls k _ _ l0 a1 t511 _ ?side1 ?side2 A3.out).mono ?_); (case side1 => repeat (first | exact HR0.out | (with_reducible refine Kd.C_alloc ?_ _) | (with_reducible refine Kd.C_drewN ?_ _) | (with_reducible refine Kd.C_drew ?_))); (case side2 => exact HC0.out); rintro e w' ⟨rfl, ⟨nd, rfl⟩⟩; refine ⟨_, rfl, ?_⟩))
 go_ret
 exact ⟨by first | rfl | (simp; done) | (simp [*]; done), by repeat (first | exact Drawn0.refl _ | apply Drawn0.step)⟩
/-! ### impl_areDifferent: function 95 -/
def impl_areDifferent.l0 : Nat → Int → List Int → List Int → Int → Int → Option (Bool)
 | 0, _, _, _, _, _ => none
 | k + 1, x0, x1, x7, x8, x9 => if x9 < x8 then (if 0 ≤ x9 then (if x9 < (x7.length : Int) then ((impl_isElement.f x0 (rd x7 x9)).bind fun t513 => (if t513 = true then (if x9 ≤ (x1.length : Int) then ((slices_Contains_int_int.f k (x1.take (x9 : Int).toNat) (rd x7 x9)).bind fun t515 => (if t515 = true then (some false) else (impl_areDifferent.l0 k x0 x1 x7 x8 (wrap64 (x9 + 1))))) else (none)) else (some false))) else (none)) else (none)) else (some true)
def impl_areDifferent.f (k : Nat) (a0 : Int) (l1 : List Int) : Option (Bool) := impl_areDifferent.l0 k a0 l1 l1 (l1.length : Int) 0
set_option maxHeartbeats 8000000 in
set_option maxRecDepth 100000 in
theorem impl_areDifferent.calls (k : Nat) (a0 : Int) (A1 : Option Addr) (c1 : Nat) (l1 : List Int) (r : Bool) (w : World) (hr1 : Kd.C (Kd.int .i64) w A1 l1.length l1) (hc1 : l1.length ≤ c1) (h : impl_areDifferent.f k a0 l1 = some r) :
  Calls Try.prog 95 #[.int .i64 a0, .slice A1 l1.length c1] w fun e w' => e = .returned (.bool r) ∧ Drawn0 w w' := by
 have HR1 := Aside0.mk hr1
 have HC1 := Aside0.mk hc1
 clear hr1 hc1
 have H : (impl_areDifferent.l0 k a0 l1 l1 (l1.length : Int) 0) = some r := h
 clear h
 have H' := Aside0.mk H; clear H
 go_enter Try.func95, Try.ntmps95
 go_wp2
 go_loopg [9] k (fun kq v9 w' => ∃ (x9_1 : Int), v9 = .int .i64 x9_1 ∧ Aside0 (impl_areDifferent.l0 kq a0 l1 l1 (l1.length : Int) x9_1 = some r) ∧ Aside0 (kq ≤ k) ∧ Drawn0 w w')
 case atStart => exact ⟨(0), zF, H', ⟨Nat.le_refl _⟩, by repeat (first | exact Drawn0.refl _ | apply Drawn0.step)⟩
 case round =>
 clear H'
 obtain ⟨x9_1, rfl, HA, HK1, ⟨m1, rfl⟩⟩ := hrel
 cases gk with
 | zero => exact absurd HA.out (by simp [impl_areDifferent.l0])
 | succ k1 =>
 have H := HA.out
 clear HA
 simp only [impl_areDifferent.l0] at H
 by_cases c3 : x9_1 < (l1.length : Int)
 ·rw [if_pos c3] at H
  have c3b0 : decide (x9_1 < (l1.length : Int)) = true := decide_eq_true c3
  clear c3
  by_cases c4 : 0 ≤ x9_1
  ·rw [if_pos c4] at H
   have c4b0 : decide (0 ≤ x9_1) = true := decide_eq_true c4
   clear c4
   by_cases c5 : x9_1 < (l1.length : Int)
   ·rw [if_pos c5] at H
    have c5b0 : decide (x9_1 < (l1.length : Int)) = true := decide_eq_true c5
    clear c5
    obtain ⟨t513, A6, H⟩ := zO H
    by_cases c7 : t513 = true
    ·subst c7
     replace H := (if_pos rfl).symm.trans H
     have c8b0 := eq_true (zA : 0 ≤ x9_1)
     by_cases c9 : x9_1 ≤ (l1.length : Int)
     ·rw [if_pos c9] at H
      have c9b0 := eq_true c9
      have c9b1 : decide (x9_1 ≤ (l1.length : Int)) = true := decide_eq_true c9
      clear c9
      obtain ⟨t515, A10, H⟩ := zO H
      by_cases c11 : t515 = true
      ·subst c11
       replace H := (if_pos rfl).symm.trans H
       obtain rfl := Option.some.inj H
       have p512 : 0 ≤ (x9_1 : Int) := zA
       have q512 : x9_1 < (l1.length : Int) := zA
       obtain ⟨ad512, e512, hx512_0⟩ := Kd.at_int HR1.out x9_1 p512 q512
       cases e512
       replace p512 := eq_true p512
       replace q512 := eq_true q512
       go_wp2_with (first | ((with_reducible refine gate_callee (f := 86) rfl ?_); refine zD (some 16) Try.func86 #[.int .i64 a0, .int .i64 (rd l1 x9_1)] ?_; (with_reducible refine (impl_isElement.calls a0 (rd l1 x9_1) true _ A6.out).mono ?_); rintro e w' ⟨rfl, ⟨nd, rfl⟩⟩; refine ⟨_, rfl, ?_⟩; obtain ⟨i012, hi012, _, hsz12, _⟩ := info_parts info3; obtain ⟨hcut12, hA12, hC12⟩ := print_take_of (P := Try.prog) (Value.int .i64) 0 27 3 .i64 Try.underlying27 hi012 hsz12 (some ad512) c1 l1 x9_1 (zA) (zA) HC1.out; have HR514 := Aside0.mk (Kd.C_of_reads (h1 := fun _ => rfl) (hA12 _ (Kd.reads_of_C HR1.out))); have HC514 := Aside0.mk hC12; clear hA12 hC12 hi012 hsz12) | (go_at_call 146; have hq_ : (x9_1 : Int) < (l1.length : Int) := zA; refine calls_of_args (args' := #[.slice _ (l1.take (x9_1 : Int).toNat).length _, .int .i64 (rd l1 x9_1)]) (by rw [List.length_take, Nat.min_eq_left (by omega)]) ?_; clear hq_; (with_reducible refine (slices_Contains_int_int.calls k1 _ _ (l1.take (x9_1 : Int).toNat) (rd l1 x9_1) true _ ?side1 ?side2 A10.out).mono ?_); (case side1 => repeat (first | exact HR514.out | (with_reducible refine Kd.C_alloc ?_ _) | (with_reducible refine Kd.C_drewN ?_ _) | (with_reducible refine Kd.C_drew ?_))); (case side2 => exact HC514.out); rintro e w' ⟨rfl, ⟨nd, rfl⟩⟩))
       go_ret
       exact ⟨by first | rfl | (simp; done) | (simp [*]; done), by repeat (first | exact Drawn0.refl _ | apply Drawn0.step)⟩
      replace c11 := Bool.eq_false_iff.mpr c11
      subst c11
      replace H := (if_neg zFf).symm.trans H
      have H' := Aside0.mk H; clear H
      have p512 : 0 ≤ (x9_1 : Int) := zA
      have q512 : x9_1 < (l1.length : Int) := zA
      obtain ⟨ad512, e512, hx512_0⟩ := Kd.at_int HR1.out x9_1 p512 q512
      cases e512
      replace p512 := eq_true p512
      replace q512 := eq_true q512
      go_wp2_with (first | ((with_reducible refine gate_callee (f := 86) rfl ?_); refine zD (some 16) Try.func86 #[.int .i64 a0, .int .i64 (rd l1 x9_1)] ?_; (with_reducible refine (impl_isElement.calls a0 (rd l1 x9_1) true _ A6.out).mono ?_); rintro e w' ⟨rfl, ⟨nd, rfl⟩⟩; refine ⟨_, rfl, ?_⟩; obtain ⟨i013, hi013, _, hsz13, _⟩ := info_parts info3; obtain ⟨hcut13, hA13, hC13⟩ := print_take_of (P := Try.prog) (Value.int .i64) 0 27 3 .i64 Try.underlying27 hi013 hsz13 (some ad512) c1 l1 x9_1 (zA) (zA) HC1.out; have HR514 := Aside0.mk (Kd.C_of_reads (h1 := fun _ => rfl) (hA13 _ (Kd.reads_of_C HR1.out))); have HC514 := Aside0.mk hC13; clear hA13 hC13 hi013 hsz13) | (go_at_call 146; have hq_ : (x9_1 : Int) < (l1.length : Int) := zA; refine calls_of_args (args' := #[.slice _ (l1.take (x9_1 : Int).toNat).length _, .int .i64 (rd l1 x9_1)]) (by rw [List.length_take, Nat.min_eq_left (by omega)]) ?_; clear hq_; (with_reducible refine (slices_Contains_int_int.calls k1 _ _ (l1.take (x9_1 : Int).toNat) (rd l1 x9_1) false _ ?side1 ?side2 A10.out).mono ?_); (case side1 => repeat (first | exact HR514.out | (with_reducible refine Kd.C_alloc ?_ _) | (with_reducible refine Kd.C_drewN ?_ _) | (with_reducible refine Kd.C_drew ?_))); (case side2 => exact HC514.out); rintro e w' ⟨rfl, ⟨nd, rfl⟩⟩))
      go_roundg k1
      case measure => have := HK1.out; omega
      case rel => exact ⟨(wrap64 (x9_1 + 1)), zF, H', ⟨by have := HK1.out; omega⟩, by repeat (first | exact Drawn0.refl _ | apply Drawn0.step)⟩
     rw [if_neg c9] at H
     exact absurd H (by simp)
    replace c7 := Bool.eq_false_iff.mpr c7
    subst c7
    replace H := (if_neg zFf).symm.trans H
    obtain rfl := Option.some.inj H
    have p512 : 0 ≤ (x9_1 : Int) := zA
    have q512 : x9_1 < (l1.length : Int) := zA
    obtain ⟨ad512, e512, hx512_0⟩ := Kd.at_int HR1.out x9_1 p512 q512
    cases e512
    replace p512 := eq_true p512
    replace q512 := eq_true q512
    go_wp2_with (first | ((with_reducible refine gate_callee (f := 86) rfl ?_); refine zD (some 16) Try.func86 #[.int .i64 a0, .int .i64 (rd l1 x9_1)] ?_; (with_reducible refine (impl_isElement.calls a0 (rd l1 x9_1) false _ A6.out).mono ?_); rintro e w' ⟨rfl, ⟨nd, rfl⟩⟩; refine ⟨_, rfl, ?_⟩))
    go_ret
    exact ⟨by first | rfl | (simp; done) | (simp [*]; done), by repeat (first | exact Drawn0.refl _ | apply Drawn0.step)⟩
   rw [if_neg c5] at H
   exact absurd H (by simp)
  rw [if_neg c4] at H
  exact absurd H (by simp)
 rw [if_neg c3] at H
 have c3b0 : decide (x9_1 < (l1.length : Int)) = false := decide_eq_false c3
 clear c3
 obtain rfl := Option.some.inj H
 go_wp2
 go_ret
 exact ⟨by first | rfl | (simp; done) | (simp [*]; done), by repeat (first | exact Drawn0.refl _ | apply Drawn0.step)⟩
/-! ### impl_CircuitOf: function 18 -/
def impl_CircuitOf.j0 : Nat → Int → Int → Int → Int → Bool → Int → ByteArray → Option (ByteArray)
 | 0, _, _, _, _, _, _, _ => none
 | k + 1, x1, x2, x3, x4, x24, x517000, x517001 => if x24 = true then (some (⟨#[]⟩ : ByteArray)) else ((impl_tableOf.f k x517000 x517001).bind fun t522 => (if t522.length = 344 then ((impl_chi_circuit.f k t522 x1 x2 x3 x4).bind fun t525 => (some t525)) else (none)))
def impl_CircuitOf.f (k : Nat) (a0_0 : Int) (a0_1 : ByteArray) (a1 : Int) (a2 : Int) (a3 : Int) (a4 : Int) : Option (ByteArray) := (impl_AreSigns.f k a0_0 a0_1).bind fun t517 => (if t517 = true then ((impl_areDifferent.f k a0_0 (([a1, a2, a3, a4] : List Int))).bind fun t521 => (impl_CircuitOf.j0 k a1 a2 a3 a4 (!t521) a0_0 a0_1)) else (impl_CircuitOf.j0 k a1 a2 a3 a4 true a0_0 a0_1))
set_option maxHeartbeats 8000000 in
set_option maxRecDepth 100000 in
theorem impl_CircuitOf.calls (k : Nat) (a0_0 : Int) (a0_1 : ByteArray) (a1 : Int) (a2 : Int) (a3 : Int) (a4 : Int) (r : ByteArray) (w : World) (h : impl_CircuitOf.f k a0_0 a0_1 a1 a2 a3 a4 = some r) :
  Calls Try.prog 18 #[.agg #[.int .i64 a0_0, .string a0_1], .int .i64 a1, .int .i64 a2, .int .i64 a3, .int .i64 a4] w fun e w' => e = .returned (.string r) ∧ Below w.heap.size w w' := by
 have hu25 := Try.underlying25
 have HB := Aside0.mk (Below.refl w.heap.size w)
 have H : ((impl_AreSigns.f k a0_0 a0_1).bind fun t517 => (if t517 = true then ((impl_areDifferent.f k a0_0 (([a1, a2, a3, a4] : List Int))).bind fun t521 => (impl_CircuitOf.j0 k a1 a2 a3 a4 (!t521) a0_0 a0_1)) else (impl_CircuitOf.j0 k a1 a2 a3 a4 true a0_0 a0_1))) = some r := h
 clear h
 have HC6 := Aside0.mk H
 clear H
 go_enter Try.func18, Try.ntmps18
 go_upto_region 1 with (first | ((with_reducible refine gate_dst (N := 5) rfl ?_); (try (refine gate_guard (by rfl) ?_; dsimp only)); refine zBx (N := 5) #[.int .i64 a0_0, .string a0_1] 25 ?_; intro gb516 hg w7 hbox hb; have BK516 := Aside0.mk (hbox); have GW516 := zS hg; have GE516 := zS hg; replace HB := zX hb; clear hb hbox hg))
 (try simp only [Act.put, List.setIfInBounds_toArray, List.set_cons_zero, List.set_cons_succ])
 go_cut [24] (fun v24 wc => ∃ (kq : Nat) (x24_5 : Bool), v24 = .bool x24_5 ∧ Aside0 (impl_CircuitOf.j0 kq a1 a2 a3 a4 x24_5 a0_0 a0_1 = some r) ∧ Aside0 (kq ≤ k) ∧ Aside0 (wc.heap[gb516]? = some (.cells #[.int .i64 a0_0, .string a0_1] 25 (0, 0))) ∧ Aside0 (Below w.heap.size w wc))
 case first =>
  have H := HC6.out
  clear HC6
  obtain ⟨t517, A8, H⟩ := zO H
  by_cases c9 : t517 = true
  ·subst c9
   replace H := (if_pos rfl).symm.trans H
   obtain ⟨y518, hy518⟩ : ∃ y_ : List Int, y_ = (([a1, a2, a3, a4] : List Int)) := ⟨_, rfl⟩
   replace H : ((impl_areDifferent.f k a0_0 y518).bind fun t521 => (impl_CircuitOf.j0 k a1 a2 a3 a4 (!t521) a0_0 a0_1)) = some r := by first | (rw [hy518]; with_reducible exact H) | (have H2_ := (Option.bind_some _ _).symm.trans H; rw [hy518]; with_reducible exact H2_) | (have H2_ := (Option.bind_some _ _).symm.trans H; with_reducible exact H2_) | with_reducible exact H | (rw [hy518]; exact H) | exact H
   have Ny518 := Aside0.mk hy518
   clear hy518
   obtain ⟨t521, A10, H⟩ := zO H
   have H' := Aside0.mk H; clear H
   obtain ⟨hcz11_0, hcz11_1, hfz11_0, hfz11_1⟩ := zq2 BK516.out
   go_wp2_with (first | ((with_reducible refine gate_callee (f := 82) rfl ?_); refine zD (some 12) Try.func82 #[.agg #[.int .i64 a0_0, .string a0_1]] ?_; (with_reducible refine (impl_AreSigns.calls k a0_0 a0_1 true _ A8.out).mono ?_); rintro e w12 ⟨rfl, hb⟩; refine ⟨_, rfl, ?_⟩; replace BK516 := zV BK516.out hb; replace HB := zX1 GE516.out hb; (try clear hb); obtain ⟨hcz13_0, hcz13_1, hfz13_0, hfz13_1⟩ := zq2 BK516.out) | ((with_reducible refine gate_dst (N := 21) rfl ?_); (try (refine gate_guard (by rfl) ?_; dsimp only)); refine Kd.R_lit (Kd.int .i64) _ 3 ?hg (N := 21) ?hd (xs := ([a1, a2, a3, a4] : List Int)) (inner := [.int .i64 a1, .int .i64 a2, .int .i64 a3, .int .i64 a4]) (ok := fun _ => True) (okp := fun _ => True) ?hr ?hp (fun _ hk => hk) trivial (Below.refl _ _) (Nat.le_refl _) (by simp) ?_; (case hd => rfl); (case hg => rfl); (case hr => first | (go_simp; done) | (go_simp; rfl)); (case hp => exact (Reps.one (show Kd.M (Kd.int .i64) _ _ _ a1 [.int .i64 a1] from rfl) (Reps.one (show Kd.M (Kd.int .i64) _ _ _ a2 [.int .i64 a2] from rfl) (Reps.one (show Kd.M (Kd.int .i64) _ _ _ a3 [.int .i64 a3] from rfl) (Reps.one (show Kd.M (Kd.int .i64) _ _ _ a4 [.int .i64 a4] from rfl) (Reps.none _ _)))))); intro v519 w14 ho15 hb hg_ hnew_; clear hg_ hnew_; (first | rw [← Ny518.out] at ho15 | (simp only [Int.reduceToNat] at ho15; rw [← Ny518.out] at ho15)); have HO520 := Aside0.mk (Kd.R_lower ho15 (below_size (zG GE516.out))); replace BK516 := zV BK516.out hb; replace HB := zX1 GE516.out hb; clear hb ho15; obtain ⟨Ao16, co16, eo16⟩ := Kd.R_slice HO520.out; subst eo16) | (go_at_call 95; (with_reducible refine (impl_areDifferent.calls k a0_0 _ _ y518 t521 _ ?side1 ?side2 A10.out).mono ?_); (case side1 => repeat (first | exact (Kd.R_reads' HO520.out).2.2 | (with_reducible refine Kd.C_alloc ?_ _) | (with_reducible refine Kd.C_drewN ?_ _) | (with_reducible refine Kd.C_drew ?_))); (case side2 => exact (Kd.R_reads' HO520.out).2.1); rintro e w' ⟨rfl, ⟨nd, rfl⟩⟩))
   go_meet
   case rel => exact ⟨_, (!t521), zF, H', ⟨by first | omega | exact Nat.le_refl _⟩, ⟨zK BK516.out⟩, ⟨zG GE516.out⟩⟩
  replace c9 := Bool.eq_false_iff.mpr c9
  subst c9
  replace H := (if_neg zFf).symm.trans H
  have H' := Aside0.mk H; clear H
  obtain ⟨hcz17_0, hcz17_1, hfz17_0, hfz17_1⟩ := zq2 BK516.out
  go_wp2_with (first | ((with_reducible refine gate_callee (f := 82) rfl ?_); refine zD (some 12) Try.func82 #[.agg #[.int .i64 a0_0, .string a0_1]] ?_; (with_reducible refine (impl_AreSigns.calls k a0_0 a0_1 false _ A8.out).mono ?_); rintro e w18 ⟨rfl, hb⟩; refine ⟨_, rfl, ?_⟩; replace BK516 := zV BK516.out hb; replace HB := zX1 GE516.out hb; (try clear hb)))
  go_meet
  case rel => exact ⟨_, (true), zF, H', ⟨by first | omega | exact Nat.le_refl _⟩, ⟨zK BK516.out⟩, ⟨zG GE516.out⟩⟩
 case rest =>
 clear HC6
 obtain ⟨kq, x24_5, rfl, HA, HJ5, BK516, HB⟩ := hcut
 cases kq with
 | zero => exact absurd HA.out (by simp [impl_CircuitOf.j0])
 | succ kj5 =>
 have H := HA.out
 clear HA
 simp only [impl_CircuitOf.j0] at H
 by_cases c19 : x24_5 = true
 ·subst c19
  replace H := (if_pos rfl).symm.trans H
  obtain rfl := Option.some.inj H
  go_wp2
  go_ret
  exact ⟨zE, zG GE516.out⟩
 replace c19 := Bool.eq_false_iff.mpr c19
 subst c19
 replace H := (if_neg zFf).symm.trans H
 obtain ⟨t522, A20, H⟩ := zO H
 by_cases c21 : t522.length = 344
 ·rw [if_pos c21] at H
  have c21b0 := eq_true c21
  have c21b1 : decide (t522.length = 344) = true := decide_eq_true c21
  clear c21
  obtain ⟨t525, A22, H⟩ := zO H
  obtain rfl := Option.some.inj H
  obtain ⟨hcz23_0, hcz23_1, hfz23_0, hfz23_1⟩ := zq2 BK516.out
  go_wp2_with (first | ((with_reducible refine gate_callee (f := 83) rfl ?_); refine zD (some 26) Try.func83 #[.agg #[.int .i64 a0_0, .string a0_1]] ?_; (with_reducible refine (impl_tableOf.calls kj5 a0_0 a0_1 t522 _ A20.out).mono ?_); rintro e w24 ⟨v523, rfl, ho0, hb⟩; refine ⟨_, rfl, ?_⟩; have HO524 := Aside0.mk (Kd.R_lower ho0 (below_size (zG GE516.out))); replace BK516 := zV BK516.out hb; replace HB := zX1 GE516.out hb; (try clear hb); (try clear ho0); obtain ⟨go25, co25, eo25, gb25, gl25, cl25, HG25⟩ := Kd.R_form HO524.out (by have hl_ := Nat.le_of_eq (Eq.symm (zA : t522.length = 344)); omega); (first | cases eo25 | (injection eo25 with ea_ en_ ec_; (first | subst ea_ | (injection ea_ with ea_; subst ea_)); subst ec_; clear en_)); have GB25 := Aside0.mk gb25; have GG25 := Aside0.mk HG25; clear gb25 gl25 HG25) | ((with_reducible refine gate_callee (f := 96) rfl ?_); refine zD (some 31) Try.func96 #[.pointer (some ⟨go25, 0, none⟩), .int .i64 a1, .int .i64 a2, .int .i64 a3, .int .i64 a4] ?_; (with_reducible refine (impl_chi_circuit.calls kj5 _ t522 a1 a2 a3 a4 t525 _ ?side1 ?side2 A22.out).mono ?_); (case side1 => repeat (first | exact (Kd.R_reads' HO524.out).2.2 | (with_reducible refine Kd.C_alloc ?_ _) | (with_reducible refine Kd.C_drewN ?_ _) | (with_reducible refine Kd.C_drew ?_))); (case side2 => exact (zA : t522.length = 344)); rintro e w26 ⟨rfl, hb⟩; refine ⟨_, rfl, ?_⟩; replace HO524 := zW HO524.out hb; replace BK516 := zV BK516.out hb; replace HB := zX1 GE516.out hb; (try clear hb)))
  go_ret
  exact ⟨zE, zG GE516.out⟩
 rw [if_neg c21] at H
 exact absurd H (by simp)
/-! ### spec_SignAt: function 97 -/
def spec_SignAt.f (k : Nat) (a0_0 : Int) (a0_1 : ByteArray) (a1 : Int) (a2 : Int) (a3 : Int) : Option (Int) := (spec_AreSigns.f k a0_0 a0_1).bind fun t527 => (if t527 = true then ((spec_l1In.f a1 0 (wrap64 (a0_0 - 1))).bind fun t528 => (if t528 = true then ((spec_l1In.f a2 0 (wrap64 (a0_0 - 1))).bind fun t529 => (if t529 = true then ((spec_l1In.f a3 0 (wrap64 (a0_0 - 1))).bind fun t530 => (if t530 = true then (if a1 = a2 then (some 0) else (if a2 = a3 then (some 0) else (if a1 = a3 then (some 0) else ((spec_l3At.f k a0_0 a0_1 a1 a2 a3).bind fun t531 => (some t531))))) else (some 0))) else (some 0))) else (some 0))) else (some 0))
set_option maxHeartbeats 8000000 in
set_option maxRecDepth 100000 in
theorem spec_SignAt.calls (k : Nat) (a0_0 : Int) (a0_1 : ByteArray) (a1 : Int) (a2 : Int) (a3 : Int) (r : Int) (w : World) (h : spec_SignAt.f k a0_0 a0_1 a1 a2 a3 = some r) :
  Calls Try.prog 97 #[.agg #[.int .i64 a0_0, .string a0_1], .int .i64 a1, .int .i64 a2, .int .i64 a3] w fun e w' => e = .returned (.int .i64 r) ∧ Below w.heap.size w w' := by
 have hu25 := Try.underlying25
 have HB := Aside0.mk (Below.refl w.heap.size w)
 have H : ((spec_AreSigns.f k a0_0 a0_1).bind fun t527 => (if t527 = true then ((spec_l1In.f a1 0 (wrap64 (a0_0 - 1))).bind fun t528 => (if t528 = true then ((spec_l1In.f a2 0 (wrap64 (a0_0 - 1))).bind fun t529 => (if t529 = true then ((spec_l1In.f a3 0 (wrap64 (a0_0 - 1))).bind fun t530 => (if t530 = true then (if a1 = a2 then (some 0) else (if a2 = a3 then (some 0) else (if a1 = a3 then (some 0) else ((spec_l3At.f k a0_0 a0_1 a1 a2 a3).bind fun t531 => (some t531))))) else (some 0))) else (some 0))) else (some 0))) else (some 0))) = some r := h
 clear h
 obtain ⟨t527, A5, H⟩ := zO H
 by_cases c6 : t527 = true
 ·subst c6
  replace H := (if_pos rfl).symm.trans H
  obtain ⟨t528, A7, H⟩ := zO H
  by_cases c8 : t528 = true
  ·subst c8
   replace H := (if_pos rfl).symm.trans H
   obtain ⟨t529, A9, H⟩ := zO H
   by_cases c10 : t529 = true
   ·subst c10
    replace H := (if_pos rfl).symm.trans H
    obtain ⟨t530, A11, H⟩ := zO H
    by_cases c12 : t530 = true
    ·subst c12
     replace H := (if_pos rfl).symm.trans H
     by_cases c13 : a1 = a2
     ·rw [if_pos c13] at H
      have c13b0 : (a1 == a2) = true := beq_iff_eq.mpr c13
      have c13b1 : (a1 != a2) = false := bne_eq_false_iff_eq.mpr c13
      clear c13
      obtain rfl := Option.some.inj H
      go_enter Try.func97, Try.ntmps97
      go_wp2_with (first | ((with_reducible refine gate_dst (N := 4) rfl ?_); refine zBx (N := 4) #[.int .i64 a0_0, .string a0_1] 25 ?_; intro gb526 hg w14 hbox hb; have BK526 := Aside0.mk (hbox); have GW526 := zS hg; have GE526 := zS hg; replace HB := zX hb; clear hb hbox hg; obtain ⟨hcz15_0, hcz15_1, hfz15_0, hfz15_1⟩ := zq2 BK526.out) | ((with_reducible refine gate_callee (f := 25) rfl ?_); refine zD (some 10) Try.func25 #[.agg #[.int .i64 a0_0, .string a0_1]] ?_; (with_reducible refine (spec_AreSigns.calls k a0_0 a0_1 true _ A5.out).mono ?_); rintro e w16 ⟨rfl, hb⟩; refine ⟨_, rfl, ?_⟩; replace BK526 := zV BK526.out hb; replace HB := zX1 GE526.out hb; (try clear hb); obtain ⟨hcz17_0, hcz17_1, hfz17_0, hfz17_1⟩ := zq2 BK526.out) | (go_at_call 89; (with_reducible refine (spec_l1In.calls a1 0 (wrap64 (a0_0 - 1)) true _ A7.out).mono ?_); rintro e w' ⟨rfl, ⟨nd, rfl⟩⟩) | (go_at_call 89; (with_reducible refine (spec_l1In.calls a2 0 (wrap64 (a0_0 - 1)) true _ A9.out).mono ?_); rintro e w' ⟨rfl, ⟨nd, rfl⟩⟩) | (go_at_call 89; (with_reducible refine (spec_l1In.calls a3 0 (wrap64 (a0_0 - 1)) true _ A11.out).mono ?_); rintro e w' ⟨rfl, ⟨nd, rfl⟩⟩))
      go_ret
      exact ⟨zE, zG GE526.out⟩
     rw [if_neg c13] at H
     have c13b0 : (a1 == a2) = false := beq_eq_false_iff_ne.mpr c13
     have c13b1 : (a1 != a2) = true := bne_iff_ne.mpr c13
     by_cases c18 : a2 = a3
     ·rw [if_pos c18] at H
      have c18b0 : (a2 == a3) = true := beq_iff_eq.mpr c18
      have c18b1 : (a2 != a3) = false := bne_eq_false_iff_eq.mpr c18
      clear c18
      obtain rfl := Option.some.inj H
      go_enter Try.func97, Try.ntmps97
      go_wp2_with (first | ((with_reducible refine gate_dst (N := 4) rfl ?_); refine zBx (N := 4) #[.int .i64 a0_0, .string a0_1] 25 ?_; intro gb526 hg w19 hbox hb; have BK526 := Aside0.mk (hbox); have GW526 := zS hg; have GE526 := zS hg; replace HB := zX hb; clear hb hbox hg; obtain ⟨hcz20_0, hcz20_1, hfz20_0, hfz20_1⟩ := zq2 BK526.out) | ((with_reducible refine gate_callee (f := 25) rfl ?_); refine zD (some 10) Try.func25 #[.agg #[.int .i64 a0_0, .string a0_1]] ?_; (with_reducible refine (spec_AreSigns.calls k a0_0 a0_1 true _ A5.out).mono ?_); rintro e w21 ⟨rfl, hb⟩; refine ⟨_, rfl, ?_⟩; replace BK526 := zV BK526.out hb; replace HB := zX1 GE526.out hb; (try clear hb); obtain ⟨hcz22_0, hcz22_1, hfz22_0, hfz22_1⟩ := zq2 BK526.out) | (go_at_call 89; (with_reducible refine (spec_l1In.calls a1 0 (wrap64 (a0_0 - 1)) true _ A7.out).mono ?_); rintro e w' ⟨rfl, ⟨nd, rfl⟩⟩) | (go_at_call 89; (with_reducible refine (spec_l1In.calls a2 0 (wrap64 (a0_0 - 1)) true _ A9.out).mono ?_); rintro e w' ⟨rfl, ⟨nd, rfl⟩⟩) | (go_at_call 89; (with_reducible refine (spec_l1In.calls a3 0 (wrap64 (a0_0 - 1)) true _ A11.out).mono ?_); rintro e w' ⟨rfl, ⟨nd, rfl⟩⟩))
      go_ret
      exact ⟨zE, zG GE526.out⟩
     rw [if_neg c18] at H
     have c18b0 : (a2 == a3) = false := beq_eq_false_iff_ne.mpr c18
     have c18b1 : (a2 != a3) = true := bne_iff_ne.mpr c18
     by_cases c23 : a1 = a3
     ·rw [if_pos c23] at H
      have c23b0 : (a1 == a3) = true := beq_iff_eq.mpr c23
      have c23b1 : (a1 != a3) = false := bne_eq_false_iff_eq.mpr c23
      clear c23
      obtain rfl := Option.some.inj H
      go_enter Try.func97, Try.ntmps97
      go_wp2_with (first | ((with_reducible refine gate_dst (N := 4) rfl ?_); refine zBx (N := 4) #[.int .i64 a0_0, .string a0_1] 25 ?_; intro gb526 hg w24 hbox hb; have BK526 := Aside0.mk (hbox); have GW526 := zS hg; have GE526 := zS hg; replace HB := zX hb; clear hb hbox hg; obtain ⟨hcz25_0, hcz25_1, hfz25_0, hfz25_1⟩ := zq2 BK526.out) | ((with_reducible refine gate_callee (f := 25) rfl ?_); refine zD (some 10) Try.func25 #[.agg #[.int .i64 a0_0, .string a0_1]] ?_; (with_reducible refine (spec_AreSigns.calls k a0_0 a0_1 true _ A5.out).mono ?_); rintro e w26 ⟨rfl, hb⟩; refine ⟨_, rfl, ?_⟩; replace BK526 := zV BK526.out hb; replace HB := zX1 GE526.out hb; (try clear hb); obtain ⟨hcz27_0, hcz27_1, hfz27_0, hfz27_1⟩ := zq2 BK526.out) | (go_at_call 89; (with_reducible refine (spec_l1In.calls a1 0 (wrap64 (a0_0 - 1)) true _ A7.out).mono ?_); rintro e w' ⟨rfl, ⟨nd, rfl⟩⟩) | (go_at_call 89; (with_reducible refine (spec_l1In.calls a2 0 (wrap64 (a0_0 - 1)) true _ A9.out).mono ?_); rintro e w' ⟨rfl, ⟨nd, rfl⟩⟩) | (go_at_call 89; (with_reducible refine (spec_l1In.calls a3 0 (wrap64 (a0_0 - 1)) true _ A11.out).mono ?_); rintro e w' ⟨rfl, ⟨nd, rfl⟩⟩))
      go_ret
      exact ⟨zE, zG GE526.out⟩
     rw [if_neg c23] at H
     have c23b0 : (a1 == a3) = false := beq_eq_false_iff_ne.mpr c23
     have c23b1 : (a1 != a3) = true := bne_iff_ne.mpr c23
     obtain ⟨t531, A28, H⟩ := zO H
     obtain rfl := Option.some.inj H
     go_enter Try.func97, Try.ntmps97
     go_wp2_with (first | ((with_reducible refine gate_dst (N := 4) rfl ?_); refine zBx (N := 4) #[.int .i64 a0_0, .string a0_1] 25 ?_; intro gb526 hg w29 hbox hb; have BK526 := Aside0.mk (hbox); have GW526 := zS hg; have GE526 := zS hg; replace HB := zX hb; clear hb hbox hg; obtain ⟨hcz30_0, hcz30_1, hfz30_0, hfz30_1⟩ := zq2 BK526.out) | ((with_reducible refine gate_callee (f := 25) rfl ?_); refine zD (some 10) Try.func25 #[.agg #[.int .i64 a0_0, .string a0_1]] ?_; (with_reducible refine (spec_AreSigns.calls k a0_0 a0_1 true _ A5.out).mono ?_); rintro e w31 ⟨rfl, hb⟩; refine ⟨_, rfl, ?_⟩; replace BK526 := zV BK526.out hb; replace HB := zX1 GE526.out hb; (try clear hb); obtain ⟨hcz32_0, hcz32_1, hfz32_0, hfz32_1⟩ := zq2 BK526.out) | (go_at_call 89; (with_reducible refine (spec_l1In.calls a1 0 (wrap64 (a0_0 - 1)) true _ A7.out).mono ?_); rintro e w' ⟨rfl, ⟨nd, rfl⟩⟩) | (go_at_call 89; (with_reducible refine (spec_l1In.calls a2 0 (wrap64 (a0_0 - 1)) true _ A9.out).mono ?_); rintro e w' ⟨rfl, ⟨nd, rfl⟩⟩) | (go_at_call 89; (with_reducible refine (spec_l1In.calls a3 0 (wrap64 (a0_0 - 1)) true _ A11.out).mono ?_); rintro e w' ⟨rfl, ⟨nd, rfl⟩⟩) | ((with_reducible refine gate_callee (f := 144) rfl ?_); refine zD (some 55) Try.func144 #[.agg #[.int .i64 a0_0, .string a0_1], .int .i64 a1, .int .i64 a2, .int .i64 a3] ?_; (with_reducible refine (spec_l3At.calls k a0_0 a0_1 a1 a2 a3 t531 _ A28.out).mono ?_); rintro e w33 ⟨rfl, hb⟩; refine ⟨_, rfl, ?_⟩; replace BK526 := zV BK526.out hb; replace HB := zX1 GE526.out hb; (try clear hb)))
     go_ret
     exact ⟨zE, zG GE526.out⟩
    replace c12 := Bool.eq_false_iff.mpr c12
    subst c12
    replace H := (if_neg zFf).symm.trans H
    obtain rfl := Option.some.inj H
    go_enter Try.func97, Try.ntmps97
    go_wp2_with (first | ((with_reducible refine gate_dst (N := 4) rfl ?_); refine zBx (N := 4) #[.int .i64 a0_0, .string a0_1] 25 ?_; intro gb526 hg w34 hbox hb; have BK526 := Aside0.mk (hbox); have GW526 := zS hg; have GE526 := zS hg; replace HB := zX hb; clear hb hbox hg; obtain ⟨hcz35_0, hcz35_1, hfz35_0, hfz35_1⟩ := zq2 BK526.out) | ((with_reducible refine gate_callee (f := 25) rfl ?_); refine zD (some 10) Try.func25 #[.agg #[.int .i64 a0_0, .string a0_1]] ?_; (with_reducible refine (spec_AreSigns.calls k a0_0 a0_1 true _ A5.out).mono ?_); rintro e w36 ⟨rfl, hb⟩; refine ⟨_, rfl, ?_⟩; replace BK526 := zV BK526.out hb; replace HB := zX1 GE526.out hb; (try clear hb); obtain ⟨hcz37_0, hcz37_1, hfz37_0, hfz37_1⟩ := zq2 BK526.out) | (go_at_call 89; (with_reducible refine (spec_l1In.calls a1 0 (wrap64 (a0_0 - 1)) true _ A7.out).mono ?_); rintro e w' ⟨rfl, ⟨nd, rfl⟩⟩) | (go_at_call 89; (with_reducible refine (spec_l1In.calls a2 0 (wrap64 (a0_0 - 1)) true _ A9.out).mono ?_); rintro e w' ⟨rfl, ⟨nd, rfl⟩⟩) | (go_at_call 89; (with_reducible refine (spec_l1In.calls a3 0 (wrap64 (a0_0 - 1)) false _ A11.out).mono ?_); rintro e w' ⟨rfl, ⟨nd, rfl⟩⟩))
    go_ret
    exact ⟨zE, zG GE526.out⟩
   replace c10 := Bool.eq_false_iff.mpr c10
   subst c10
   replace H := (if_neg zFf).symm.trans H
   obtain rfl := Option.some.inj H
   go_enter Try.func97, Try.ntmps97
   go_wp2_with (first | ((with_reducible refine gate_dst (N := 4) rfl ?_); refine zBx (N := 4) #[.int .i64 a0_0, .string a0_1] 25 ?_; intro gb526 hg w38 hbox hb; have BK526 := Aside0.mk (hbox); have GW526 := zS hg; have GE526 := zS hg; replace HB := zX hb; clear hb hbox hg; obtain ⟨hcz39_0, hcz39_1, hfz39_0, hfz39_1⟩ := zq2 BK526.out) | ((with_reducible refine gate_callee (f := 25) rfl ?_); refine zD (some 10) Try.func25 #[.agg #[.int .i64 a0_0, .string a0_1]] ?_; (with_reducible refine (spec_AreSigns.calls k a0_0 a0_1 true _ A5.out).mono ?_); rintro e w40 ⟨rfl, hb⟩; refine ⟨_, rfl, ?_⟩; replace BK526 := zV BK526.out hb; replace HB := zX1 GE526.out hb; (try clear hb); obtain ⟨hcz41_0, hcz41_1, hfz41_0, hfz41_1⟩ := zq2 BK526.out) | (go_at_call 89; (with_reducible refine (spec_l1In.calls a1 0 (wrap64 (a0_0 - 1)) true _ A7.out).mono ?_); rintro e w' ⟨rfl, ⟨nd, rfl⟩⟩) | (go_at_call 89; (with_reducible refine (spec_l1In.calls a2 0 (wrap64 (a0_0 - 1)) false _ A9.out).mono ?_); rintro e w' ⟨rfl, ⟨nd, rfl⟩⟩))
   go_ret
   exact ⟨zE, zG GE526.out⟩
  replace c8 := Bool.eq_false_iff.mpr c8
  subst c8
  replace H := (if_neg zFf).symm.trans H
  obtain rfl := Option.some.inj H
  go_enter Try.func97, Try.ntmps97
  go_wp2_with (first | ((with_reducible refine gate_dst (N := 4) rfl ?_); refine zBx (N := 4) #[.int .i64 a0_0, .string a0_1] 25 ?_; intro gb526 hg w42 hbox hb; have BK526 := Aside0.mk (hbox); have GW526 := zS hg; have GE526 := zS hg; replace HB := zX hb; clear hb hbox hg; obtain ⟨hcz43_0, hcz43_1, hfz43_0, hfz43_1⟩ := zq2 BK526.out) | ((with_reducible refine gate_callee (f := 25) rfl ?_); refine zD (some 10) Try.func25 #[.agg #[.int .i64 a0_0, .string a0_1]] ?_; (with_reducible refine (spec_AreSigns.calls k a0_0 a0_1 true _ A5.out).mono ?_); rintro e w44 ⟨rfl, hb⟩; refine ⟨_, rfl, ?_⟩; replace BK526 := zV BK526.out hb; replace HB := zX1 GE526.out hb; (try clear hb); obtain ⟨hcz45_0, hcz45_1, hfz45_0, hfz45_1⟩ := zq2 BK526.out) | (go_at_call 89; (with_reducible refine (spec_l1In.calls a1 0 (wrap64 (a0_0 - 1)) false _ A7.out).mono ?_); rintro e w' ⟨rfl, ⟨nd, rfl⟩⟩))
  go_ret
  exact ⟨zE, zG GE526.out⟩
 replace c6 := Bool.eq_false_iff.mpr c6
 subst c6
 replace H := (if_neg zFf).symm.trans H
 obtain rfl := Option.some.inj H
 go_enter Try.func97, Try.ntmps97
 go_wp2_with (first | ((with_reducible refine gate_dst (N := 4) rfl ?_); refine zBx (N := 4) #[.int .i64 a0_0, .string a0_1] 25 ?_; intro gb526 hg w46 hbox hb; have BK526 := Aside0.mk (hbox); have GW526 := zS hg; have GE526 := zS hg; replace HB := zX hb; clear hb hbox hg; obtain ⟨hcz47_0, hcz47_1, hfz47_0, hfz47_1⟩ := zq2 BK526.out) | ((with_reducible refine gate_callee (f := 25) rfl ?_); refine zD (some 10) Try.func25 #[.agg #[.int .i64 a0_0, .string a0_1]] ?_; (with_reducible refine (spec_AreSigns.calls k a0_0 a0_1 false _ A5.out).mono ?_); rintro e w48 ⟨rfl, hb⟩; refine ⟨_, rfl, ?_⟩; replace BK526 := zV BK526.out hb; replace HB := zX1 GE526.out hb; (try clear hb)))
 go_ret
 exact ⟨zE, zG GE526.out⟩
/-! ### spec_l4Circuit: function 98 -/
def spec_l4Circuit.f (k : Nat) (a0_0 : Int) (a0_1 : ByteArray) (a1 : Int) (a2 : Int) (a3 : Int) (a4 : Int) : Option (ByteArray) := (spec_l3At.f k a0_0 a0_1 a2 a3 a4).bind fun t533 => ((spec_l3At.f k a0_0 a0_1 a1 a3 a4).bind fun t534 => ((spec_l3Byte.f (wrap64 ((wrap64 (-t533)) * t534))).bind fun t535 => (if 1 + t535.size ≤ 9223372036854775807 then ((spec_l3At.f k a0_0 a0_1 a1 a2 a4).bind fun t536 => ((spec_l3Byte.f (wrap64 (t533 * t536))).bind fun t537 => (if 1 + t535.size + t537.size ≤ 9223372036854775807 then ((spec_l3At.f k a0_0 a0_1 a1 a2 a3).bind fun t538 => ((spec_l3Byte.f (wrap64 ((wrap64 (-t533)) * t538))).bind fun t539 => (if 1 + t535.size + t537.size + t539.size ≤ 9223372036854775807 then (some ((((⟨#[43]⟩ : ByteArray) ++ t535) ++ t537) ++ t539)) else (none)))) else (none)))) else (none))))
def spec_l4Circuit.T2 : Bool × List (List Nat × List Nat) := (true, [([], []), ([0], [0]), ([], []), ([], []), ([], []), ([], []), ([2, 3, 4, 5], [2, 3, 4, 5]), ([1, 6], [1, 6]), ([7, 6], [7]), ([8], [8]), ([], []), ([], []), ([], []), ([], []), ([], []), ([11, 12, 13, 14, 8], [11, 12, 13, 14]), ([10, 15], [10, 15]), ([16, 15], [16]), ([9, 17], [9, 17]), ([18, 17, 0, 1, 2, 3, 4, 5, 6, 7, 8, 9, 10, 11, 12, 13, 14, 15, 16, 17, 18], [18])])
def spec_l4Circuit.B2 : List Nat := [0, 1, 0, 0, 0, 0, 60, 127, 255, 511, 0, 0, 0, 0, 0, 31231, 65023, 130559, 262143, 524287]
theorem spec_l4Circuit.tab2 : rtab .any (opsOf Try.f98 2) = spec_l4Circuit.T2 := by kernel_rfl
theorem spec_l4Circuit.bits2 : waitsOk spec_l4Circuit.T2.2 spec_l4Circuit.B2 = true := by kernel_rfl
set_option maxHeartbeats 8000000 in
set_option maxRecDepth 100000 in
theorem spec_l4Circuit.calls (k : Nat) (a0_0 : Int) (a0_1 : ByteArray) (a1 : Int) (a2 : Int) (a3 : Int) (a4 : Int) (r : ByteArray) (w : World) (h : spec_l4Circuit.f k a0_0 a0_1 a1 a2 a3 a4 = some r) :
  Calls Try.prog 98 #[.agg #[.int .i64 a0_0, .string a0_1], .int .i64 a1, .int .i64 a2, .int .i64 a3, .int .i64 a4] w fun e w' => e = .returned (.string r) ∧ Below w.heap.size w w' := by
 have hu25 := Try.underlying25
 have HB := Aside0.mk (Below.refl w.heap.size w)
 have H : ((spec_l3At.f k a0_0 a0_1 a2 a3 a4).bind fun t533 => ((spec_l3At.f k a0_0 a0_1 a1 a3 a4).bind fun t534 => ((spec_l3Byte.f (wrap64 ((wrap64 (-t533)) * t534))).bind fun t535 => (if 1 + t535.size ≤ 9223372036854775807 then ((spec_l3At.f k a0_0 a0_1 a1 a2 a4).bind fun t536 => ((spec_l3Byte.f (wrap64 (t533 * t536))).bind fun t537 => (if 1 + t535.size + t537.size ≤ 9223372036854775807 then ((spec_l3At.f k a0_0 a0_1 a1 a2 a3).bind fun t538 => ((spec_l3Byte.f (wrap64 ((wrap64 (-t533)) * t538))).bind fun t539 => (if 1 + t535.size + t537.size + t539.size ≤ 9223372036854775807 then (some ((((⟨#[43]⟩ : ByteArray) ++ t535) ++ t537) ++ t539)) else (none)))) else (none)))) else (none))))) = some r := h
 clear h
 obtain ⟨t533, A6, H⟩ := zO H
 obtain ⟨t534, A7, H⟩ := zO H
 obtain ⟨t535, A8, H⟩ := zO H
 by_cases c9 : 1 + t535.size ≤ 9223372036854775807
 ·rw [if_pos c9] at H
  have c9b0 := eq_true c9
  have c9b1 : decide (1 + t535.size ≤ 9223372036854775807) = true := decide_eq_true c9
  try have c9b2 : (9223372036854775807 < 1 + t535.size) = False := eq_false (Nat.not_lt.2 c9)
  obtain ⟨t536, A10, H⟩ := zO H
  obtain ⟨t537, A11, H⟩ := zO H
  by_cases c12 : 1 + t535.size + t537.size ≤ 9223372036854775807
  ·rw [if_pos c12] at H
   have c12b0 := eq_true c12
   have c12b1 : decide (1 + t535.size + t537.size ≤ 9223372036854775807) = true := decide_eq_true c12
   try have c12b2 : (9223372036854775807 < 1 + t535.size + t537.size) = False := eq_false (Nat.not_lt.2 c12)
   obtain ⟨t538, A13, H⟩ := zO H
   obtain ⟨t539, A14, H⟩ := zO H
   by_cases c15 : 1 + t535.size + t537.size + t539.size ≤ 9223372036854775807
   ·rw [if_pos c15] at H
    have c15b0 := eq_true c15
    have c15b1 : decide (1 + t535.size + t537.size + t539.size ≤ 9223372036854775807) = true := decide_eq_true c15
    try have c15b2 : (9223372036854775807 < 1 + t535.size + t537.size + t539.size) = False := eq_false (Nat.not_lt.2 c15)
    obtain rfl := Option.some.inj H
    go_enter Try.func98, Try.ntmps98
    try go_wp2_with (first | ((with_reducible refine gate_dst (N := 5) rfl ?_); refine zBx (N := 5) #[.int .i64 a0_0, .string a0_1] 25 ?_; intro gb532 hg w16 hbox hb; have BK532 := Aside0.mk (hbox); have GW532 := zS hg; have GE532 := zS hg; replace HB := zX hb; clear hb hbox hg; obtain ⟨hcz17_0, hcz17_1, hfz17_0, hfz17_1⟩ := zq2 BK532.out) | ((with_reducible refine gate_callee (f := 144) rfl ?_); refine zD (some 17) Try.func144 #[.agg #[.int .i64 a0_0, .string a0_1], .int .i64 a2, .int .i64 a3, .int .i64 a4] ?_; (with_reducible refine (spec_l3At.calls k a0_0 a0_1 a2 a3 a4 t533 _ A6.out).mono ?_); rintro e w18 ⟨rfl, hb⟩; refine ⟨_, rfl, ?_⟩; replace BK532 := zV BK532.out hb; replace HB := zX1 GE532.out hb; (try clear hb)))
    replace BK532 := Aside0.mk (blk_drew BK532.out)
    replace HB := Aside0.mk (below_drew1 HB.out)
    refine start_ (n := 20) (S := fun w' => w'.cell? ⟨gb532, 0, none⟩ = some (.int .i64 a0_0) ∧ w'.cell? ⟨gb532, 1, none⟩ = some (.string a0_1)) (ds := []) #[false, false, false, false, false, false, false, false, false, false, false, false, false, false, false, false, false, false, false, false] (by kernel_rfl) rfl rfl ⟨(blk_cell BK532.out 0).trans rfl, (blk_cell BK532.out 1).trans rfl⟩ (fun hHeld => ?_); refine with_tabW spec_l4Circuit.tab2 spec_l4Circuit.bits2 (fun HT_ HW_ => ?_)
    generalize w18.drew = w19 at BK532 HB hHeld ⊢
    refine zP 0 (some 18) rfl rfl ?_
    refine zP 1 (some 19) rfl rfl ?_
    refine zP 3 (some 21) rfl rfl ?_
    refine zP 4 (some 22) rfl rfl ?_
    refine zP 5 (some 23) rfl rfl ?_
    refine zP 10 (some 28) rfl rfl ?_
    refine zP 12 (some 30) rfl rfl ?_
    refine zP 13 (some 31) rfl rfl ?_
    refine zP 14 (some 32) rfl rfl ?_
    refine zY2 2 (some 20) rfl rfl hHeld ?_
    refine zY2 11 (some 29) rfl rfl hHeld ?_
    refine zU 6 (some 24) rfl rfl (fun K hK => ?_)
    refine goes_ Try.func144 (by kernel_rfl) rfl #[.agg #[.int .i64 a0_0, .string a0_1], .int .i64 a1, .int .i64 a3, .int .i64 a4] (by rfl) rfl rfl zM ?_
    with_reducible refine (spec_l3At.calls k a0_0 a0_1 a1 a3 a4 t534 _ A7.out).mono ?_
    rintro e w20 ⟨rfl, hb⟩
    refine ⟨_, rfl, ?_⟩
    replace BK532 := zV BK532.out hb
    replace HB := zX1 GE532.out hb
    (try clear hb)
    refine hK.out _ _ (zh2 BK532.out) (fun hHeld => ?_)
    clear hK K
    refine zN ?_
    refine zP 7 (some 25) rfl rfl ?_
    refine zU 8 (some 26) rfl rfl (fun K hK => ?_)
    refine goes_ Try.func102 (by kernel_rfl) rfl #[.int .i64 (wrap64 ((wrap64 (-t533)) * t534))] (by rfl) rfl rfl zM ?_
    with_reducible refine (spec_l3Byte.calls (wrap64 ((wrap64 (-t533)) * t534)) t535 _ A8.out).mono ?_
    rintro e w' ⟨rfl, ⟨nd, rfl⟩⟩
    refine ⟨_, rfl, ?_⟩
    refine hK.out _ _ (zh2 BK532.out) (fun hHeld => ?_)
    clear hK K
    refine zN ?_
    refine zP 9 (some 27) rfl rfl ?_
    refine zU 15 (some 33) rfl rfl (fun K hK => ?_)
    refine goes_ Try.func144 (by kernel_rfl) rfl #[.agg #[.int .i64 a0_0, .string a0_1], .int .i64 a1, .int .i64 a2, .int .i64 a4] (by rfl) rfl rfl zM ?_
    with_reducible refine (spec_l3At.calls k a0_0 a0_1 a1 a2 a4 t536 _ A10.out).mono ?_
    rintro e w21 ⟨rfl, hb⟩
    refine ⟨_, rfl, ?_⟩
    replace BK532 := zV BK532.out hb
    replace HB := zX1 GE532.out hb
    (try clear hb)
    refine hK.out _ _ (zh2 BK532.out) (fun hHeld => ?_)
    clear hK K
    refine zN ?_
    refine zP 16 (some 34) rfl rfl ?_
    refine zU 17 (some 35) rfl rfl (fun K hK => ?_)
    refine goes_ Try.func102 (by kernel_rfl) rfl #[.int .i64 (wrap64 (t533 * t536))] (by rfl) rfl rfl zM ?_
    with_reducible refine (spec_l3Byte.calls (wrap64 (t533 * t536)) t537 _ A11.out).mono ?_
    rintro e w' ⟨rfl, ⟨nd, rfl⟩⟩
    refine ⟨_, rfl, ?_⟩
    refine hK.out _ _ (zh2 BK532.out) (fun hHeld => ?_)
    clear hK K
    refine zN ?_
    refine zP 18 (some 36) rfl rfl ?_
    refine zP 19 (some 12) rfl rfl ?_
    refine done_ (done_of HT_.out (by kernel_rfl)) ?_
    obtain ⟨hcz22_0, hcz22_1, hfz22_0, hfz22_1⟩ := zq2 BK532.out
    try go_wp2_with (first | ((with_reducible refine gate_callee (f := 144) rfl ?_); refine zD (some 44) Try.func144 #[.agg #[.int .i64 a0_0, .string a0_1], .int .i64 a1, .int .i64 a2, .int .i64 a3] ?_; (with_reducible refine (spec_l3At.calls k a0_0 a0_1 a1 a2 a3 t538 _ A13.out).mono ?_); rintro e w23 ⟨rfl, hb⟩; refine ⟨_, rfl, ?_⟩; replace BK532 := zV BK532.out hb; replace HB := zX1 GE532.out hb; (try clear hb)) | ((with_reducible refine gate_callee (f := 102) rfl ?_); refine zD (some 46) Try.func102 #[.int .i64 (wrap64 ((wrap64 (-t533)) * t538))] ?_; (with_reducible refine (spec_l3Byte.calls (wrap64 ((wrap64 (-t533)) * t538)) t539 _ A14.out).mono ?_); rintro e w' ⟨rfl, ⟨nd, rfl⟩⟩; refine ⟨_, rfl, ?_⟩))
    go_ret
    exact ⟨zE, zG GE532.out⟩
   rw [if_neg c15] at H
   exact absurd H (by simp)
  rw [if_neg c12] at H
  exact absurd H (by simp)
 rw [if_neg c9] at H
 exact absurd H (by simp)
/-! ### spec_CircuitOf: function 19 -/
def spec_CircuitOf.f (k : Nat) (a0_0 : Int) (a0_1 : ByteArray) (a1 : Int) (a2 : Int) (a3 : Int) (a4 : Int) : Option (ByteArray) := (spec_SignAt.f k a0_0 a0_1 a1 a2 a3).bind fun t541 => (if t541 = 0 then (some (⟨#[]⟩ : ByteArray)) else ((spec_SignAt.f k a0_0 a0_1 a2 a3 a4).bind fun t542 => (if t542 = 0 then (some (⟨#[]⟩ : ByteArray)) else ((spec_SignAt.f k a0_0 a0_1 a1 a3 a4).bind fun t543 => (if t543 = 0 then (some (⟨#[]⟩ : ByteArray)) else ((spec_SignAt.f k a0_0 a0_1 a1 a2 a4).bind fun t544 => (if t544 = 0 then (some (⟨#[]⟩ : ByteArray)) else ((spec_l4Circuit.f k a0_0 a0_1 a1 a2 a3 a4).bind fun t545 => (some t545)))))))))
set_option maxHeartbeats 8000000 in
set_option maxRecDepth 100000 in
theorem spec_CircuitOf.calls (k : Nat) (a0_0 : Int) (a0_1 : ByteArray) (a1 : Int) (a2 : Int) (a3 : Int) (a4 : Int) (r : ByteArray) (w : World) (h : spec_CircuitOf.f k a0_0 a0_1 a1 a2 a3 a4 = some r) :
  Calls Try.prog 19 #[.agg #[.int .i64 a0_0, .string a0_1], .int .i64 a1, .int .i64 a2, .int .i64 a3, .int .i64 a4] w fun e w' => e = .returned (.string r) ∧ Below w.heap.size w w' := by
 have hu25 := Try.underlying25
 have HB := Aside0.mk (Below.refl w.heap.size w)
 have H : ((spec_SignAt.f k a0_0 a0_1 a1 a2 a3).bind fun t541 => (if t541 = 0 then (some (⟨#[]⟩ : ByteArray)) else ((spec_SignAt.f k a0_0 a0_1 a2 a3 a4).bind fun t542 => (if t542 = 0 then (some (⟨#[]⟩ : ByteArray)) else ((spec_SignAt.f k a0_0 a0_1 a1 a3 a4).bind fun t543 => (if t543 = 0 then (some (⟨#[]⟩ : ByteArray)) else ((spec_SignAt.f k a0_0 a0_1 a1 a2 a4).bind fun t544 => (if t544 = 0 then (some (⟨#[]⟩ : ByteArray)) else ((spec_l4Circuit.f k a0_0 a0_1 a1 a2 a3 a4).bind fun t545 => (some t545)))))))))) = some r := h
 clear h
 obtain ⟨t541, A6, H⟩ := zO H
 by_cases c7 : t541 = 0
 ·rw [if_pos c7] at H
  have c7b0 : (t541 == 0) = true := beq_iff_eq.mpr c7
  have c7b1 : (t541 != 0) = false := bne_eq_false_iff_eq.mpr c7
  clear c7
  obtain rfl := Option.some.inj H
  go_enter Try.func19, Try.ntmps19
  go_wp2_with (first | ((with_reducible refine gate_dst (N := 5) rfl ?_); refine zBx (N := 5) #[.int .i64 a0_0, .string a0_1] 25 ?_; intro gb540 hg w8 hbox hb; have BK540 := Aside0.mk (hbox); have GW540 := zS hg; have GE540 := zS hg; replace HB := zX hb; clear hb hbox hg; obtain ⟨hcz9_0, hcz9_1, hfz9_0, hfz9_1⟩ := zq2 BK540.out) | ((with_reducible refine gate_callee (f := 97) rfl ?_); refine zD (some 15) Try.func97 #[.agg #[.int .i64 a0_0, .string a0_1], .int .i64 a1, .int .i64 a2, .int .i64 a3] ?_; (with_reducible refine (spec_SignAt.calls k a0_0 a0_1 a1 a2 a3 t541 _ A6.out).mono ?_); rintro e w10 ⟨rfl, hb⟩; refine ⟨_, rfl, ?_⟩; replace BK540 := zV BK540.out hb; replace HB := zX1 GE540.out hb; (try clear hb)))
  go_ret
  exact ⟨zE, zG GE540.out⟩
 rw [if_neg c7] at H
 have c7b0 : (t541 == 0) = false := beq_eq_false_iff_ne.mpr c7
 have c7b1 : (t541 != 0) = true := bne_iff_ne.mpr c7
 obtain ⟨t542, A11, H⟩ := zO H
 by_cases c12 : t542 = 0
 ·rw [if_pos c12] at H
  have c12b0 : (t542 == 0) = true := beq_iff_eq.mpr c12
  have c12b1 : (t542 != 0) = false := bne_eq_false_iff_eq.mpr c12
  clear c12
  obtain rfl := Option.some.inj H
  go_enter Try.func19, Try.ntmps19
  go_wp2_with (first | ((with_reducible refine gate_dst (N := 5) rfl ?_); refine zBx (N := 5) #[.int .i64 a0_0, .string a0_1] 25 ?_; intro gb540 hg w13 hbox hb; have BK540 := Aside0.mk (hbox); have GW540 := zS hg; have GE540 := zS hg; replace HB := zX hb; clear hb hbox hg; obtain ⟨hcz14_0, hcz14_1, hfz14_0, hfz14_1⟩ := zq2 BK540.out) | ((with_reducible refine gate_callee (f := 97) rfl ?_); refine zD (some 15) Try.func97 #[.agg #[.int .i64 a0_0, .string a0_1], .int .i64 a1, .int .i64 a2, .int .i64 a3] ?_; (with_reducible refine (spec_SignAt.calls k a0_0 a0_1 a1 a2 a3 t541 _ A6.out).mono ?_); rintro e w15 ⟨rfl, hb⟩; refine ⟨_, rfl, ?_⟩; replace BK540 := zV BK540.out hb; replace HB := zX1 GE540.out hb; (try clear hb); obtain ⟨hcz16_0, hcz16_1, hfz16_0, hfz16_1⟩ := zq2 BK540.out) | (go_at_call 97; (with_reducible refine (spec_SignAt.calls k a0_0 a0_1 a2 a3 a4 t542 _ A11.out).mono ?_); rintro e w17 ⟨rfl, hb⟩; replace BK540 := zV BK540.out hb; replace HB := zX1 GE540.out hb; (try clear hb); (try clear hb2); (try clear hk); (try clear hi)))
  go_ret
  exact ⟨zE, zG GE540.out⟩
 rw [if_neg c12] at H
 have c12b0 : (t542 == 0) = false := beq_eq_false_iff_ne.mpr c12
 have c12b1 : (t542 != 0) = true := bne_iff_ne.mpr c12
 obtain ⟨t543, A18, H⟩ := zO H
 by_cases c19 : t543 = 0
 ·rw [if_pos c19] at H
  have c19b0 : (t543 == 0) = true := beq_iff_eq.mpr c19
  have c19b1 : (t543 != 0) = false := bne_eq_false_iff_eq.mpr c19
  clear c19
  obtain rfl := Option.some.inj H
  go_enter Try.func19, Try.ntmps19
  go_wp2_with (first | ((with_reducible refine gate_dst (N := 5) rfl ?_); refine zBx (N := 5) #[.int .i64 a0_0, .string a0_1] 25 ?_; intro gb540 hg w20 hbox hb; have BK540 := Aside0.mk (hbox); have GW540 := zS hg; have GE540 := zS hg; replace HB := zX hb; clear hb hbox hg; obtain ⟨hcz21_0, hcz21_1, hfz21_0, hfz21_1⟩ := zq2 BK540.out) | ((with_reducible refine gate_callee (f := 97) rfl ?_); refine zD (some 15) Try.func97 #[.agg #[.int .i64 a0_0, .string a0_1], .int .i64 a1, .int .i64 a2, .int .i64 a3] ?_; (with_reducible refine (spec_SignAt.calls k a0_0 a0_1 a1 a2 a3 t541 _ A6.out).mono ?_); rintro e w22 ⟨rfl, hb⟩; refine ⟨_, rfl, ?_⟩; replace BK540 := zV BK540.out hb; replace HB := zX1 GE540.out hb; (try clear hb); obtain ⟨hcz23_0, hcz23_1, hfz23_0, hfz23_1⟩ := zq2 BK540.out) | (go_at_call 97; (with_reducible refine (spec_SignAt.calls k a0_0 a0_1 a2 a3 a4 t542 _ A11.out).mono ?_); rintro e w24 ⟨rfl, hb⟩; replace BK540 := zV BK540.out hb; replace HB := zX1 GE540.out hb; (try clear hb); (try clear hb2); (try clear hk); (try clear hi); obtain ⟨hcz25_0, hcz25_1, hfz25_0, hfz25_1⟩ := zq2 BK540.out) | (go_at_call 97; (with_reducible refine (spec_SignAt.calls k a0_0 a0_1 a1 a3 a4 t543 _ A18.out).mono ?_); rintro e w26 ⟨rfl, hb⟩; replace BK540 := zV BK540.out hb; replace HB := zX1 GE540.out hb; (try clear hb); (try clear hb2); (try clear hk); (try clear hi)))
  go_ret
  exact ⟨zE, zG GE540.out⟩
 rw [if_neg c19] at H
 have c19b0 : (t543 == 0) = false := beq_eq_false_iff_ne.mpr c19
 have c19b1 : (t543 != 0) = true := bne_iff_ne.mpr c19
 obtain ⟨t544, A27, H⟩ := zO H
 by_cases c28 : t544 = 0
 ·rw [if_pos c28] at H
  have c28b0 : (t544 == 0) = true := beq_iff_eq.mpr c28
  have c28b1 : (t544 != 0) = false := bne_eq_false_iff_eq.mpr c28
  clear c28
  obtain rfl := Option.some.inj H
  go_enter Try.func19, Try.ntmps19
  go_wp2_with (first | ((with_reducible refine gate_dst (N := 5) rfl ?_); refine zBx (N := 5) #[.int .i64 a0_0, .string a0_1] 25 ?_; intro gb540 hg w29 hbox hb; have BK540 := Aside0.mk (hbox); have GW540 := zS hg; have GE540 := zS hg; replace HB := zX hb; clear hb hbox hg; obtain ⟨hcz30_0, hcz30_1, hfz30_0, hfz30_1⟩ := zq2 BK540.out) | ((with_reducible refine gate_callee (f := 97) rfl ?_); refine zD (some 15) Try.func97 #[.agg #[.int .i64 a0_0, .string a0_1], .int .i64 a1, .int .i64 a2, .int .i64 a3] ?_; (with_reducible refine (spec_SignAt.calls k a0_0 a0_1 a1 a2 a3 t541 _ A6.out).mono ?_); rintro e w31 ⟨rfl, hb⟩; refine ⟨_, rfl, ?_⟩; replace BK540 := zV BK540.out hb; replace HB := zX1 GE540.out hb; (try clear hb); obtain ⟨hcz32_0, hcz32_1, hfz32_0, hfz32_1⟩ := zq2 BK540.out) | (go_at_call 97; (with_reducible refine (spec_SignAt.calls k a0_0 a0_1 a2 a3 a4 t542 _ A11.out).mono ?_); rintro e w33 ⟨rfl, hb⟩; replace BK540 := zV BK540.out hb; replace HB := zX1 GE540.out hb; (try clear hb); (try clear hb2); (try clear hk); (try clear hi); obtain ⟨hcz34_0, hcz34_1, hfz34_0, hfz34_1⟩ := zq2 BK540.out) | (go_at_call 97; (with_reducible refine (spec_SignAt.calls k a0_0 a0_1 a1 a3 a4 t543 _ A18.out).mono ?_); rintro e w35 ⟨rfl, hb⟩; replace BK540 := zV BK540.out hb; replace HB := zX1 GE540.out hb; (try clear hb); (try clear hb2); (try clear hk); (try clear hi); obtain ⟨hcz36_0, hcz36_1, hfz36_0, hfz36_1⟩ := zq2 BK540.out) | (go_at_call 97; (with_reducible refine (spec_SignAt.calls k a0_0 a0_1 a1 a2 a4 t544 _ A27.out).mono ?_); rintro e w37 ⟨rfl, hb⟩; replace BK540 := zV BK540.out hb; replace HB := zX1 GE540.out hb; (try clear hb); (try clear hb2); (try clear hk); (try clear hi)))
  go_ret
  exact ⟨zE, zG GE540.out⟩
 rw [if_neg c28] at H
 have c28b0 : (t544 == 0) = false := beq_eq_false_iff_ne.mpr c28
 have c28b1 : (t544 != 0) = true := bne_iff_ne.mpr c28
 obtain ⟨t545, A38, H⟩ := zO H
 obtain rfl := Option.some.inj H
 go_enter Try.func19, Try.ntmps19
 go_wp2_with (first | ((with_reducible refine gate_dst (N := 5) rfl ?_); refine zBx (N := 5) #[.int .i64 a0_0, .string a0_1] 25 ?_; intro gb540 hg w39 hbox hb; have BK540 := Aside0.mk (hbox); have GW540 := zS hg; have GE540 := zS hg; replace HB := zX hb; clear hb hbox hg; obtain ⟨hcz40_0, hcz40_1, hfz40_0, hfz40_1⟩ := zq2 BK540.out) | ((with_reducible refine gate_callee (f := 97) rfl ?_); refine zD (some 15) Try.func97 #[.agg #[.int .i64 a0_0, .string a0_1], .int .i64 a1, .int .i64 a2, .int .i64 a3] ?_; (with_reducible refine (spec_SignAt.calls k a0_0 a0_1 a1 a2 a3 t541 _ A6.out).mono ?_); rintro e w41 ⟨rfl, hb⟩; refine ⟨_, rfl, ?_⟩; replace BK540 := zV BK540.out hb; replace HB := zX1 GE540.out hb; (try clear hb); obtain ⟨hcz42_0, hcz42_1, hfz42_0, hfz42_1⟩ := zq2 BK540.out) | (go_at_call 97; (with_reducible refine (spec_SignAt.calls k a0_0 a0_1 a2 a3 a4 t542 _ A11.out).mono ?_); rintro e w43 ⟨rfl, hb⟩; replace BK540 := zV BK540.out hb; replace HB := zX1 GE540.out hb; (try clear hb); (try clear hb2); (try clear hk); (try clear hi); obtain ⟨hcz44_0, hcz44_1, hfz44_0, hfz44_1⟩ := zq2 BK540.out) | (go_at_call 97; (with_reducible refine (spec_SignAt.calls k a0_0 a0_1 a1 a3 a4 t543 _ A18.out).mono ?_); rintro e w45 ⟨rfl, hb⟩; replace BK540 := zV BK540.out hb; replace HB := zX1 GE540.out hb; (try clear hb); (try clear hb2); (try clear hk); (try clear hi); obtain ⟨hcz46_0, hcz46_1, hfz46_0, hfz46_1⟩ := zq2 BK540.out) | (go_at_call 97; (with_reducible refine (spec_SignAt.calls k a0_0 a0_1 a1 a2 a4 t544 _ A27.out).mono ?_); rintro e w47 ⟨rfl, hb⟩; replace BK540 := zV BK540.out hb; replace HB := zX1 GE540.out hb; (try clear hb); (try clear hb2); (try clear hk); (try clear hi); obtain ⟨hcz48_0, hcz48_1, hfz48_0, hfz48_1⟩ := zq2 BK540.out) | ((with_reducible refine gate_callee (f := 98) rfl ?_); refine zD (some 46) Try.func98 #[.agg #[.int .i64 a0_0, .string a0_1], .int .i64 a1, .int .i64 a2, .int .i64 a3, .int .i64 a4] ?_; (with_reducible refine (spec_l4Circuit.calls k a0_0 a0_1 a1 a2 a3 a4 t545 _ A38.out).mono ?_); rintro e w49 ⟨rfl, hb⟩; refine ⟨_, rfl, ?_⟩; replace BK540 := zV BK540.out hb; replace HB := zX1 GE540.out hb; (try clear hb)))
 go_ret
 exact ⟨zE, zG GE540.out⟩
/-! ### spec_IsMatroid: function 22 -/
def spec_IsMatroid.f (k : Nat) (a0_0 : Int) (a0_1 : ByteArray) : Option (Bool) := (spec_AreSigns.f k a0_0 a0_1).bind fun t547 => (if t547 = true then ((spec_FirstBreak.f k a0_0 a0_1).bind fun t548 => (some ((t548.length : Int) == 0))) else (some false))
set_option maxHeartbeats 8000000 in
set_option maxRecDepth 100000 in
theorem spec_IsMatroid.calls (k : Nat) (a0_0 : Int) (a0_1 : ByteArray) (r : Bool) (w : World) (h : spec_IsMatroid.f k a0_0 a0_1 = some r) :
  Calls Try.prog 22 #[.agg #[.int .i64 a0_0, .string a0_1]] w fun e w' => e = .returned (.bool r) ∧ Below w.heap.size w w' := by
 have hu25 := Try.underlying25
 have HB := Aside0.mk (Below.refl w.heap.size w)
 have H : ((spec_AreSigns.f k a0_0 a0_1).bind fun t547 => (if t547 = true then ((spec_FirstBreak.f k a0_0 a0_1).bind fun t548 => (some ((t548.length : Int) == 0))) else (some false))) = some r := h
 clear h
 obtain ⟨t547, A2, H⟩ := zO H
 by_cases c3 : t547 = true
 ·subst c3
  replace H := (if_pos rfl).symm.trans H
  obtain ⟨t548, A4, H⟩ := zO H
  obtain rfl := Option.some.inj H
  go_enter Try.func22, Try.ntmps22
  go_wp2_with (first | ((with_reducible refine gate_dst (N := 1) rfl ?_); (try (refine gate_guard (by rfl) ?_; dsimp only)); refine zBx (N := 1) #[.int .i64 a0_0, .string a0_1] 25 ?_; intro gb546 hg w5 hbox hb; have BK546 := Aside0.mk (hbox); have GW546 := zS hg; have GE546 := zS hg; replace HB := zX hb; clear hb hbox hg; obtain ⟨hcz6_0, hcz6_1, hfz6_0, hfz6_1⟩ := zq2 BK546.out) | ((with_reducible refine gate_callee (f := 25) rfl ?_); refine zD (some 4) Try.func25 #[.agg #[.int .i64 a0_0, .string a0_1]] ?_; (with_reducible refine (spec_AreSigns.calls k a0_0 a0_1 true _ A2.out).mono ?_); rintro e w7 ⟨rfl, hb⟩; refine ⟨_, rfl, ?_⟩; replace BK546 := zV BK546.out hb; replace HB := zX1 GE546.out hb; (try clear hb); obtain ⟨hcz8_0, hcz8_1, hfz8_0, hfz8_1⟩ := zq2 BK546.out) | (go_at_call 17; (with_reducible refine (spec_FirstBreak.calls k a0_0 a0_1 t548 _ A4.out).mono ?_); rintro e w9 ⟨v549, rfl, ho0, hb⟩; have HO550 := Aside0.mk (Kd.R_lower ho0 (below_size (zG GE546.out))); replace BK546 := zV BK546.out hb; replace HB := zX1 GE546.out hb; (try clear hb); (try clear hb2); (try clear hk); (try clear hi); (try clear ho0); obtain ⟨Ao10, co10, eo10⟩ := Kd.R_slice HO550.out; subst eo10))
  go_ret
  exact ⟨zE, zG GE546.out⟩
 replace c3 := Bool.eq_false_iff.mpr c3
 subst c3
 replace H := (if_neg zFf).symm.trans H
 obtain rfl := Option.some.inj H
 go_enter Try.func22, Try.ntmps22
 go_wp2_with (first | ((with_reducible refine gate_dst (N := 1) rfl ?_); (try (refine gate_guard (by rfl) ?_; dsimp only)); refine zBx (N := 1) #[.int .i64 a0_0, .string a0_1] 25 ?_; intro gb546 hg w11 hbox hb; have BK546 := Aside0.mk (hbox); have GW546 := zS hg; have GE546 := zS hg; replace HB := zX hb; clear hb hbox hg; obtain ⟨hcz12_0, hcz12_1, hfz12_0, hfz12_1⟩ := zq2 BK546.out) | ((with_reducible refine gate_callee (f := 25) rfl ?_); refine zD (some 4) Try.func25 #[.agg #[.int .i64 a0_0, .string a0_1]] ?_; (with_reducible refine (spec_AreSigns.calls k a0_0 a0_1 false _ A2.out).mono ?_); rintro e w13 ⟨rfl, hb⟩; refine ⟨_, rfl, ?_⟩; replace BK546 := zV BK546.out hb; replace HB := zX1 GE546.out hb; (try clear hb)))
 go_ret
 exact ⟨zE, zG GE546.out⟩
/-! ### spec_l4Acyclic: function 99 -/
mutual
def spec_l4Acyclic.l0 : Nat → Int → Int → ByteArray → Option (Bool)
 | 0, _, _, _ => none
 | k + 1, x3, x552000, x552001 => if x3 < x552000 then (spec_l4Acyclic.l1 k x3 (wrap64 (x3 + 1)) x552000 x552001) else (some true)
def spec_l4Acyclic.l1 : Nat → Int → Int → Int → ByteArray → Option (Bool)
 | 0, _, _, _, _ => none
 | k + 1, x3, x4, x552000, x552001 => if x4 < x552000 then (spec_l4Acyclic.l2 k x3 x4 (wrap64 (x4 + 1)) x552000 x552001) else (spec_l4Acyclic.l0 k (wrap64 (x3 + 1)) x552000 x552001)
def spec_l4Acyclic.l2 : Nat → Int → Int → Int → Int → ByteArray → Option (Bool)
 | 0, _, _, _, _, _ => none
 | k + 1, x3, x4, x5, x552000, x552001 => if x5 < x552000 then (spec_l4Acyclic.l3 k x3 x4 x5 (wrap64 (x5 + 1)) x552000 x552001) else (spec_l4Acyclic.l1 k x3 (wrap64 (x4 + 1)) x552000 x552001)
def spec_l4Acyclic.l3 : Nat → Int → Int → Int → Int → Int → ByteArray → Option (Bool)
 | 0, _, _, _, _, _, _ => none
 | k + 1, x3, x4, x5, x6, x552000, x552001 => if x6 < x552000 then ((spec_l4Circuit.f k x552000 x552001 x3 x4 x5 x6).bind fun t552 => (if t552.toList = ([43, 43, 43, 43] : List UInt8) then (some false) else (spec_l4Acyclic.l3 k x3 x4 x5 (wrap64 (x6 + 1)) x552000 x552001))) else (spec_l4Acyclic.l2 k x3 x4 (wrap64 (x5 + 1)) x552000 x552001)
end
def spec_l4Acyclic.f (k : Nat) (a0_0 : Int) (a0_1 : ByteArray) : Option (Bool) := spec_l4Acyclic.l0 k 0 a0_0 a0_1
set_option maxHeartbeats 8000000 in
set_option maxRecDepth 100000 in
theorem spec_l4Acyclic.calls (k : Nat) (a0_0 : Int) (a0_1 : ByteArray) (r : Bool) (w : World) (h : spec_l4Acyclic.f k a0_0 a0_1 = some r) :
  Calls Try.prog 99 #[.agg #[.int .i64 a0_0, .string a0_1]] w fun e w' => e = .returned (.bool r) ∧ Below w.heap.size w w' := by
 have hu25 := Try.underlying25
 have HB := Aside0.mk (Below.refl w.heap.size w)
 have H : (spec_l4Acyclic.l0 k 0 a0_0 a0_1) = some r := h
 clear h
 have H' := Aside0.mk H; clear H
 go_enter Try.func99, Try.ntmps99
 go_wp2_with (first | ((with_reducible refine gate_dst (N := 1) rfl ?_); refine zBx (N := 1) #[.int .i64 a0_0, .string a0_1] 25 ?_; intro gb551 hg w2 hbox hb; have BK551 := Aside0.mk (hbox); have GW551 := zS hg; have GE551 := zS hg; replace HB := zX hb; clear hb hbox hg))
 go_loopg [3] k (fun kq v3 w' => ∃ (x3_1 : Int), v3 = .int .i64 x3_1 ∧ Aside0 (spec_l4Acyclic.l0 kq x3_1 a0_0 a0_1 = some r) ∧ Aside0 (kq ≤ k) ∧ Aside0 (w'.heap[gb551]? = some (.cells #[.int .i64 a0_0, .string a0_1] 25 (0, 0))) ∧ Aside0 (Below w.heap.size w w'))
 case atStart => exact ⟨(0), zF, H', ⟨Nat.le_refl _⟩, ⟨zK BK551.out⟩, ⟨zG GE551.out⟩⟩
 case round =>
 clear H'
 obtain ⟨x3_1, rfl, HA, HK1, BK551, HB⟩ := hrel
 cases gk with
 | zero => exact absurd HA.out (by simp [spec_l4Acyclic.l0])
 | succ k1 =>
 have H := HA.out
 clear HA
 simp only [spec_l4Acyclic.l0] at H
 by_cases c3 : x3_1 < a0_0
 ·rw [if_pos c3] at H
  have c3b0 : decide (x3_1 < a0_0) = true := decide_eq_true c3
  clear c3
  have H' := Aside0.mk H; clear H
  obtain ⟨hcz4_0, hcz4_1, hfz4_0, hfz4_1⟩ := zq2 BK551.out
  go_wp2
  go_loopg [4] k1 (fun kq v4 w' => ∃ (x4_2 : Int), v4 = .int .i64 x4_2 ∧ Aside0 (spec_l4Acyclic.l1 kq x3_1 x4_2 a0_0 a0_1 = some r) ∧ Aside0 (kq ≤ k1) ∧ Aside0 (w'.heap[gb551]? = some (.cells #[.int .i64 a0_0, .string a0_1] 25 (0, 0))) ∧ Aside0 (Below w.heap.size w w'))
  case atStart => exact ⟨(wrap64 (x3_1 + 1)), zF, H', ⟨Nat.le_refl _⟩, ⟨zK BK551.out⟩, ⟨zG GE551.out⟩⟩
  case round =>
  clear H'
  try clear c3
  try clear c3b0
  try clear hcz4_0
  try clear hcz4_1
  try clear hfz4_0
  try clear hfz4_1
  obtain ⟨x4_2, rfl, HA, HK2, BK551, HB⟩ := hrel
  cases gk with
  | zero => exact absurd HA.out (by simp [spec_l4Acyclic.l1])
  | succ k2 =>
  have H := HA.out
  clear HA
  simp only [spec_l4Acyclic.l1] at H
  by_cases c5 : x4_2 < a0_0
  ·rw [if_pos c5] at H
   have c5b0 : decide (x4_2 < a0_0) = true := decide_eq_true c5
   clear c5
   have H' := Aside0.mk H; clear H
   obtain ⟨hcz6_0, hcz6_1, hfz6_0, hfz6_1⟩ := zq2 BK551.out
   go_wp2
   go_loopg [5] k2 (fun kq v5 w' => ∃ (x5_3 : Int), v5 = .int .i64 x5_3 ∧ Aside0 (spec_l4Acyclic.l2 kq x3_1 x4_2 x5_3 a0_0 a0_1 = some r) ∧ Aside0 (kq ≤ k2) ∧ Aside0 (w'.heap[gb551]? = some (.cells #[.int .i64 a0_0, .string a0_1] 25 (0, 0))) ∧ Aside0 (Below w.heap.size w w'))
   case atStart => exact ⟨(wrap64 (x4_2 + 1)), zF, H', ⟨Nat.le_refl _⟩, ⟨zK BK551.out⟩, ⟨zG GE551.out⟩⟩
   case round =>
   clear H'
   try clear c3
   try clear c3b0
   try clear c5
   try clear c5b0
   try clear hcz4_0
   try clear hcz4_1
   try clear hcz6_0
   try clear hcz6_1
   try clear hfz4_0
   try clear hfz4_1
   try clear hfz6_0
   try clear hfz6_1
   obtain ⟨x5_3, rfl, HA, HK3, BK551, HB⟩ := hrel
   cases gk with
   | zero => exact absurd HA.out (by simp [spec_l4Acyclic.l2])
   | succ k3 =>
   have H := HA.out
   clear HA
   simp only [spec_l4Acyclic.l2] at H
   by_cases c7 : x5_3 < a0_0
   ·rw [if_pos c7] at H
    have c7b0 : decide (x5_3 < a0_0) = true := decide_eq_true c7
    clear c7
    have H' := Aside0.mk H; clear H
    obtain ⟨hcz8_0, hcz8_1, hfz8_0, hfz8_1⟩ := zq2 BK551.out
    go_wp2
    go_loopg [6] k3 (fun kq v6 w' => ∃ (x6_4 : Int), v6 = .int .i64 x6_4 ∧ Aside0 (spec_l4Acyclic.l3 kq x3_1 x4_2 x5_3 x6_4 a0_0 a0_1 = some r) ∧ Aside0 (kq ≤ k3) ∧ Aside0 (w'.heap[gb551]? = some (.cells #[.int .i64 a0_0, .string a0_1] 25 (0, 0))) ∧ Aside0 (Below w.heap.size w w'))
    case atStart => exact ⟨(wrap64 (x5_3 + 1)), zF, H', ⟨Nat.le_refl _⟩, ⟨zK BK551.out⟩, ⟨zG GE551.out⟩⟩
    case round =>
    clear H'
    try clear c3
    try clear c3b0
    try clear c5
    try clear c5b0
    try clear c7
    try clear c7b0
    try clear hcz4_0
    try clear hcz4_1
    try clear hcz6_0
    try clear hcz6_1
    try clear hcz8_0
    try clear hcz8_1
    try clear hfz4_0
    try clear hfz4_1
    try clear hfz6_0
    try clear hfz6_1
    try clear hfz8_0
    try clear hfz8_1
    obtain ⟨x6_4, rfl, HA, HK4, BK551, HB⟩ := hrel
    cases gk with
    | zero => exact absurd HA.out (by simp [spec_l4Acyclic.l3])
    | succ k4 =>
    have H := HA.out
    clear HA
    simp only [spec_l4Acyclic.l3] at H
    by_cases c9 : x6_4 < a0_0
    ·rw [if_pos c9] at H
     have c9b0 : decide (x6_4 < a0_0) = true := decide_eq_true c9
     clear c9
     obtain ⟨t552, A10, H⟩ := zO H
     by_cases c11 : t552.toList = ([43, 43, 43, 43] : List UInt8)
     ·rw [if_pos c11] at H
      have c11b0 : (t552.toList == ([43, 43, 43, 43] : List UInt8)) = true := beq_iff_eq.mpr c11
      have c11b1 : (t552.toList != ([43, 43, 43, 43] : List UInt8)) = false := bne_eq_false_iff_eq.mpr c11
      clear c11
      obtain rfl := Option.some.inj H
      obtain ⟨hcz12_0, hcz12_1, hfz12_0, hfz12_1⟩ := zq2 BK551.out
      go_wp2_with (first | ((with_reducible refine gate_callee (f := 98) rfl ?_); refine zD (some 42) Try.func98 #[.agg #[.int .i64 a0_0, .string a0_1], .int .i64 x3_1, .int .i64 x4_2, .int .i64 x5_3, .int .i64 x6_4] ?_; (with_reducible refine (spec_l4Circuit.calls k4 a0_0 a0_1 x3_1 x4_2 x5_3 x6_4 t552 _ A10.out).mono ?_); rintro e w13 ⟨rfl, hb⟩; refine ⟨_, rfl, ?_⟩; replace BK551 := zV BK551.out hb; replace HB := zX1 GE551.out hb; (try clear hb)))
      go_ret
      exact ⟨zE, zG GE551.out⟩
     rw [if_neg c11] at H
     have c11b0 : (t552.toList == ([43, 43, 43, 43] : List UInt8)) = false := beq_eq_false_iff_ne.mpr c11
     have c11b1 : (t552.toList != ([43, 43, 43, 43] : List UInt8)) = true := bne_iff_ne.mpr c11
     have H' := Aside0.mk H; clear H
     obtain ⟨hcz14_0, hcz14_1, hfz14_0, hfz14_1⟩ := zq2 BK551.out
     go_wp2_with (first | ((with_reducible refine gate_callee (f := 98) rfl ?_); refine zD (some 42) Try.func98 #[.agg #[.int .i64 a0_0, .string a0_1], .int .i64 x3_1, .int .i64 x4_2, .int .i64 x5_3, .int .i64 x6_4] ?_; (with_reducible refine (spec_l4Circuit.calls k4 a0_0 a0_1 x3_1 x4_2 x5_3 x6_4 t552 _ A10.out).mono ?_); rintro e w15 ⟨rfl, hb⟩; refine ⟨_, rfl, ?_⟩; replace BK551 := zV BK551.out hb; replace HB := zX1 GE551.out hb; (try clear hb)))
     go_roundg k4
     case measure => have := HK1.out; have := HK2.out; have := HK3.out; have := HK4.out; omega
     case rel => exact ⟨(wrap64 (x6_4 + 1)), zF, H', ⟨by have := HK1.out; have := HK2.out; have := HK3.out; have := HK4.out; omega⟩, ⟨zK BK551.out⟩, ⟨zG GE551.out⟩⟩
    rw [if_neg c9] at H
    have c9b0 : decide (x6_4 < a0_0) = false := decide_eq_false c9
    clear c9
    have H' := Aside0.mk H; clear H
    obtain ⟨hcz16_0, hcz16_1, hfz16_0, hfz16_1⟩ := zq2 BK551.out
    go_wp2
    go_roundg k4
    case measure => have := HK1.out; have := HK2.out; have := HK3.out; have := HK4.out; omega
    case rel => exact ⟨(wrap64 (x5_3 + 1)), zF, H', ⟨by have := HK1.out; have := HK2.out; have := HK3.out; have := HK4.out; omega⟩, ⟨zK BK551.out⟩, ⟨zG GE551.out⟩⟩
   rw [if_neg c7] at H
   have c7b0 : decide (x5_3 < a0_0) = false := decide_eq_false c7
   clear c7
   have H' := Aside0.mk H; clear H
   obtain ⟨hcz17_0, hcz17_1, hfz17_0, hfz17_1⟩ := zq2 BK551.out
   go_wp2
   go_roundg k3
   case measure => have := HK1.out; have := HK2.out; have := HK3.out; omega
   case rel => exact ⟨(wrap64 (x4_2 + 1)), zF, H', ⟨by have := HK1.out; have := HK2.out; have := HK3.out; omega⟩, ⟨zK BK551.out⟩, ⟨zG GE551.out⟩⟩
  rw [if_neg c5] at H
  have c5b0 : decide (x4_2 < a0_0) = false := decide_eq_false c5
  clear c5
  have H' := Aside0.mk H; clear H
  obtain ⟨hcz18_0, hcz18_1, hfz18_0, hfz18_1⟩ := zq2 BK551.out
  go_wp2
  go_roundg k2
  case measure => have := HK1.out; have := HK2.out; omega
  case rel => exact ⟨(wrap64 (x3_1 + 1)), zF, H', ⟨by have := HK1.out; have := HK2.out; omega⟩, ⟨zK BK551.out⟩, ⟨zG GE551.out⟩⟩
 rw [if_neg c3] at H
 have c3b0 : decide (x3_1 < a0_0) = false := decide_eq_false c3
 clear c3
 obtain rfl := Option.some.inj H
 obtain ⟨hcz19_0, hcz19_1, hfz19_0, hfz19_1⟩ := zq2 BK551.out
 go_wp2
 go_ret
 exact ⟨zE, zG GE551.out⟩
/-! ### spec_AcyclicSets: function 20 -/
def spec_AcyclicSets.l0 : Nat → List Int → Int → Int → ByteArray → Option (List Int)
 | 0, _, _, _, _ => none
 | k + 1, x3, x4, x554000, x554001 => if 0 ≤ (IntKind.u64.wrap (x554000)) then (if x4 < (shl .i64 1 (IntKind.u64.wrap (x554000))) then ((spec_l4Reverse.f k x554000 x554001 x4).bind fun bt558 => ((spec_l4Acyclic.f k bt558.1 bt558.2).bind fun t560 => (if t560 = true then (if x3.length < 17592186044416 then (spec_AcyclicSets.l0 k (x3 ++ [x4]) (wrap64 (x4 + 1)) x554000 x554001) else (none)) else (spec_AcyclicSets.l0 k x3 (wrap64 (x4 + 1)) x554000 x554001)))) else (some x3)) else (none)
def spec_AcyclicSets.f (k : Nat) (a0_0 : Int) (a0_1 : ByteArray) : Option (List Int) := (some (([] : List Int) : List Int)).bind fun y554 => ((spec_IsMatroid.f k a0_0 a0_1).bind fun t557 => (if t557 = true then (spec_AcyclicSets.l0 k y554 0 a0_0 a0_1) else (some y554)))
set_option maxHeartbeats 8000000 in
set_option maxRecDepth 100000 in
theorem spec_AcyclicSets.calls (k : Nat) (a0_0 : Int) (a0_1 : ByteArray) (r : List Int) (w : World) (h : spec_AcyclicSets.f k a0_0 a0_1 = some r) :
  Calls Try.prog 20 #[.agg #[.int .i64 a0_0, .string a0_1]] w fun e w' => ∃ v0_ : Value, e = .returned (v0_) ∧ Kd.R (Kd.int .i64) 3 w' w.heap.size (fun _ => True) v0_ r ∧ Below w.heap.size w w' := by
 have hu25 := Try.underlying25
 have HB := Aside0.mk (Below.refl w.heap.size w)
 have H : ((some (([] : List Int) : List Int)).bind fun y554 => ((spec_IsMatroid.f k a0_0 a0_1).bind fun t557 => (if t557 = true then (spec_AcyclicSets.l0 k y554 0 a0_0 a0_1) else (some y554)))) = some r := h
 clear h
 obtain ⟨y554, hy554⟩ : ∃ y_ : List Int, y_ = (([] : List Int)) := ⟨_, rfl⟩
 replace H : ((spec_IsMatroid.f k a0_0 a0_1).bind fun t557 => (if t557 = true then (spec_AcyclicSets.l0 k y554 0 a0_0 a0_1) else (some y554))) = some r := by first | (rw [hy554]; with_reducible exact H) | (have H2_ := (Option.bind_some _ _).symm.trans H; rw [hy554]; with_reducible exact H2_) | (have H2_ := (Option.bind_some _ _).symm.trans H; with_reducible exact H2_) | with_reducible exact H | (rw [hy554]; exact H) | exact H
 have Ny554 := Aside0.mk hy554
 clear hy554
 obtain ⟨t557, A2, H⟩ := zO H
 by_cases c3 : t557 = true
 ·subst c3
  replace H := (if_pos rfl).symm.trans H
  have H' := Aside0.mk H; clear H
  go_enter Try.func20, Try.ntmps20
  go_wp2_with (first | ((with_reducible refine gate_dst (N := 1) rfl ?_); refine zBx (N := 1) #[.int .i64 a0_0, .string a0_1] 25 ?_; intro gb553 hg w4 hbox hb; have BK553 := Aside0.mk (hbox); have GW553 := zS hg; have GE553 := zS hg; replace HB := zX hb; clear hb hbox hg) | ((with_reducible refine gate_dst (N := 5) rfl ?_); refine Kd.R_lit (Kd.int .i64) _ 3 ?hg (N := 5) ?hd (xs := ([] : List Int)) (inner := []) (ok := fun _ => True) (okp := fun _ => True) ?hr ?hp (fun _ hk => hk) trivial (Below.refl _ _) (Nat.le_refl _) (by simp) ?_; (case hd => rfl); (case hg => rfl); (case hr => first | (go_simp; done) | (go_simp; rfl)); (case hp => exact (Reps.none _ _)); intro v555 w5 ho6 hb hg_ hnew_; clear hg_ hnew_; (first | rw [← Ny554.out] at ho6 | (simp only [Int.reduceToNat] at ho6; rw [← Ny554.out] at ho6)); have HO556 := Aside0.mk (Kd.R_lower ho6 (below_size (zG GE553.out))); replace BK553 := zV BK553.out hb; replace HB := zX1 GE553.out hb; clear hb ho6; obtain ⟨hcz7_0, hcz7_1, hfz7_0, hfz7_1⟩ := zq2 BK553.out) | ((with_reducible refine gate_callee (f := 22) rfl ?_); refine zD (some 7) Try.func22 #[.agg #[.int .i64 a0_0, .string a0_1]] ?_; (with_reducible refine (spec_IsMatroid.calls k a0_0 a0_1 true _ A2.out).mono ?_); rintro e w8 ⟨rfl, hb⟩; refine ⟨_, rfl, ?_⟩; replace HO556 := zW HO556.out hb; replace BK553 := zV BK553.out hb; replace HB := zX1 GE553.out hb; (try clear hb)))
  go_loopg [3, 4] k (fun kq v3 v4 w' => ∃ (x3_1 : List Int) (x4_1 : Int), v4 = .int .i64 x4_1 ∧ Aside0 (spec_AcyclicSets.l0 kq x3_1 x4_1 a0_0 a0_1 = some r) ∧ Aside0 (kq ≤ k) ∧ Aside0 (Kd.R (Kd.int .i64) 3 w' w.heap.size (fun _ => True) v3 x3_1) ∧ Aside0 (w'.heap[gb553]? = some (.cells #[.int .i64 a0_0, .string a0_1] 25 (0, 0))) ∧ Aside0 (Below w.heap.size w w'))
  case atStart => exact ⟨(y554), (0), zF, H', ⟨Nat.le_refl _⟩, ⟨zR HO556.out⟩, ⟨zK BK553.out⟩, ⟨zG GE553.out⟩⟩
  case round =>
  clear H'
  try clear c3
  try clear hcz7_0
  try clear hcz7_1
  try clear hfz7_0
  try clear hfz7_1
  obtain ⟨x3_1, x4_1, rfl, HA, HK1, HO_3, BK553, HB⟩ := hrel
  cases gk with
  | zero => exact absurd HA.out (by simp [spec_AcyclicSets.l0])
  | succ k1 =>
  have H := HA.out
  clear HA
  simp only [spec_AcyclicSets.l0] at H
  obtain ⟨ji9, hji9⟩ : ∃ j_ : Int, (IntKind.u64.wrap (a0_0)) = j_ := ⟨_, rfl⟩
  replace H : (if 0 ≤ (ji9) then (if x4_1 < (shl .i64 1 (ji9)) then ((spec_l4Reverse.f k1 a0_0 a0_1 x4_1).bind fun bt558 => ((spec_l4Acyclic.f k1 bt558.1 bt558.2).bind fun t560 => (if t560 = true then (if x3_1.length < 17592186044416 then (spec_AcyclicSets.l0 k1 (x3_1 ++ [x4_1]) (wrap64 (x4_1 + 1)) a0_0 a0_1) else (none)) else (spec_AcyclicSets.l0 k1 x3_1 (wrap64 (x4_1 + 1)) a0_0 a0_1)))) else (some x3_1)) else (none)) = some r := by first | (rw [hji9] at H; exact H) | (simp only [hji9] at H ⊢; exact H)
  by_cases c10 : 0 ≤ (ji9)
  ·rw [if_pos c10] at H
   have c10b0 := eq_true c10
   have c10b1 : decide (0 ≤ (ji9)) = true := decide_eq_true c10
   clear c10
   obtain ⟨ji11, hji11⟩ : ∃ j_ : Int, (shl .i64 1 (ji9)) = j_ := ⟨_, rfl⟩
   replace H : (if x4_1 < (ji11) then ((spec_l4Reverse.f k1 a0_0 a0_1 x4_1).bind fun bt558 => ((spec_l4Acyclic.f k1 bt558.1 bt558.2).bind fun t560 => (if t560 = true then (if x3_1.length < 17592186044416 then (spec_AcyclicSets.l0 k1 (x3_1 ++ [x4_1]) (wrap64 (x4_1 + 1)) a0_0 a0_1) else (none)) else (spec_AcyclicSets.l0 k1 x3_1 (wrap64 (x4_1 + 1)) a0_0 a0_1)))) else (some x3_1)) = some r := by first | (rw [hji11] at H; exact H) | (simp only [hji11] at H ⊢; exact H)
   have hji11_ : (IntKind.i64.wrap (1 * 2 ^ min (ji9).toNat 64)) = ji11 := hji11
   have hji11z : (ji9) ≤ 64 → (IntKind.i64.wrap (1 * 2 ^ (ji9).toNat)) = ji11 := shl_small hji11
   have hji11u : (IntKind.i64.wrap (2 ^ min (ji9).toNat 64)) = ji11 := by have h_ := hji11_; rw [Int.one_mul] at h_; exact h_
   have hji11v : (ji9) ≤ 64 → (IntKind.i64.wrap (2 ^ (ji9).toNat)) = ji11 := fun hle_ => by have h_ := hji11z hle_; rw [Int.one_mul] at h_; exact h_
   have hji11y : (wrap64 (1 * 2 ^ min (ji9).toNat 64)) = ji11 := (i64_w _).symm.trans hji11_
   have hji11x : (ji9) ≤ 64 → (wrap64 (1 * 2 ^ (ji9).toNat)) = ji11 := fun h_ => (i64_w _).symm.trans (hji11z h_)
   by_cases c12 : x4_1 < (ji11)
   ·rw [if_pos c12] at H
    have c12b0 : decide (x4_1 < (ji11)) = true := decide_eq_true c12
    clear c12
    obtain ⟨⟨t558, t559⟩, A13, H⟩ := zO H
    dsimp only at H
    obtain ⟨t560, A14, H⟩ := zO H
    by_cases c15 : t560 = true
    ·subst c15
     replace H := (if_pos rfl).symm.trans H
     by_cases c16 : x3_1.length < 17592186044416
     ·rw [if_pos c16] at H
      have LMc16 := Aside0.mk c16
      clear c16
      obtain ⟨y561, hy561⟩ : ∃ y_ : List Int, y_ = (x3_1 ++ [x4_1]) := ⟨_, rfl⟩
      replace H : (spec_AcyclicSets.l0 k1 y561 (wrap64 (x4_1 + 1)) a0_0 a0_1) = some r := by first | (rw [hy561]; with_reducible exact H) | (have H2_ := (Option.bind_some _ _).symm.trans H; rw [hy561]; with_reducible exact H2_) | (have H2_ := (Option.bind_some _ _).symm.trans H; with_reducible exact H2_) | with_reducible exact H | (rw [hy561]; exact H) | exact H
      have Ny561 := Aside0.mk hy561
      clear hy561
      have H' := Aside0.mk H; clear H
      obtain ⟨hcz17_0, hcz17_1, hfz17_0, hfz17_1⟩ := zq2 BK553.out
      go_wp2_with (first | ((with_reducible refine gate_callee (f := 90) rfl ?_); refine zD (some 20) Try.func90 #[.agg #[.int .i64 a0_0, .string a0_1], .int .i64 x4_1] ?_; (with_reducible refine (spec_l4Reverse.calls k1 a0_0 a0_1 x4_1 t558 t559 _ A13.out).mono ?_); rintro e w18 ⟨rfl, hb⟩; refine ⟨_, rfl, ?_⟩; replace HO_3 := zW HO_3.out hb; replace BK553 := zV BK553.out hb; replace HB := zX1 GE553.out hb; (try clear hb)) | ((with_reducible refine gate_callee (f := 99) rfl ?_); refine zD (some 21) Try.func99 #[.agg #[.int .i64 t558, .string t559]] ?_; (with_reducible refine (spec_l4Acyclic.calls k1 t558 t559 true _ A14.out).mono ?_); rintro e w19 ⟨rfl, hb⟩; refine ⟨_, rfl, ?_⟩; replace HO_3 := zW HO_3.out hb; replace BK553 := zV BK553.out hb; replace HB := zX1 GE553.out hb; (try clear hb)) | ((with_reducible refine gate_builtin (b := .append) (xs := #[.tmp 22, .tmp 24]) rfl ?_); at_builtin; refine Kd.R_append (Kd.int .i64) (w0 := w) w.heap.size rfl (.tmp 22) (.tmp 24) 27 3 (.int .i64 0) 8 rfl Try.underlying27 info3 rfl (by decide) (by omega) u3 x3_1 x4_1 [.int .i64 x4_1] (fun _ => True) (fun _ => False) rfl rfl ?aP (fun _ hk => hk.elim) ?aF ?aO ?aB ?aS ?aL ?_; (case aP => exact rfl); (case aB => exact (zG GE553.out)); (case aF => exact (fun _ _ => trivial)); (case aO => exact (zR HO_3.out)); (case aS => exact (below_size (zG GE553.out))); (case aL => have := LMc16.out; omega); intro v562 w20 ho hb hg hat; rw [← Ny561.out] at ho; have n0_ := Aside0.mk (blk_grown (g := gb553) (o := .cells #[.int .i64 a0_0, .string a0_1] 25 (0, 0)) (zK BK553.out) hg (Kd.R_ne HO_3.out BK553.out (by decide))); have n1_ := Aside0.mk (hb); have n2_ := Aside0.mk (ho); clear BK553; clear HB; clear HO_3; have BK553 := n0_; have HB := n1_; have HO563 := n2_; clear n0_ n1_ n2_; clear ho hb hg hat))
      go_roundg k1
      case measure => have := HK1.out; omega
      case rel => exact ⟨(y561), (wrap64 (x4_1 + 1)), zF, H', ⟨by have := HK1.out; omega⟩, ⟨zR HO563.out⟩, ⟨zK BK553.out⟩, ⟨zG GE553.out⟩⟩
     rw [if_neg c16] at H
     exact absurd H (by simp)
    replace c15 := Bool.eq_false_iff.mpr c15
    subst c15
    replace H := (if_neg zFf).symm.trans H
    have H' := Aside0.mk H; clear H
    obtain ⟨hcz21_0, hcz21_1, hfz21_0, hfz21_1⟩ := zq2 BK553.out
    go_wp2_with (first | ((with_reducible refine gate_callee (f := 90) rfl ?_); refine zD (some 20) Try.func90 #[.agg #[.int .i64 a0_0, .string a0_1], .int .i64 x4_1] ?_; (with_reducible refine (spec_l4Reverse.calls k1 a0_0 a0_1 x4_1 t558 t559 _ A13.out).mono ?_); rintro e w22 ⟨rfl, hb⟩; refine ⟨_, rfl, ?_⟩; replace HO_3 := zW HO_3.out hb; replace BK553 := zV BK553.out hb; replace HB := zX1 GE553.out hb; (try clear hb)) | ((with_reducible refine gate_callee (f := 99) rfl ?_); refine zD (some 21) Try.func99 #[.agg #[.int .i64 t558, .string t559]] ?_; (with_reducible refine (spec_l4Acyclic.calls k1 t558 t559 false _ A14.out).mono ?_); rintro e w23 ⟨rfl, hb⟩; refine ⟨_, rfl, ?_⟩; replace HO_3 := zW HO_3.out hb; replace BK553 := zV BK553.out hb; replace HB := zX1 GE553.out hb; (try clear hb)))
    go_roundg k1
    case measure => have := HK1.out; omega
    case rel => exact ⟨(x3_1), (wrap64 (x4_1 + 1)), zF, H', ⟨by have := HK1.out; omega⟩, ⟨zR HO_3.out⟩, ⟨zK BK553.out⟩, ⟨zG GE553.out⟩⟩
   rw [if_neg c12] at H
   have c12b0 : decide (x4_1 < (ji11)) = false := decide_eq_false c12
   clear c12
   obtain rfl := Option.some.inj H
   obtain ⟨hcz24_0, hcz24_1, hfz24_0, hfz24_1⟩ := zq2 BK553.out
   go_wp2
   go_ret
   exact ⟨_, by first | rfl | (simp [errW_none, errW_some] <;> rfl) | (simp only [← hji9, ← hji11]; first | rfl | (simp [errW_none, errW_some] <;> rfl)) | (simp [*, errW_none, errW_some] <;> rfl), zR HO_3.out, zG GE553.out⟩
  rw [if_neg c10] at H
  exact absurd H (by simp)
 replace c3 := Bool.eq_false_iff.mpr c3
 subst c3
 replace H := (if_neg zFf).symm.trans H
 obtain rfl := Option.some.inj H
 go_enter Try.func20, Try.ntmps20
 go_wp2_with (first | ((with_reducible refine gate_dst (N := 1) rfl ?_); refine zBx (N := 1) #[.int .i64 a0_0, .string a0_1] 25 ?_; intro gb553 hg w25 hbox hb; have BK553 := Aside0.mk (hbox); have GW553 := zS hg; have GE553 := zS hg; replace HB := zX hb; clear hb hbox hg) | ((with_reducible refine gate_dst (N := 5) rfl ?_); refine Kd.R_lit (Kd.int .i64) _ 3 ?hg (N := 5) ?hd (xs := ([] : List Int)) (inner := []) (ok := fun _ => True) (okp := fun _ => True) ?hr ?hp (fun _ hk => hk) trivial (Below.refl _ _) (Nat.le_refl _) (by simp) ?_; (case hd => rfl); (case hg => rfl); (case hr => first | (go_simp; done) | (go_simp; rfl)); (case hp => exact (Reps.none _ _)); intro v555 w26 ho27 hb hg_ hnew_; clear hg_ hnew_; (first | rw [← Ny554.out] at ho27 | (simp only [Int.reduceToNat] at ho27; rw [← Ny554.out] at ho27)); have HO556 := Aside0.mk (Kd.R_lower ho27 (below_size (zG GE553.out))); replace BK553 := zV BK553.out hb; replace HB := zX1 GE553.out hb; clear hb ho27; obtain ⟨hcz28_0, hcz28_1, hfz28_0, hfz28_1⟩ := zq2 BK553.out) | ((with_reducible refine gate_callee (f := 22) rfl ?_); refine zD (some 7) Try.func22 #[.agg #[.int .i64 a0_0, .string a0_1]] ?_; (with_reducible refine (spec_IsMatroid.calls k a0_0 a0_1 false _ A2.out).mono ?_); rintro e w29 ⟨rfl, hb⟩; refine ⟨_, rfl, ?_⟩; replace HO556 := zW HO556.out hb; replace BK553 := zV BK553.out hb; replace HB := zX1 GE553.out hb; (try clear hb)))
 go_ret
 exact ⟨_, zE, zR HO556.out, zG GE553.out⟩
/-! ### impl_IsAcyclic: function 23 -/
def impl_IsAcyclic.f (k : Nat) (a0_0 : Int) (a0_1 : ByteArray) : Option (Bool) := (impl_IsMatroid.f a0_0 a0_1).bind fun t565 => (if t565 = true then ((impl_tableOf.f k a0_0 a0_1).bind fun t566 => (if t566.length = 344 then ((impl_chi_isAcyclic.f k t566).bind fun t569 => (some t569)) else (none))) else (some false))
set_option maxHeartbeats 8000000 in
set_option maxRecDepth 100000 in
theorem impl_IsAcyclic.calls (k : Nat) (a0_0 : Int) (a0_1 : ByteArray) (r : Bool) (w : World) (h : impl_IsAcyclic.f k a0_0 a0_1 = some r) :
  Calls Try.prog 23 #[.agg #[.int .i64 a0_0, .string a0_1]] w fun e w' => e = .returned (.bool r) ∧ Below w.heap.size w w' := by
 have hu25 := Try.underlying25
 have HB := Aside0.mk (Below.refl w.heap.size w)
 have H : ((impl_IsMatroid.f a0_0 a0_1).bind fun t565 => (if t565 = true then ((impl_tableOf.f k a0_0 a0_1).bind fun t566 => (if t566.length = 344 then ((impl_chi_isAcyclic.f k t566).bind fun t569 => (some t569)) else (none))) else (some false))) = some r := h
 clear h
 obtain ⟨t565, A2, H⟩ := zO H
 by_cases c3 : t565 = true
 ·subst c3
  replace H := (if_pos rfl).symm.trans H
  obtain ⟨t566, A4, H⟩ := zO H
  by_cases c5 : t566.length = 344
  ·rw [if_pos c5] at H
   have c5b0 := eq_true c5
   have c5b1 : decide (t566.length = 344) = true := decide_eq_true c5
   clear c5
   obtain ⟨t569, A6, H⟩ := zO H
   obtain rfl := Option.some.inj H
   go_enter Try.func23, Try.ntmps23
   go_wp2_with (first | ((with_reducible refine gate_dst (N := 1) rfl ?_); refine zBx (N := 1) #[.int .i64 a0_0, .string a0_1] 25 ?_; intro gb564 hg w7 hbox hb; have BK564 := Aside0.mk (hbox); have GW564 := zS hg; have GE564 := zS hg; replace HB := zX hb; clear hb hbox hg; obtain ⟨hcz8_0, hcz8_1, hfz8_0, hfz8_1⟩ := zq2 BK564.out) | ((with_reducible refine gate_callee (f := 21) rfl ?_); refine zD (some 4) Try.func21 #[.agg #[.int .i64 a0_0, .string a0_1]] ?_; (with_reducible refine (impl_IsMatroid.calls a0_0 a0_1 true _ A2.out).mono ?_); rintro e w9 ⟨rfl, hb⟩; refine ⟨_, rfl, ?_⟩; replace BK564 := zV BK564.out hb; replace HB := zX1 GE564.out hb; (try clear hb); obtain ⟨hcz10_0, hcz10_1, hfz10_0, hfz10_1⟩ := zq2 BK564.out) | (go_at_call 83; (with_reducible refine (impl_tableOf.calls k a0_0 a0_1 t566 _ A4.out).mono ?_); rintro e w11 ⟨v567, rfl, ho0, hb⟩; have HO568 := Aside0.mk (Kd.R_lower ho0 (below_size (zG GE564.out))); replace BK564 := zV BK564.out hb; replace HB := zX1 GE564.out hb; (try clear hb); (try clear hb2); (try clear hk); (try clear hi); (try clear ho0); obtain ⟨go12, co12, eo12, gb12, gl12, cl12, HG12⟩ := Kd.R_form HO568.out (by have hl_ := Nat.le_of_eq (Eq.symm (zA : t566.length = 344)); omega); (first | cases eo12 | (injection eo12 with ea_ en_ ec_; (first | subst ea_ | (injection ea_ with ea_; subst ea_)); subst ec_; clear en_)); have GB12 := Aside0.mk gb12; have GG12 := Aside0.mk HG12; clear gb12 gl12 HG12) | (go_at_call 92; (with_reducible refine (impl_chi_isAcyclic.calls k _ t566 t569 _ ?side1 ?side2 A6.out).mono ?_); (case side1 => repeat (first | exact (Kd.R_reads' HO568.out).2.2 | (with_reducible refine Kd.C_alloc ?_ _) | (with_reducible refine Kd.C_drewN ?_ _) | (with_reducible refine Kd.C_drew ?_))); (case side2 => exact (zA : t566.length = 344)); rintro e w13 ⟨rfl, hb⟩; replace HO568 := zW HO568.out hb; replace BK564 := zV BK564.out hb; replace HB := zX1 GE564.out hb; (try clear hb); (try clear hb2); (try clear hk); (try clear hi)))
   go_ret
   exact ⟨zE, zG GE564.out⟩
  rw [if_neg c5] at H
  exact absurd H (by simp)
 replace c3 := Bool.eq_false_iff.mpr c3
 subst c3
 replace H := (if_neg zFf).symm.trans H
 obtain rfl := Option.some.inj H
 go_enter Try.func23, Try.ntmps23
 go_wp2_with (first | ((with_reducible refine gate_dst (N := 1) rfl ?_); refine zBx (N := 1) #[.int .i64 a0_0, .string a0_1] 25 ?_; intro gb564 hg w14 hbox hb; have BK564 := Aside0.mk (hbox); have GW564 := zS hg; have GE564 := zS hg; replace HB := zX hb; clear hb hbox hg; obtain ⟨hcz15_0, hcz15_1, hfz15_0, hfz15_1⟩ := zq2 BK564.out) | ((with_reducible refine gate_callee (f := 21) rfl ?_); refine zD (some 4) Try.func21 #[.agg #[.int .i64 a0_0, .string a0_1]] ?_; (with_reducible refine (impl_IsMatroid.calls a0_0 a0_1 false _ A2.out).mono ?_); rintro e w16 ⟨rfl, hb⟩; refine ⟨_, rfl, ?_⟩; replace BK564 := zV BK564.out hb; replace HB := zX1 GE564.out hb; (try clear hb)))
 go_ret
 exact ⟨zE, zG GE564.out⟩
/-! ### spec_IsAcyclic: function 24 -/
def spec_IsAcyclic.f (k : Nat) (a0_0 : Int) (a0_1 : ByteArray) : Option (Bool) := (spec_IsMatroid.f k a0_0 a0_1).bind fun t571 => (if t571 = true then ((spec_l4Acyclic.f k a0_0 a0_1).bind fun t572 => (some t572)) else (some false))
set_option maxHeartbeats 8000000 in
set_option maxRecDepth 100000 in
theorem spec_IsAcyclic.calls (k : Nat) (a0_0 : Int) (a0_1 : ByteArray) (r : Bool) (w : World) (h : spec_IsAcyclic.f k a0_0 a0_1 = some r) :
  Calls Try.prog 24 #[.agg #[.int .i64 a0_0, .string a0_1]] w fun e w' => e = .returned (.bool r) ∧ Below w.heap.size w w' := by
 have hu25 := Try.underlying25
 have HB := Aside0.mk (Below.refl w.heap.size w)
 have H : ((spec_IsMatroid.f k a0_0 a0_1).bind fun t571 => (if t571 = true then ((spec_l4Acyclic.f k a0_0 a0_1).bind fun t572 => (some t572)) else (some false))) = some r := h
 clear h
 obtain ⟨t571, A2, H⟩ := zO H
 by_cases c3 : t571 = true
 ·subst c3
  replace H := (if_pos rfl).symm.trans H
  obtain ⟨t572, A4, H⟩ := zO H
  obtain rfl := Option.some.inj H
  go_enter Try.func24, Try.ntmps24
  go_wp2_with (first | ((with_reducible refine gate_dst (N := 1) rfl ?_); refine zBx (N := 1) #[.int .i64 a0_0, .string a0_1] 25 ?_; intro gb570 hg w5 hbox hb; have BK570 := Aside0.mk (hbox); have GW570 := zS hg; have GE570 := zS hg; replace HB := zX hb; clear hb hbox hg; obtain ⟨hcz6_0, hcz6_1, hfz6_0, hfz6_1⟩ := zq2 BK570.out) | ((with_reducible refine gate_callee (f := 22) rfl ?_); refine zD (some 4) Try.func22 #[.agg #[.int .i64 a0_0, .string a0_1]] ?_; (with_reducible refine (spec_IsMatroid.calls k a0_0 a0_1 true _ A2.out).mono ?_); rintro e w7 ⟨rfl, hb⟩; refine ⟨_, rfl, ?_⟩; replace BK570 := zV BK570.out hb; replace HB := zX1 GE570.out hb; (try clear hb); obtain ⟨hcz8_0, hcz8_1, hfz8_0, hfz8_1⟩ := zq2 BK570.out) | (go_at_call 99; (with_reducible refine (spec_l4Acyclic.calls k a0_0 a0_1 t572 _ A4.out).mono ?_); rintro e w9 ⟨rfl, hb⟩; replace BK570 := zV BK570.out hb; replace HB := zX1 GE570.out hb; (try clear hb); (try clear hb2); (try clear hk); (try clear hi)))
  go_ret
  exact ⟨zE, zG GE570.out⟩
 replace c3 := Bool.eq_false_iff.mpr c3
 subst c3
 replace H := (if_neg zFf).symm.trans H
 obtain rfl := Option.some.inj H
 go_enter Try.func24, Try.ntmps24
 go_wp2_with (first | ((with_reducible refine gate_dst (N := 1) rfl ?_); refine zBx (N := 1) #[.int .i64 a0_0, .string a0_1] 25 ?_; intro gb570 hg w10 hbox hb; have BK570 := Aside0.mk (hbox); have GW570 := zS hg; have GE570 := zS hg; replace HB := zX hb; clear hb hbox hg; obtain ⟨hcz11_0, hcz11_1, hfz11_0, hfz11_1⟩ := zq2 BK570.out) | ((with_reducible refine gate_callee (f := 22) rfl ?_); refine zD (some 4) Try.func22 #[.agg #[.int .i64 a0_0, .string a0_1]] ?_; (with_reducible refine (spec_IsMatroid.calls k a0_0 a0_1 false _ A2.out).mono ?_); rintro e w12 ⟨rfl, hb⟩; refine ⟨_, rfl, ?_⟩; replace BK570 := zV BK570.out hb; replace HB := zX1 GE570.out hb; (try clear hb)))
 go_ret
 exact ⟨zE, zG GE570.out⟩
/-! ### spec_l2Bent: function 100 -/
def spec_l2Bent.f (k : Nat) (s0_0 : List Int) (s0_1 : Int) (s0_2 : Int) : Option ((List (S83)) × Int × Int) := (spec_l2Draw.f k s0_0 s0_1 s0_2).bind fun bt573 => ((spec_l1Below.f s0_0 bt573.2.1 bt573.2.2 14).bind fun bt578 => (if bt578.1 = 0 then ((spec_l1PickInt.f s0_0 bt578.2.1 bt578.2.2 (([50, 51, (-51)] : List Int))).bind fun bt584 => (if 0 < (bt573.1.length : Int) then (some ((bt573.1.set (0 : Int).toNat (⟨bt584.1, (rd_T83 bt573.1 0).f1⟩ : S83)), bt584.2.1, bt584.2.2)) else (none))) else (if bt578.1 = 1 then (if 0 < (bt573.1.length : Int) then (if bt573.1.length < 8796093022208 then (some ((bt573.1 ++ [(⟨(rd_T83 bt573.1 0).f0, (rd_T83 bt573.1 0).f1⟩ : S83)]), bt578.2.1, bt578.2.2)) else (none)) else (none)) else (some (bt573.1, bt578.2.1, bt578.2.2)))))
theorem zl64_0 {p q : Prop} (g : p) (h : p → q := by intro zg_; repeat (first | (with_reducible first | exact zg_ | apply IsS110.alloc | apply IsS110.drewN | apply IsS110.drew | apply IsS110.set_1 | apply IsS110.set_2) | exact zg_)) : q := h g
theorem zl64_1 {p q p0 : Prop} (g : p) (g0 : p0) (h : p → p0 → q := by intro zg_ z0_; repeat (first | (with_reducible first | exact zg_ | apply below_alloc | apply pw_below_drewN | apply below_drew1 | refine below_set ?_ z0_) | exact zg_)) : q := h g g0
theorem zl64_2 {p q : Prop} (g : p) (h : p → q := by intro zg_; repeat (first | (with_reducible first | exact zg_ | apply KeepBut.set_ | apply keep_drewN | apply keep_drew | apply keep_alloc) | exact zg_)) : q := h g
set_option maxHeartbeats 8000000 in
set_option maxRecDepth 100000 in
theorem spec_l2Bent.calls (k : Nat) (g : Nat) (s0_0 : List Int) (s0_1 : Int) (s0_2 : Int) (r1 : List (S83)) (r2 : Int) (r3 : Int) (w0 w : World) (hI : IsS110 w0 w g s0_0 s0_1 s0_2) (hB : Below w0.heap.size w0 w) (h : spec_l2Bent.f k s0_0 s0_1 s0_2 = some (r1, r2, r3)) :
  Calls Try.prog 100 #[.pointer (some ⟨g, 0, none⟩)] w fun e w' => ∃ v0_ : Value, e = .returned (v0_) ∧ Kd.R k83 83 w' w.heap.size (fun _ => True) v0_ r1 ∧ IsS110 w0 w' g s0_0 r2 r3 ∧ Below w0.heap.size w0 w' ∧ KeepBut w w' g none := by
 have hu83 := Try.underlying83
 have HI0 := Aside0.mk hI
 have HK := Aside0.mk (KeepBut.refl w g none)
 have HL := Aside0.mk hB.size
 clear hI
 have HW0 := Aside0.mk hB.size
 have HB := Aside0.mk hB
 clear hB
 have H : ((spec_l2Draw.f k s0_0 s0_1 s0_2).bind fun bt573 => ((spec_l1Below.f s0_0 bt573.2.1 bt573.2.2 14).bind fun bt578 => (if bt578.1 = 0 then ((spec_l1PickInt.f s0_0 bt578.2.1 bt578.2.2 (([50, 51, (-51)] : List Int))).bind fun bt584 => (if 0 < (bt573.1.length : Int) then (some ((bt573.1.set (0 : Int).toNat (⟨bt584.1, (rd_T83 bt573.1 0).f1⟩ : S83)), bt584.2.1, bt584.2.2)) else (none))) else (if bt578.1 = 1 then (if 0 < (bt573.1.length : Int) then (if bt573.1.length < 8796093022208 then (some ((bt573.1 ++ [(⟨(rd_T83 bt573.1 0).f0, (rd_T83 bt573.1 0).f1⟩ : S83)]), bt578.2.1, bt578.2.2)) else (none)) else (none)) else (some (bt573.1, bt578.2.1, bt578.2.2)))))) = some (r1, r2, r3) := h
 clear h
 obtain ⟨⟨t573, t576, t577⟩, A2, H⟩ := zO H
 dsimp only at H
 obtain ⟨⟨t578, t579, t580⟩, A3, H⟩ := zO H
 dsimp only at H
 by_cases c4 : t578 = 0
 ·rw [if_pos c4] at H
  have c4b0 : (t578 == 0) = true := beq_iff_eq.mpr c4
  have c4b1 : (t578 != 0) = false := bne_eq_false_iff_eq.mpr c4
  clear c4
  obtain ⟨y581, hy581⟩ : ∃ y_ : List Int, y_ = (([50, 51, (-51)] : List Int)) := ⟨_, rfl⟩
  replace H : ((spec_l1PickInt.f s0_0 t579 t580 y581).bind fun bt584 => (if 0 < (t573.length : Int) then (some ((t573.set (0 : Int).toNat (⟨bt584.1, (rd_T83 t573 0).f1⟩ : S83)), bt584.2.1, bt584.2.2)) else (none))) = some (r1, r2, r3) := by first | (rw [hy581]; with_reducible exact H) | (have H2_ := (Option.bind_some _ _).symm.trans H; rw [hy581]; with_reducible exact H2_) | (have H2_ := (Option.bind_some _ _).symm.trans H; with_reducible exact H2_) | with_reducible exact H | (rw [hy581]; exact H) | exact H
  have Ny581 := Aside0.mk hy581
  clear hy581
  obtain ⟨⟨t584, t585, t586⟩, A5, H⟩ := zO H
  dsimp only at H
  by_cases c6 : 0 < (t573.length : Int)
  ·rw [if_pos c6] at H
   have c6b0 : decide (0 < (t573.length : Int)) = true := decide_eq_true c6
   have c6b1 : decide (0 < t573.length) = true := decide_eq_true (by omega)
   clear c6
   obtain ⟨y587, hy587⟩ : ∃ y_ : List (S83), y_ = (t573.set (0 : Int).toNat (⟨t584, (rd_T83 t573 0).f1⟩ : S83)) := ⟨_, rfl⟩
   replace H : (some (y587, t585, t586)) = some (r1, r2, r3) := by first | (rw [hy587]; with_reducible exact H) | (have H2_ := (Option.bind_some _ _).symm.trans H; rw [hy587]; with_reducible exact H2_) | (have H2_ := (Option.bind_some _ _).symm.trans H; with_reducible exact H2_) | with_reducible exact H | (rw [hy587]; exact H) | exact H
   have Ny587 := Aside0.mk hy587
   clear hy587
   simp only [Option.some.injEq, Prod.mk.injEq] at H
   obtain ⟨rfl, rfl, rfl⟩ := H
   go_enter Try.func100, Try.ntmps100
   go_wp2_with (first | ((with_reducible refine gate_callee (f := 148) rfl ?_); refine zD (some 5) Try.func148 #[.pointer (some ⟨g, 0, none⟩)] ?_; (with_reducible refine (spec_l2Draw.calls k g s0_0 s0_1 s0_2 t573 t576 t577 w0 _ ?side1 ?side2 A2.out).mono ?_); (case side1 => exact (zl64_0 HI0.out)); (case side2 => exact (zl64_1 HB.out (IsS110.ge HI0.out))); rintro e w8 ⟨v574, rfl, ho0, hi, hb, hk⟩; refine ⟨_, rfl, ?_⟩; have HO575 := Aside0.mk (Kd.R_lower ho0 (keep_size (w := w) (g := g) (row := none) (zl64_2 HK.out))); replace HK := Aside0.mk (KeepBut.trans (zl64_2 HK.out) hk (.inl rfl)); replace HI0 := Aside0.mk (hi); replace HB := Aside0.mk (hb); (try clear hb); (try clear hk); (try clear hi); (try clear ho0)) | ((with_reducible refine gate_callee (f := 125) rfl ?_); refine zD (some 7) Try.func125 #[.pointer (some ⟨g, 0, none⟩), .int .i64 14] ?_; (with_reducible refine (spec_l1Below.calls g s0_0 t576 t577 14 t578 t579 t580 w0 _ ?side1 ?side2 A3.out).mono ?_); (case side1 => exact (zl64_0 HI0.out)); (case side2 => exact (zl64_1 HB.out (IsS110.ge HI0.out))); rintro e w9 ⟨rfl, hi, hb, hk⟩; refine ⟨_, rfl, ?_⟩; replace HO575 := Aside0.mk (Kd.R_mono (Kd.R_keep (IsS110.apart (show IsS110 w0 _ g s0_0 t576 t577 from (zl64_0 HI0.out)) (zR HO575.out) (by decide)) hk (fun _ h => h.2)) (fun _ h => h.1)); replace HK := Aside0.mk (KeepBut.trans (zl64_2 HK.out) hk (.inl rfl)); replace HI0 := Aside0.mk (hi); replace HB := Aside0.mk (hb); (try clear hb); (try clear hk); (try clear hi)) | ((with_reducible refine gate_dst (N := 12) rfl ?_); refine Kd.R_lit (Kd.int .i64) _ 3 ?hg (N := 12) ?hd (xs := ([50, 51, (-51)] : List Int)) (inner := [.int .i64 50, .int .i64 51, .int .i64 (-51)]) (ok := fun _ => True) (okp := fun _ => True) ?hr ?hp (fun _ hk => hk) trivial (Below.refl _ _) (Nat.le_refl _) (by simp) ?_; (case hd => rfl); (case hg => rfl); (case hr => first | (go_simp; done) | (go_simp; rfl)); (case hp => exact (Reps.one (show Kd.M (Kd.int .i64) _ _ _ 50 [.int .i64 50] from rfl) (Reps.one (show Kd.M (Kd.int .i64) _ _ _ 51 [.int .i64 51] from rfl) (Reps.one (show Kd.M (Kd.int .i64) _ _ _ (-51) [.int .i64 (-51)] from rfl) (Reps.none _ _))))); intro v582 w10 ho11 hb hg_ hnew_; clear hg_ hnew_; (first | rw [← Ny581.out] at ho11 | (simp only [Int.reduceToNat] at ho11; rw [← Ny581.out] at ho11)); have n0_ := zW HO575.out hb; have n1_ := Aside0.mk (Kd.R_lower ho11 (keep_size (w := w) (g := g) (row := none) (zl64_2 HK.out))); have n2_ := Aside0.mk (IsS110.below (zl64_0 HI0.out) hb); have n3_ := Aside0.mk (KeepBut.trans (zl64_2 HK.out) (KeepBut.of_below hb g none) (.inl rfl)); have n4_ := Aside0.mk (below_step (zG (IsS110.ge HI0.out)) hb); clear HO575; clear HI0; clear HK; clear HB; have HO575 := n0_; have HO583 := n1_; have HI0 := n2_; have HK := n3_; have HB := n4_; clear n0_ n1_ n2_ n3_ n4_; clear hb ho11; obtain ⟨Ao12, co12, eo12⟩ := Kd.R_slice HO583.out; subst eo12) | ((with_reducible refine gate_callee (f := 126) rfl ?_); refine zD (some 13) Try.func126 #[.pointer (some ⟨g, 0, none⟩), .slice Ao12 y581.length co12] ?_; (with_reducible refine (spec_l1PickInt.calls g s0_0 t579 t580 _ _ y581 t584 t585 t586 w0 _ ?side1 ?side2 ?side3 ?side4 ?side5 A5.out).mono ?_); (case side1 => exact (zl64_0 HI0.out)); (case side2 => exact (zl64_1 HB.out (IsS110.ge HI0.out))); (case side3 => repeat (first | exact (Kd.R_reads' HO583.out).2.2 | (with_reducible refine Kd.C_alloc ?_ _) | (with_reducible refine Kd.C_drewN ?_ _) | (with_reducible refine Kd.C_drew ?_))); (case side4 => exact (Kd.R_reads' HO583.out).2.1); (case side5 => exact far_slice (IsS110.own_ne HI0.out HO583.out (by decide))); rintro e w13 ⟨rfl, hi, hb, hk⟩; refine ⟨_, rfl, ?_⟩; replace HO575 := Aside0.mk (Kd.R_mono (Kd.R_keep (IsS110.apart (show IsS110 w0 _ g s0_0 t579 t580 from (zl64_0 HI0.out)) (zR HO575.out) (by decide)) hk (fun _ h => h.2)) (fun _ h => h.1)); replace HO583 := Aside0.mk (Kd.R_mono (Kd.R_keep (IsS110.apart (show IsS110 w0 _ g s0_0 t579 t580 from (zl64_0 HI0.out)) (zR HO583.out) (by decide)) hk (fun _ h => h.2)) (fun _ h => h.1)); replace HK := Aside0.mk (KeepBut.trans (zl64_2 HK.out) hk (.inl rfl)); replace HI0 := Aside0.mk (hi); replace HB := Aside0.mk (hb); (try clear hb); (try clear hk); (try clear hi); have p7 : 0 ≤ (0 : Int) := (by omega); have q7 : (0 : Int) < ((t573.length : Int) : Int) := zA; have qi7 : (0 < t573.length) = True := eq_true (by omega); obtain ⟨go7, co7, eo7, gb7, gl7, cl7, HG7⟩ := Kd.R_form HO575.out (by omega); (first | cases eo7 | (injection eo7 with ea_ en_ ec_; (first | subst ea_ | (injection ea_ with ea_; subst ea_)); subst ec_; clear en_)); have GB7 := Aside0.mk gb7; have GG7 := Aside0.mk HG7; clear gb7 gl7 HG7; obtain ⟨ce7, hcl7, hM7, hcc7, hfr7⟩ := Kd.R_elem HO575.out z83 (0 : Int) p7 q7; obtain rfl := k83_openM hM7; have hx7_0 : w13.cell? ⟨go7, (0 : Int).toNat * 2, none⟩ = some (.int .i64 ((rd_T83 t573 0).f0)) := hcc7 0 _ rfl; have hx7_1 : w13.cell? ⟨go7, (0 : Int).toNat * 2 + 1, none⟩ = some (.int .i64 ((rd_T83 t573 0).f1)) := hcc7 1 _ rfl; have hf7_0 : w13.frozen? ⟨go7, (0 : Int).toNat * 2, none⟩ = false := hfr7 0; have hf7_1 : w13.frozen? ⟨go7, (0 : Int).toNat * 2 + 1, none⟩ = false := hfr7 1; clear hcl7 hcc7 hfr7 hM7; (try rw [show ((0 : Int)).toNat = 0 from rfl] at hx7_0); (try simp only [Nat.reduceMul, Nat.zero_mul, Nat.zero_add, Nat.reduceAdd] at hx7_0); (try rw [show ((0 : Int)).toNat = 0 from rfl] at hf7_0); (try simp only [Nat.reduceMul, Nat.zero_mul, Nat.zero_add, Nat.reduceAdd] at hf7_0); (try rw [show ((0 : Int)).toNat = 0 from rfl] at hx7_1); (try simp only [Nat.reduceMul, Nat.zero_mul, Nat.zero_add, Nat.reduceAdd] at hx7_1); (try rw [show ((0 : Int)).toNat = 0 from rfl] at hf7_1); (try simp only [Nat.reduceMul, Nat.zero_mul, Nat.zero_add, Nat.reduceAdd] at hf7_1); replace p7 := eq_true p7; replace q7 := eq_true q7; have HX14 := Aside0.mk (show Kd.R k83 83 w13 w.heap.size (fun _ => True) (.slice (some ⟨go7, 0, none⟩) t573.length co7) t573 from (zR HO575.out)); obtain ⟨ce14, hcl14, hM14, hcc14, hfr14⟩ := Kd.R_elem HX14.out z83 (0 : Int) (by omega) (by have h_ : (0 : Int) < ((t573.length : Int) : Int) := zA; first | exact h_ | (have e_ := (Kd.R_reads' HO575.out).1; omega) | simpa using h_); obtain rfl := k83_openM hM14; have HP14 := Kd.R_seg HX14.out (0 : Int) (by omega) (by have h_ : (0 : Int) < ((t573.length : Int) : Int) := zA; first | exact h_ | (have e_ := (Kd.R_reads' HO575.out).1; omega) | simpa using h_) (seg := [.int .i64 t584]) (j := 0) hcl14 hcc14 (show 1 ≤ 2 from by decide) (x' := (⟨t584, (rd_T83 t573 0).f1⟩ : S83)) (k83_mkM _ _ _ (⟨t584, (rd_T83 t573 0).f1⟩ : S83) ) (fun _ hk => hk); have hx14_0 := hcc14 0 _ rfl; (try simp only [show (k83).sz = 2 from rfl, Nat.mul_one, Nat.add_zero] at hx14_0); (try rw [show ((0 : Int)).toNat = 0 from rfl] at hx14_0); (try simp only [Nat.reduceMul, Nat.zero_mul, Nat.zero_add, Nat.reduceAdd] at hx14_0); have hf14_0 := hfr14 0; (try simp only [show (k83).sz = 2 from rfl, Nat.mul_one, Nat.add_zero] at hf14_0); (try rw [show ((0 : Int)).toNat = 0 from rfl] at hf14_0); (try simp only [Nat.reduceMul, Nat.zero_mul, Nat.zero_add, Nat.reduceAdd] at hf14_0); clear hcl14 hcc14 hfr14 hM14) | ((with_reducible refine gate_store (t := 3) (p := 15) rfl ?_); refine store_event (t := 3) (p := 15) (v := ?vo_w15) (w1 := (w13.setCell ⟨go7, 0, none⟩ (.int .i64 t584))) ?hg ?ho ?hn ?hr ?_; (case ho => rfl); (case hg => rfl); (case hn => rfl); (case hr => first | (go_simp; done) | (go_simp; rfl)); intro w15 hw; have hg : w13.grownBy w15 (some go7) := (by rw [hw]; exact HP14.2); have hp_ : Kd.R k83 83 w15 w.heap.size (fun _ => True) (.slice (some ⟨go7, 0, none⟩) t573.length co7) y587 := (by rw [hw, Ny587.out]; exact HP14.1); clear HP14; replace HI0 := Aside0.mk (IsS110.grown (zl64_0 HI0.out) hg (IsS110.own_ne HI0.out HO575.out (by decide))); replace HO583 := Aside0.mk (Kd.R_over' (v := (.slice (some ⟨go7, 0, none⟩) t573.length co7)) (zR HO583.out) (Kd.R_typed HO575.out) (by decide) hg); replace HK := Aside0.mk (KeepBut.trans (zl64_2 HK.out) (KeepBut.of_grown hg g) (Kd.R_base2 HO575.out)); replace HO575 := Aside0.mk (hp_); replace HB := Aside0.mk ((by rw [hw]; exact below_set (HB.out) (Nat.le_trans HL.out GB7.out) : Below w0.heap.size w0 w15)); clear hg hw hp_))
   go_ret
   exact ⟨_, zE, zR HO575.out, (zl64_0 HI0.out), zG (IsS110.ge HI0.out), (zl64_2 HK.out)⟩
  rw [if_neg c6] at H
  exact absurd H (by simp)
 rw [if_neg c4] at H
 have c4b0 : (t578 == 0) = false := beq_eq_false_iff_ne.mpr c4
 have c4b1 : (t578 != 0) = true := bne_iff_ne.mpr c4
 by_cases c16 : t578 = 1
 ·rw [if_pos c16] at H
  have c16b0 : (t578 == 1) = true := beq_iff_eq.mpr c16
  have c16b1 : (t578 != 1) = false := bne_eq_false_iff_eq.mpr c16
  clear c16
  by_cases c17 : 0 < (t573.length : Int)
  ·rw [if_pos c17] at H
   have c17b0 : decide (0 < (t573.length : Int)) = true := decide_eq_true c17
   have c17b1 : decide (0 < t573.length) = true := decide_eq_true (by omega)
   clear c17
   by_cases c18 : t573.length < 8796093022208
   ·rw [if_pos c18] at H
    have LMc18 := Aside0.mk c18
    clear c18
    obtain ⟨y589, hy589⟩ : ∃ y_ : List (S83), y_ = (t573 ++ [(⟨(rd_T83 t573 0).f0, (rd_T83 t573 0).f1⟩ : S83)]) := ⟨_, rfl⟩
    replace H : (some (y589, t579, t580)) = some (r1, r2, r3) := by first | (rw [hy589]; with_reducible exact H) | (have H2_ := (Option.bind_some _ _).symm.trans H; rw [hy589]; with_reducible exact H2_) | (have H2_ := (Option.bind_some _ _).symm.trans H; with_reducible exact H2_) | with_reducible exact H | (rw [hy589]; exact H) | exact H
    have Ny589 := Aside0.mk hy589
    clear hy589
    simp only [Option.some.injEq, Prod.mk.injEq] at H
    obtain ⟨rfl, rfl, rfl⟩ := H
    go_enter Try.func100, Try.ntmps100
    go_wp2_with (first | ((with_reducible refine gate_callee (f := 148) rfl ?_); refine zD (some 5) Try.func148 #[.pointer (some ⟨g, 0, none⟩)] ?_; (with_reducible refine (spec_l2Draw.calls k g s0_0 s0_1 s0_2 t573 t576 t577 w0 _ ?side1 ?side2 A2.out).mono ?_); (case side1 => exact (zl64_0 HI0.out)); (case side2 => exact (zl64_1 HB.out (IsS110.ge HI0.out))); rintro e w19 ⟨v574, rfl, ho0, hi, hb, hk⟩; refine ⟨_, rfl, ?_⟩; have HO575 := Aside0.mk (Kd.R_lower ho0 (keep_size (w := w) (g := g) (row := none) (zl64_2 HK.out))); replace HK := Aside0.mk (KeepBut.trans (zl64_2 HK.out) hk (.inl rfl)); replace HI0 := Aside0.mk (hi); replace HB := Aside0.mk (hb); (try clear hb); (try clear hk); (try clear hi); (try clear ho0)) | ((with_reducible refine gate_callee (f := 125) rfl ?_); refine zD (some 7) Try.func125 #[.pointer (some ⟨g, 0, none⟩), .int .i64 14] ?_; (with_reducible refine (spec_l1Below.calls g s0_0 t576 t577 14 t578 t579 t580 w0 _ ?side1 ?side2 A3.out).mono ?_); (case side1 => exact (zl64_0 HI0.out)); (case side2 => exact (zl64_1 HB.out (IsS110.ge HI0.out))); rintro e w20 ⟨rfl, hi, hb, hk⟩; refine ⟨_, rfl, ?_⟩; replace HO575 := Aside0.mk (Kd.R_mono (Kd.R_keep (IsS110.apart (show IsS110 w0 _ g s0_0 t576 t577 from (zl64_0 HI0.out)) (zR HO575.out) (by decide)) hk (fun _ h => h.2)) (fun _ h => h.1)); replace HK := Aside0.mk (KeepBut.trans (zl64_2 HK.out) hk (.inl rfl)); replace HI0 := Aside0.mk (hi); replace HB := Aside0.mk (hb); (try clear hb); (try clear hk); (try clear hi); obtain ⟨Ao21, co21, eo21⟩ := Kd.R_slice HO575.out; subst eo21; have p588 : 0 ≤ (0 : Int) := (by omega); have q588 : 0 < (t573.length : Int) := zA; obtain ⟨ad588, e588, hx588_0, hx588_1⟩ := at_T83 (Kd.R_reads' HO575.out).2.2 0 p588 q588; cases e588; have qi588 : (0 < t573.length) = True := eq_true (by omega); (try rw [show ((0 : Int)).toNat = 0 from rfl] at hx588_0); (try rw [show 0 * 2 = 0 from rfl] at hx588_0); (try rw [Addr.add_zero'] at hx588_0); (try rw [show ((0 : Int)).toNat = 0 from rfl] at hx588_1); (try rw [show 0 * 2 = 0 from rfl] at hx588_1); (try rw [Addr.add_zero'] at hx588_1); replace p588 := eq_true p588; replace q588 := eq_true q588) | ((with_reducible refine gate_builtin (b := .append) (xs := #[.tmp 18, .tmp 22]) rfl ?_); at_builtin; refine Kd.R_append k83 w.heap.size rfl (.tmp 18) (.tmp 22) 38 83 (.agg #[(.int .i64 0), (.int .i64 0)]) 16 rfl Try.underlying38 info83 rfl (by decide) (by omega) (.slice (some ad588) t573.length co21) t573 (⟨(rd_T83 t573 0).f0, (rd_T83 t573 0).f1⟩ : S83) [.int .i64 ((rd_T83 t573 0).f0), .int .i64 ((rd_T83 t573 0).f1)] (fun _ => True) (fun _ => False) rfl rfl ?aP (fun _ hk => hk.elim) ?aF ?aO (Below.refl _ _) ?aS ?aL ?_; (case aP => exact k83_mkM _ _ _ (⟨(rd_T83 t573 0).f0, (rd_T83 t573 0).f1⟩ : S83)); (case aF => exact (fun _ _ => trivial)); (case aO => exact (zR HO575.out)); (case aS => exact (keep_size (w := w) (g := g) (row := none) (zl64_2 HK.out))); (case aL => have := LMc18.out; omega); intro v590 w22 ho hb hg hat; rw [← Ny589.out] at ho; have n0_ := Aside0.mk (IsS110.grown (zl64_0 HI0.out) hg (IsS110.own_ne HI0.out HO575.out (by decide))); have n1_ := Aside0.mk (below_weaken (zG (IsS110.ge HI0.out)) HL.out hb); have n2_ := Aside0.mk (KeepBut.trans (zl64_2 HK.out) (KeepBut.of_grown hg g) (Kd.R_base2 HO575.out)); have n3_ := Aside0.mk (ho); clear HI0; clear HB; clear HK; clear HO575; have HI0 := n0_; have HB := n1_; have HK := n2_; have HO591 := n3_; clear n0_ n1_ n2_ n3_; clear ho hb hg hat))
    go_ret
    exact ⟨_, zE, zR HO591.out, (zl64_0 HI0.out), zG (IsS110.ge HI0.out), (zl64_2 HK.out)⟩
   rw [if_neg c18] at H
   exact absurd H (by simp)
  rw [if_neg c17] at H
  exact absurd H (by simp)
 rw [if_neg c16] at H
 have c16b0 : (t578 == 1) = false := beq_eq_false_iff_ne.mpr c16
 have c16b1 : (t578 != 1) = true := bne_iff_ne.mpr c16
 simp only [Option.some.injEq, Prod.mk.injEq] at H
 obtain ⟨rfl, rfl, rfl⟩ := H
 go_enter Try.func100, Try.ntmps100
 go_wp2_with (first | ((with_reducible refine gate_callee (f := 148) rfl ?_); refine zD (some 5) Try.func148 #[.pointer (some ⟨g, 0, none⟩)] ?_; (with_reducible refine (spec_l2Draw.calls k g s0_0 s0_1 s0_2 t573 t576 t577 w0 _ ?side1 ?side2 A2.out).mono ?_); (case side1 => exact (zl64_0 HI0.out)); (case side2 => exact (zl64_1 HB.out (IsS110.ge HI0.out))); rintro e w23 ⟨v574, rfl, ho0, hi, hb, hk⟩; refine ⟨_, rfl, ?_⟩; have HO575 := Aside0.mk (Kd.R_lower ho0 (keep_size (w := w) (g := g) (row := none) (zl64_2 HK.out))); replace HK := Aside0.mk (KeepBut.trans (zl64_2 HK.out) hk (.inl rfl)); replace HI0 := Aside0.mk (hi); replace HB := Aside0.mk (hb); (try clear hb); (try clear hk); (try clear hi); (try clear ho0)) | ((with_reducible refine gate_callee (f := 125) rfl ?_); refine zD (some 7) Try.func125 #[.pointer (some ⟨g, 0, none⟩), .int .i64 14] ?_; (with_reducible refine (spec_l1Below.calls g s0_0 t576 t577 14 t578 t579 t580 w0 _ ?side1 ?side2 A3.out).mono ?_); (case side1 => exact (zl64_0 HI0.out)); (case side2 => exact (zl64_1 HB.out (IsS110.ge HI0.out))); rintro e w24 ⟨rfl, hi, hb, hk⟩; refine ⟨_, rfl, ?_⟩; replace HO575 := Aside0.mk (Kd.R_mono (Kd.R_keep (IsS110.apart (show IsS110 w0 _ g s0_0 t576 t577 from (zl64_0 HI0.out)) (zR HO575.out) (by decide)) hk (fun _ h => h.2)) (fun _ h => h.1)); replace HK := Aside0.mk (KeepBut.trans (zl64_2 HK.out) hk (.inl rfl)); replace HI0 := Aside0.mk (hi); replace HB := Aside0.mk (hb); (try clear hb); (try clear hk); (try clear hi)))
 go_ret
 exact ⟨_, zE, zR HO575.out, (zl64_0 HI0.out), zG (IsS110.ge HI0.out), (zl64_2 HK.out)⟩
/-! ### spec_DrawSignsOf: function 26 -/
def spec_DrawSignsOf.f (k : Nat) (l0 : List Int) : Option ((List (S83))) := (spec_l1New.f k l0).bind fun bt592 => ((spec_l2Bent.f k bt592.1 bt592.2.1 bt592.2.2).bind fun bt596 => (some bt596.1))
theorem zl65_0 {p q : Prop} (g : p) (h : p → q := by intro zg_; repeat (first | (with_reducible first | exact zg_ | apply below_alloc | apply pw_below_drewN | apply below_drew1) | exact zg_)) : q := h g
theorem zl65_1 {p q : Prop} (g : p) (h : p → q := by intro zg_; repeat (first | (with_reducible first | exact zg_ | apply IsS110.alloc | apply IsS110.drewN | apply IsS110.drew | apply IsS110.set_1 | apply IsS110.set_2) | exact zg_)) : q := h g
theorem zl65_2 {p q p0 : Prop} (g : p) (g0 : p0) (h : p → p0 → q := by intro zg_ z0_; repeat (first | (with_reducible first | exact zg_ | apply below_alloc | apply pw_below_drewN | apply below_drew1 | refine below_set ?_ z0_) | exact zg_)) : q := h g g0
set_option maxHeartbeats 8000000 in
set_option maxRecDepth 100000 in
theorem spec_DrawSignsOf.calls (k : Nat) (A0 : Option Addr) (c0 : Nat) (l0 : List Int) (r : List (S83)) (w : World) (hr0 : Kd.C (Kd.int .u8) w A0 l0.length l0) (hc0 : l0.length ≤ c0) (h : spec_DrawSignsOf.f k l0 = some r) :
  Calls Try.prog 26 #[.slice A0 l0.length c0] w fun e w' => ∃ v0_ : Value, e = .returned (v0_) ∧ Kd.R k83 83 w' w.heap.size (fun _ => True) v0_ r ∧ Below w.heap.size w w' := by
 have HR0 := Aside0.mk hr0
 have HC0 := Aside0.mk hc0
 clear hr0 hc0
 have HB := Aside0.mk (Below.refl w.heap.size w)
 have H : ((spec_l1New.f k l0).bind fun bt592 => ((spec_l2Bent.f k bt592.1 bt592.2.1 bt592.2.2).bind fun bt596 => (some bt596.1))) = some r := h
 clear h
 obtain ⟨⟨t592, t593, t594⟩, A2, H⟩ := zO H
 dsimp only at H
 obtain ⟨⟨t596, t599, t600⟩, A3, H⟩ := zO H
 replace H : (some t596) = some r := H
 obtain rfl := Option.some.inj H
 go_enter Try.func26, Try.ntmps26
 go_wp2_with (first | ((with_reducible refine gate_callee (f := 81) rfl ?_); refine zD (some 4) Try.func81 #[.slice A0 l0.length c0] ?_; (with_reducible refine (spec_l1New.calls k _ _ l0 t592 t593 t594 w _ ?side1 ?side2 ?side3 A2.out).mono ?_); (case side1 => exact (zl65_0 HB.out)); (case side2 => exact HR0.out); (case side3 => exact HC0.out); rintro e w4 ⟨g595, rfl, hi, hb, hb2⟩; refine ⟨_, rfl, ?_⟩; have HI595 := Aside0.mk (hi); replace HB := Aside0.mk (hb); (try clear hb); (try clear hb2); (try clear hi)) | ((with_reducible refine gate_callee (f := 100) rfl ?_); refine zD (some 5) Try.func100 #[.pointer (some ⟨g595, 0, none⟩)] ?_; (with_reducible refine (spec_l2Bent.calls k g595 t592 t593 t594 t596 t599 t600 w _ ?side1 ?side2 A3.out).mono ?_); (case side1 => exact (zl65_1 HI595.out)); (case side2 => exact (zl65_2 HB.out (IsS110.ge HI595.out))); rintro e w5 ⟨v597, rfl, ho0, hi, hb, hk⟩; refine ⟨_, rfl, ?_⟩; have HO598 := Aside0.mk (Kd.R_lower ho0 (below_size (zG (IsS110.ge HI595.out)))); replace HI595 := Aside0.mk (hi); replace HB := Aside0.mk (hb); (try clear hb); (try clear hk); (try clear hi); (try clear ho0)))
 go_ret
 exact ⟨_, zE, zR HO598.out, zG (IsS110.ge HI595.out)⟩
/-! ### laws_hasInt: function 28 -/
def laws_hasInt.l0 : Nat → List Int → Int → Int → Option (Bool)
 | 0, _, _, _ => none
 | k + 1, x0, x1, x5 => if x5 < (x0.length : Int) then (if 0 ≤ x5 then (if (rd x0 x5) = x1 then (some true) else (laws_hasInt.l0 k x0 x1 (wrap64 (x5 + 1)))) else (none)) else (some false)
def laws_hasInt.f (k : Nat) (l0 : List Int) (a1 : Int) : Option (Bool) := laws_hasInt.l0 k l0 a1 0
set_option maxHeartbeats 8000000 in
set_option maxRecDepth 100000 in
theorem laws_hasInt.calls (k : Nat) (A0 : Option Addr) (c0 : Nat) (l0 : List Int) (a1 : Int) (r : Bool) (w : World) (hr0 : Kd.C (Kd.int .i64) w A0 l0.length l0) (hc0 : l0.length ≤ c0) (h : laws_hasInt.f k l0 a1 = some r) :
  Calls Try.prog 28 #[.slice A0 l0.length c0, .int .i64 a1] w fun e w' => e = .returned (.bool r) ∧ Drawn0 w w' := by
 have HR0 := Aside0.mk hr0
 have HC0 := Aside0.mk hc0
 clear hr0 hc0
 have H : (laws_hasInt.l0 k l0 a1 0) = some r := h
 clear h
 have H' := Aside0.mk H; clear H
 go_enter Try.func28, Try.ntmps28
 go_wp2
 go_loopg [5] k (fun kq v5 w' => ∃ (x5_1 : Int), v5 = .int .i64 x5_1 ∧ Aside0 (laws_hasInt.l0 kq l0 a1 x5_1 = some r) ∧ Aside0 (kq ≤ k) ∧ Drawn0 w w')
 case atStart => exact ⟨(0), zF, H', ⟨Nat.le_refl _⟩, by repeat (first | exact Drawn0.refl _ | apply Drawn0.step)⟩
 case round =>
 clear H'
 obtain ⟨x5_1, rfl, HA, HK1, ⟨m1, rfl⟩⟩ := hrel
 cases gk with
 | zero => exact absurd HA.out (by simp [laws_hasInt.l0])
 | succ k1 =>
 have H := HA.out
 clear HA
 simp only [laws_hasInt.l0] at H
 by_cases c3 : x5_1 < (l0.length : Int)
 ·rw [if_pos c3] at H
  have c3b0 : decide (x5_1 < (l0.length : Int)) = true := decide_eq_true c3
  clear c3
  by_cases c4 : 0 ≤ x5_1
  ·rw [if_pos c4] at H
   have c4b0 : decide (0 ≤ x5_1) = true := decide_eq_true c4
   clear c4
   by_cases c5 : (rd l0 x5_1) = a1
   ·rw [if_pos c5] at H
    have c5b0 : ((rd l0 x5_1) == a1) = true := beq_iff_eq.mpr c5
    have c5b1 : ((rd l0 x5_1) != a1) = false := bne_eq_false_iff_eq.mpr c5
    clear c5
    obtain rfl := Option.some.inj H
    have p601 : 0 ≤ (x5_1 : Int) := zA
    have q601 : x5_1 < (l0.length : Int) := zA
    obtain ⟨ad601, e601, hx601_0⟩ := Kd.at_int HR0.out x5_1 p601 q601
    cases e601
    replace p601 := eq_true p601
    replace q601 := eq_true q601
    go_wp2
    go_ret
    exact ⟨by first | rfl | (simp; done) | (simp [*]; done), by repeat (first | exact Drawn0.refl _ | apply Drawn0.step)⟩
   rw [if_neg c5] at H
   have c5b0 : ((rd l0 x5_1) == a1) = false := beq_eq_false_iff_ne.mpr c5
   have c5b1 : ((rd l0 x5_1) != a1) = true := bne_iff_ne.mpr c5
   have H' := Aside0.mk H; clear H
   have p601 : 0 ≤ (x5_1 : Int) := zA
   have q601 : x5_1 < (l0.length : Int) := zA
   obtain ⟨ad601, e601, hx601_0⟩ := Kd.at_int HR0.out x5_1 p601 q601
   cases e601
   replace p601 := eq_true p601
   replace q601 := eq_true q601
   go_wp2
   go_roundg k1
   case measure => have := HK1.out; omega
   case rel => exact ⟨(wrap64 (x5_1 + 1)), zF, H', ⟨by have := HK1.out; omega⟩, by repeat (first | exact Drawn0.refl _ | apply Drawn0.step)⟩
  rw [if_neg c4] at H
  exact absurd H (by simp)
 rw [if_neg c3] at H
 have c3b0 : decide (x5_1 < (l0.length : Int)) = false := decide_eq_false c3
 clear c3
 obtain rfl := Option.some.inj H
 go_wp2
 go_ret
 exact ⟨by first | rfl | (simp; done) | (simp [*]; done), by repeat (first | exact Drawn0.refl _ | apply Drawn0.step)⟩
end Go.Proofs.Ytckkfjdkaimmhaa.PX
