/- FnNumbers returns true for all arguments and leaves them as they were. No condition. -/
import Derived.Test.YthhgcdfdjlijjaaDoorProg
import Derived.Laws.Bits128
import Derived.Test.YthhgcdfdjlijjaaDoorRows
import Derived.Test.YthhgcdfdjlijjaaDoorTie
import Derived.Test.YthhgcdfdjlijjaaDoorCards
import Derived.SevenTiedAt
import Derived.WalkKit
import Derived.ProofKit
import Derived.OpenShut
import Derived.ShutString
import Derived.ChangeOld
import Derived.Below
import Derived.SizedLaws
import Derived.Lib.SmallJoins
import Derived.ChangeSame
import Derived.Test.YthhgcdfdjlijjaaDoorV1
import Derived.Test.YthhgcdfdjlijjaaDoorBexgqmu1
import Derived.Test.YthhgcdfdjlijjaaDoorBkvibfp1
set_option linter.unusedVariables false
set_option linter.unusedSimpArgs false
namespace Go.Proofs.YthhgcdfdjlijjaaDoor.PX
open Go.RowKit Go.Proofs.YthhgcdfdjlijjaaDoor.G Go.Proofs.YthhgcdfdjlijjaaDoorW.PrintWords Go.Proofs.YthhgcdfdjlijjaaDoorW.PrintLast Go.Proofs.YthhgcdfdjlijjaaDoorW.PrintMore
attribute [local go_sem] max2_int min2_int max_two min_two max_three min_three max_four min_four   -- for this text's walks alone
set_option linter.unusedVariables false
set_option linter.unusedSimpArgs false
/-! ### laws_big: function 26 -/
def laws_big.f (l0 : List Int) : Option (Bool) := some (decide ((l0.length : Int) > 1048576))
set_option maxHeartbeats 8000000 in
set_option maxRecDepth 100000 in
theorem laws_big.calls (A0 : Option Addr) (c0 : Nat) (l0 : List Int) (r : Bool) (w : World) (hr0 : Kd.C (Kd.int .u8) w A0 l0.length l0) (hc0 : l0.length ≤ c0) (h : laws_big.f l0 = some r) :
  Calls Tryd.prog 26 #[.slice A0 l0.length c0] w fun e w' => e = .returned (.bool r) ∧ Drawn0 w w' := by
 have HR0 := Aside0.mk hr0
 have HC0 := Aside0.mk hc0
 clear hr0 hc0
 have H : (some (decide ((l0.length : Int) > 1048576))) = some r := h
 clear h
 obtain rfl := Option.some.inj H
 go_enter Tryd.func26, Tryd.ntmps26
 go_wp2
 go_ret
 exact ⟨by first | rfl | (simp; done) | (simp [*]; done), by repeat (first | exact Drawn0.refl _ | apply Drawn0.step)⟩
def IsS85 (w0 W : World) (g : Nat) (f0 : List Int) (f1 : Int) (f2 : Int) : Prop := ∃ A0 c0, W.heap[g]? = some (.cells #[.slice A0 f0.length c0, .int .i64 f1, .int .i64 f2] 85 (0, 0)) ∧ w0.heap.size ≤ g ∧ Kd.C (Kd.int .u8) w0 A0 f0.length f0
theorem IsS85.grown {w0 W : World} {g : Nat} {f0 : List Int} {f1 : Int} {f2 : Int} {W1 : World} {row : Option Nat} (h : IsS85 w0 W g f0 f1 f2) (hw : W.grownBy W1 row) (hne : some g ≠ row) : IsS85 w0 W1 g f0 f1 f2 := by
 obtain ⟨A0, c0, hb, hg, hr0⟩ := h
 exact ⟨A0, c0, blk_grown hb hw hne, hg, hr0⟩
theorem IsS85.below {w0 W : World} {g : Nat} {f0 : List Int} {f1 : Int} {f2 : Int} {W1 : World} (h : IsS85 w0 W g f0 f1 f2) (hw : Below W.heap.size W W1) : IsS85 w0 W1 g f0 f1 f2 := h.grown (grown_of_below hw none) (by simp)
theorem IsS85.alloc {w0 W : World} {g : Nat} {f0 : List Int} {f1 : Int} {f2 : Int} (h : IsS85 w0 W g f0 f1 f2) (o : Obj) : IsS85 w0 (W.alloc o) g f0 f1 f2 := h.below (below_alloc (Below.refl _ _) o)
theorem IsS85.drewN {w0 W : World} {g : Nat} {f0 : List Int} {f1 : Int} {f2 : Int} (h : IsS85 w0 W g f0 f1 f2) (m : Nat) : IsS85 w0 (W.drewN m) g f0 f1 f2 := h
theorem IsS85.drew {w0 W : World} {g : Nat} {f0 : List Int} {f1 : Int} {f2 : Int} (h : IsS85 w0 W g f0 f1 f2) : IsS85 w0 W.drew g f0 f1 f2 := h
theorem IsS85.apart {w0 W : World} {g : Nat} {f0 : List Int} {f1 : Int} {f2 : Int} {α : Type} {d : Kd α} {e : Nat} {base : Nat} {ok : Nat → Prop} {v : Value} {xs : List α} (h : IsS85 w0 W g f0 f1 f2) (ho : d.R e W base ok v xs) (ht : ∀ q, q ∈ e :: d.E → q ≠ 85) : d.R e W base (fun k => ok k ∧ k ≠ g) v xs := by
 obtain ⟨A0, c0, hb, hg, hr0⟩ := h
 exact Kd.R_types ho hb ht
theorem IsS85.own_ne {w0 W : World} {g : Nat} {f0 : List Int} {f1 : Int} {f2 : Int} {α : Type} {d : Kd α} {e : Nat} {base : Nat} {ok : Nat → Prop} {v : Value} {xs : List α} (h : IsS85 w0 W g f0 f1 f2) (ho : d.R e W base ok v xs) (ht : e ≠ 85) : some g ≠ v.ownBlock := by
 obtain ⟨A0, c0, hb, hg, hr0⟩ := h
 exact Kd.R_ne ho hb ht
theorem IsS85.ge {w0 W : World} {g : Nat} {f0 : List Int} {f1 : Int} {f2 : Int} (h : IsS85 w0 W g f0 f1 f2) : w0.heap.size ≤ g := by
 obtain ⟨A0, c0, hb, hg, hr0⟩ := h
 exact hg
theorem cellS85_0 {W : World} {g : Nat} {A0 : Option Addr} {c0 : Nat} {f0 : List Int} {f1 : Int} {f2 : Int} (h : W.heap[g]? = some (.cells #[.slice A0 f0.length c0, .int .i64 f1, .int .i64 f2] 85 (0, 0))) : W.cell? ⟨g, 0, none⟩ = some (.slice A0 f0.length c0) := (blk_cell h 0).trans rfl
theorem cellS85_1 {W : World} {g : Nat} {A0 : Option Addr} {c0 : Nat} {f0 : List Int} {f1 : Int} {f2 : Int} (h : W.heap[g]? = some (.cells #[.slice A0 f0.length c0, .int .i64 f1, .int .i64 f2] 85 (0, 0))) : W.cell? ⟨g, 1, none⟩ = some (.int .i64 f1) := (blk_cell h 1).trans rfl
theorem IsS85.set_1 {w0 W : World} {g : Nat} {f0 : List Int} {f1 : Int} {f2 : Int} (h : IsS85 w0 W g f0 f1 f2) (x : Int) : IsS85 w0 (W.setCell ⟨g, 1, none⟩ (.int .i64 x)) g f0 x f2 := by
 obtain ⟨A0, c0, hb, hg, hr0⟩ := h
 exact ⟨A0, c0, by simpa using blk_set hb 1 (.int .i64 x), hg, hr0⟩
theorem cellS85_2 {W : World} {g : Nat} {A0 : Option Addr} {c0 : Nat} {f0 : List Int} {f1 : Int} {f2 : Int} (h : W.heap[g]? = some (.cells #[.slice A0 f0.length c0, .int .i64 f1, .int .i64 f2] 85 (0, 0))) : W.cell? ⟨g, 2, none⟩ = some (.int .i64 f2) := (blk_cell h 2).trans rfl
theorem IsS85.set_2 {w0 W : World} {g : Nat} {f0 : List Int} {f1 : Int} {f2 : Int} (h : IsS85 w0 W g f0 f1 f2) (x : Int) : IsS85 w0 (W.setCell ⟨g, 2, none⟩ (.int .i64 x)) g f0 f1 x := by
 obtain ⟨A0, c0, hb, hg, hr0⟩ := h
 exact ⟨A0, c0, by simpa using blk_set hb 2 (.int .i64 x), hg, hr0⟩
/-! ### spec_l1Byte: function 77 -/
def spec_l1Byte.f (s0_0 : List Int) (s0_1 : Int) (s0_2 : Int) : Option (Int × Int × Int) := if s0_1 < (s0_0.length : Int) then (if 0 ≤ s0_1 then (some (Go.bits .and .i64 (wrap64 ((Go.bits .and .i64 (Go.bits .xor .i64 ((wrap64 ((wrap64 (s0_2 * 6364136223846793005)) + 1442695040888963407)) / 8589934592) ((wrap64 ((wrap64 (s0_2 * 6364136223846793005)) + 1442695040888963407)) / 35184372088832)) 255) + (wrap64 (rd s0_0 s0_1)))) 255, wrap64 (s0_1 + 1), wrap64 ((wrap64 (s0_2 * 6364136223846793005)) + 1442695040888963407))) else (none)) else (some (Go.bits .and .i64 (Go.bits .xor .i64 ((wrap64 ((wrap64 (s0_2 * 6364136223846793005)) + 1442695040888963407)) / 8589934592) ((wrap64 ((wrap64 (s0_2 * 6364136223846793005)) + 1442695040888963407)) / 35184372088832)) 255, s0_1, wrap64 ((wrap64 (s0_2 * 6364136223846793005)) + 1442695040888963407)))
theorem zl75_0 {p q : Prop} (g : p) (h : p → q := by intro zg_; repeat (first | (with_reducible first | exact zg_ | apply IsS85.alloc | apply IsS85.drewN | apply IsS85.drew | apply IsS85.set_1 | apply IsS85.set_2) | exact zg_)) : q := h g
theorem zl75_1 {p q : Prop} (g : p) (h : p → q := by intro zg_; repeat (first | (with_reducible first | exact zg_ | apply KeepBut.set_ | apply keep_drewN | apply keep_drew | apply keep_alloc) | exact zg_)) : q := h g
set_option maxHeartbeats 8000000 in
set_option maxRecDepth 100000 in
theorem spec_l1Byte.calls (g : Nat) (s0_0 : List Int) (s0_1 : Int) (s0_2 : Int) (r1 : Int) (r2 : Int) (r3 : Int) (w0 w : World) (hI : IsS85 w0 w g s0_0 s0_1 s0_2) (hB : Below w0.heap.size w0 w) (h : spec_l1Byte.f s0_0 s0_1 s0_2 = some (r1, r2, r3)) :
  Calls Tryd.prog 77 #[.pointer (some ⟨g, 0, none⟩)] w fun e w' => e = .returned (.int .i64 r1) ∧ IsS85 w0 w' g s0_0 r2 r3 ∧ Below w0.heap.size w0 w' ∧ KeepBut w w' g none := by
 have HI0 := Aside0.mk hI
 have HK := Aside0.mk (KeepBut.refl w g none)
 have HL := Aside0.mk hB.size
 clear hI
 have HW0 := Aside0.mk hB.size
 have HB := Aside0.mk hB
 clear hB
 have H : (if s0_1 < (s0_0.length : Int) then (if 0 ≤ s0_1 then (some (Go.bits .and .i64 (wrap64 ((Go.bits .and .i64 (Go.bits .xor .i64 ((wrap64 ((wrap64 (s0_2 * 6364136223846793005)) + 1442695040888963407)) / 8589934592) ((wrap64 ((wrap64 (s0_2 * 6364136223846793005)) + 1442695040888963407)) / 35184372088832)) 255) + (wrap64 (rd s0_0 s0_1)))) 255, wrap64 (s0_1 + 1), wrap64 ((wrap64 (s0_2 * 6364136223846793005)) + 1442695040888963407))) else (none)) else (some (Go.bits .and .i64 (Go.bits .xor .i64 ((wrap64 ((wrap64 (s0_2 * 6364136223846793005)) + 1442695040888963407)) / 8589934592) ((wrap64 ((wrap64 (s0_2 * 6364136223846793005)) + 1442695040888963407)) / 35184372088832)) 255, s0_1, wrap64 ((wrap64 (s0_2 * 6364136223846793005)) + 1442695040888963407)))) = some (r1, r2, r3) := h
 clear h
 by_cases c2 : s0_1 < (s0_0.length : Int)
 ·rw [if_pos c2] at H
  have c2b0 : decide (s0_1 < (s0_0.length : Int)) = true := decide_eq_true c2
  clear c2
  by_cases c3 : 0 ≤ s0_1
  ·rw [if_pos c3] at H
   have c3b0 : decide (0 ≤ s0_1) = true := decide_eq_true c3
   clear c3
   simp only [Option.some.injEq, Prod.mk.injEq] at H
   obtain ⟨rfl, rfl, rfl⟩ := H
   obtain ⟨ASz4_0, cSz4_0, HGz4, hgz4, HSz4_0⟩ := HI0.out
   have hcz4_0 := cellS85_0 HGz4
   have hcz4_1 := cellS85_1 HGz4
   have hcz4_2 := cellS85_2 HGz4
   have hfz4_1 := blk_frozen HGz4 1
   have hfz4_2 := blk_frozen HGz4 2
   clear HGz4 hgz4
   have p287 : 0 ≤ (s0_1 : Int) := zA
   have q287 : s0_1 < (s0_0.length : Int) := zA
   obtain ⟨ad287, e287, hx287_0⟩ := Kd.at_int HSz4_0 s0_1 p287 q287
   cases e287
   have hn287_0 : ad287.block ≠ g := Nat.ne_of_lt (Nat.lt_of_lt_of_le (by have := World.block_lt_of_cell? _ _ hx287_0; first | rwa [add_block] at this | exact this) (IsS85.ge HI0.out))
   replace hx287_0 := pw_cell_below HB.out hx287_0
   replace hx287_0 := (cell_far (p := ⟨g, 2, none⟩) (by first | (rw [add_block]; exact hn287_0) | (show (Addr.add _ _).block ≠ _; rw [add_block]; exact hn287_0) | exact hn287_0) (.int .i64 (wrap64 ((wrap64 (s0_2 * 6364136223846793005)) + 1442695040888963407)))).trans hx287_0
   (try have hy287_0 := fun (n_ : Nat) => (show (((w.drewN n_).setCell ⟨g, 2, none⟩ (.int .i64 (wrap64 ((wrap64 (s0_2 * 6364136223846793005)) + 1442695040888963407))))).cell? _ = some _ from hx287_0))
   clear hn287_0
   replace p287 := eq_true p287
   replace q287 := eq_true q287
   go_enter Tryd.func77, Tryd.ntmps77
   go_wp2
   repeat (go_quiet (fail); try go_wp2)
   go_ret
   exact ⟨zE, (zl75_0 HI0.out), zG (IsS85.ge HI0.out), (zl75_1 HK.out)⟩
  rw [if_neg c3] at H
  exact absurd H (by simp)
 rw [if_neg c2] at H
 have c2b0 : decide (s0_1 < (s0_0.length : Int)) = false := decide_eq_false c2
 clear c2
 simp only [Option.some.injEq, Prod.mk.injEq] at H
 obtain ⟨rfl, rfl, rfl⟩ := H
 obtain ⟨ASz5_0, cSz5_0, HGz5, hgz5, HSz5_0⟩ := HI0.out
 have hcz5_0 := cellS85_0 HGz5
 have hcz5_1 := cellS85_1 HGz5
 have hcz5_2 := cellS85_2 HGz5
 have hfz5_1 := blk_frozen HGz5 1
 have hfz5_2 := blk_frozen HGz5 2
 clear HGz5 hgz5
 go_enter Tryd.func77, Tryd.ntmps77
 go_wp2
 repeat (go_quiet (fail); try go_wp2)
 go_ret
 exact ⟨zE, (zl75_0 HI0.out), zG (IsS85.ge HI0.out), (zl75_1 HK.out)⟩
/-! ### spec_l1Below: function 63 -/
def spec_l1Below.f (s0_0 : List Int) (s0_1 : Int) (s0_2 : Int) (a1 : Int) : Option (Int × Int × Int) := if a1 ≤ 0 then (some (0, s0_1, s0_2)) else (if a1 ≤ 256 then ((spec_l1Byte.f s0_0 s0_1 s0_2).bind fun bt288 => (if a1 = 0 then (none) else (some (Int.tmod bt288.1 a1, bt288.2.1, bt288.2.2)))) else ((spec_l1Byte.f s0_0 s0_1 s0_2).bind fun bt291 => ((spec_l1Byte.f s0_0 bt291.2.1 bt291.2.2).bind fun bt294 => ((spec_l1Byte.f s0_0 bt294.2.1 bt294.2.2).bind fun bt297 => ((spec_l1Byte.f s0_0 bt297.2.1 bt297.2.2).bind fun bt300 => (if a1 = 0 then (none) else (some (Int.tmod (wrap64 ((wrap64 ((wrap64 ((wrap64 (bt291.1 * 16777216)) + (wrap64 (bt294.1 * 65536)))) + (wrap64 (bt297.1 * 256)))) + bt300.1)) a1, bt300.2.1, bt300.2.2))))))))
theorem zl76_0 {p q : Prop} (g : p) (h : p → q := by intro zg_; repeat (first | (with_reducible first | exact zg_ | apply IsS85.alloc | apply IsS85.drewN | apply IsS85.drew | apply IsS85.set_1 | apply IsS85.set_2) | exact zg_)) : q := h g
theorem zl76_1 {p q : Prop} (g : p) (h : p → q := by intro zg_; repeat (first | (with_reducible first | exact zg_ | apply KeepBut.set_ | apply keep_drewN | apply keep_drew | apply keep_alloc) | exact zg_)) : q := h g
theorem zl76_2 {p q p0 : Prop} (g : p) (g0 : p0) (h : p → p0 → q := by intro zg_ z0_; repeat (first | (with_reducible first | exact zg_ | apply below_alloc | apply pw_below_drewN | apply below_drew1 | refine below_set ?_ z0_) | exact zg_)) : q := h g g0
set_option maxHeartbeats 8000000 in
set_option maxRecDepth 100000 in
theorem spec_l1Below.calls (g : Nat) (s0_0 : List Int) (s0_1 : Int) (s0_2 : Int) (a1 : Int) (r1 : Int) (r2 : Int) (r3 : Int) (w0 w : World) (hI : IsS85 w0 w g s0_0 s0_1 s0_2) (hB : Below w0.heap.size w0 w) (h : spec_l1Below.f s0_0 s0_1 s0_2 a1 = some (r1, r2, r3)) :
  Calls Tryd.prog 63 #[.pointer (some ⟨g, 0, none⟩), .int .i64 a1] w fun e w' => e = .returned (.int .i64 r1) ∧ IsS85 w0 w' g s0_0 r2 r3 ∧ Below w0.heap.size w0 w' ∧ KeepBut w w' g none := by
 have HI0 := Aside0.mk hI
 have HK := Aside0.mk (KeepBut.refl w g none)
 have HL := Aside0.mk hB.size
 clear hI
 have HW0 := Aside0.mk hB.size
 have HB := Aside0.mk hB
 clear hB
 have H : (if a1 ≤ 0 then (some (0, s0_1, s0_2)) else (if a1 ≤ 256 then ((spec_l1Byte.f s0_0 s0_1 s0_2).bind fun bt288 => (if a1 = 0 then (none) else (some (Int.tmod bt288.1 a1, bt288.2.1, bt288.2.2)))) else ((spec_l1Byte.f s0_0 s0_1 s0_2).bind fun bt291 => ((spec_l1Byte.f s0_0 bt291.2.1 bt291.2.2).bind fun bt294 => ((spec_l1Byte.f s0_0 bt294.2.1 bt294.2.2).bind fun bt297 => ((spec_l1Byte.f s0_0 bt297.2.1 bt297.2.2).bind fun bt300 => (if a1 = 0 then (none) else (some (Int.tmod (wrap64 ((wrap64 ((wrap64 ((wrap64 (bt291.1 * 16777216)) + (wrap64 (bt294.1 * 65536)))) + (wrap64 (bt297.1 * 256)))) + bt300.1)) a1, bt300.2.1, bt300.2.2))))))))) = some (r1, r2, r3) := h
 clear h
 by_cases c3 : a1 ≤ 0
 ·rw [if_pos c3] at H
  have c3b0 : decide (a1 ≤ 0) = true := decide_eq_true c3
  clear c3
  simp only [Option.some.injEq, Prod.mk.injEq] at H
  obtain ⟨rfl, rfl, rfl⟩ := H
  go_enter Tryd.func63, Tryd.ntmps63
  go_wp2
  go_ret
  exact ⟨zE, (zl76_0 HI0.out), zG (IsS85.ge HI0.out), (zl76_1 HK.out)⟩
 rw [if_neg c3] at H
 have c3b0 : decide (a1 ≤ 0) = false := decide_eq_false c3
 clear c3
 by_cases c4 : a1 ≤ 256
 ·rw [if_pos c4] at H
  have c4b0 : decide (a1 ≤ 256) = true := decide_eq_true c4
  clear c4
  obtain ⟨⟨t288, t289, t290⟩, A5, H⟩ := zO H
  dsimp only at H
  by_cases c6 : a1 = 0
  ·rw [if_pos c6] at H
   exact absurd H (by simp)
  rw [if_neg c6] at H
  have c6b0 : (a1 == 0) = false := beq_eq_false_iff_ne.mpr c6
  have c6b1 : (a1 != 0) = true := bne_iff_ne.mpr c6
  simp only [Option.some.injEq, Prod.mk.injEq] at H
  obtain ⟨rfl, rfl, rfl⟩ := H
  go_enter Tryd.func63, Tryd.ntmps63
  go_wp2_with (first | ((with_reducible refine gate_callee (f := 77) rfl ?_); refine zD (some 14) Tryd.func77 #[.pointer (some ⟨g, 0, none⟩)] ?_; (with_reducible refine (spec_l1Byte.calls g s0_0 s0_1 s0_2 t288 t289 t290 w0 _ ?side1 ?side2 A5.out).mono ?_); (case side1 => exact (zl76_0 HI0.out)); (case side2 => exact (zl76_2 HB.out (IsS85.ge HI0.out))); rintro e w7 ⟨rfl, hi, hb, hk⟩; refine ⟨_, rfl, ?_⟩; replace HK := Aside0.mk (KeepBut.trans (zl76_1 HK.out) hk (.inl rfl)); replace HI0 := Aside0.mk (hi); replace HB := Aside0.mk (hb); (try clear hb); (try clear hk); (try clear hi)))
  go_ret
  exact ⟨zE, (zl76_0 HI0.out), zG (IsS85.ge HI0.out), (zl76_1 HK.out)⟩
 rw [if_neg c4] at H
 have c4b0 : decide (a1 ≤ 256) = false := decide_eq_false c4
 clear c4
 obtain ⟨⟨t291, t292, t293⟩, A8, H⟩ := zO H
 dsimp only at H
 obtain ⟨⟨t294, t295, t296⟩, A9, H⟩ := zO H
 dsimp only at H
 obtain ⟨⟨t297, t298, t299⟩, A10, H⟩ := zO H
 dsimp only at H
 obtain ⟨⟨t300, t301, t302⟩, A11, H⟩ := zO H
 dsimp only at H
 by_cases c12 : a1 = 0
 ·rw [if_pos c12] at H
  exact absurd H (by simp)
 rw [if_neg c12] at H
 have c12b0 : (a1 == 0) = false := beq_eq_false_iff_ne.mpr c12
 have c12b1 : (a1 != 0) = true := bne_iff_ne.mpr c12
 simp only [Option.some.injEq, Prod.mk.injEq] at H
 obtain ⟨rfl, rfl, rfl⟩ := H
 go_enter Tryd.func63, Tryd.ntmps63
 go_wp2_with (first | ((with_reducible refine gate_callee (f := 77) rfl ?_); refine zD (some 18) Tryd.func77 #[.pointer (some ⟨g, 0, none⟩)] ?_; (with_reducible refine (spec_l1Byte.calls g s0_0 s0_1 s0_2 t291 t292 t293 w0 _ ?side1 ?side2 A8.out).mono ?_); (case side1 => exact (zl76_0 HI0.out)); (case side2 => exact (zl76_2 HB.out (IsS85.ge HI0.out))); rintro e w13 ⟨rfl, hi, hb, hk⟩; refine ⟨_, rfl, ?_⟩; replace HK := Aside0.mk (KeepBut.trans (zl76_1 HK.out) hk (.inl rfl)); replace HI0 := Aside0.mk (hi); replace HB := Aside0.mk (hb); (try clear hb); (try clear hk); (try clear hi)) | ((with_reducible refine gate_callee (f := 77) rfl ?_); refine zD (some 20) Tryd.func77 #[.pointer (some ⟨g, 0, none⟩)] ?_; (with_reducible refine (spec_l1Byte.calls g s0_0 t292 t293 t294 t295 t296 w0 _ ?side1 ?side2 A9.out).mono ?_); (case side1 => exact (zl76_0 HI0.out)); (case side2 => exact (zl76_2 HB.out (IsS85.ge HI0.out))); rintro e w14 ⟨rfl, hi, hb, hk⟩; refine ⟨_, rfl, ?_⟩; replace HK := Aside0.mk (KeepBut.trans (zl76_1 HK.out) hk (.inl rfl)); replace HI0 := Aside0.mk (hi); replace HB := Aside0.mk (hb); (try clear hb); (try clear hk); (try clear hi)) | ((with_reducible refine gate_callee (f := 77) rfl ?_); refine zD (some 22) Tryd.func77 #[.pointer (some ⟨g, 0, none⟩)] ?_; (with_reducible refine (spec_l1Byte.calls g s0_0 t295 t296 t297 t298 t299 w0 _ ?side1 ?side2 A10.out).mono ?_); (case side1 => exact (zl76_0 HI0.out)); (case side2 => exact (zl76_2 HB.out (IsS85.ge HI0.out))); rintro e w15 ⟨rfl, hi, hb, hk⟩; refine ⟨_, rfl, ?_⟩; replace HK := Aside0.mk (KeepBut.trans (zl76_1 HK.out) hk (.inl rfl)); replace HI0 := Aside0.mk (hi); replace HB := Aside0.mk (hb); (try clear hb); (try clear hk); (try clear hi)) | ((with_reducible refine gate_callee (f := 77) rfl ?_); refine zD (some 24) Tryd.func77 #[.pointer (some ⟨g, 0, none⟩)] ?_; (with_reducible refine (spec_l1Byte.calls g s0_0 t298 t299 t300 t301 t302 w0 _ ?side1 ?side2 A11.out).mono ?_); (case side1 => exact (zl76_0 HI0.out)); (case side2 => exact (zl76_2 HB.out (IsS85.ge HI0.out))); rintro e w16 ⟨rfl, hi, hb, hk⟩; refine ⟨_, rfl, ?_⟩; replace HK := Aside0.mk (KeepBut.trans (zl76_1 HK.out) hk (.inl rfl)); replace HI0 := Aside0.mk (hi); replace HB := Aside0.mk (hb); (try clear hb); (try clear hk); (try clear hi)))
 go_ret
 exact ⟨zE, (zl76_0 HI0.out), zG (IsS85.ge HI0.out), (zl76_1 HK.out)⟩
/-! ### spec_l1PickInt: function 64 -/
def spec_l1PickInt.f (s0_0 : List Int) (s0_1 : Int) (s0_2 : Int) (l1 : List Int) : Option (Int × Int × Int) := (spec_l1Below.f s0_0 s0_1 s0_2 (l1.length : Int)).bind fun bt303 => (if 0 ≤ bt303.1 then (if bt303.1 < (l1.length : Int) then (some (rd l1 bt303.1, bt303.2.1, bt303.2.2)) else (none)) else (none))
theorem zl77_0 {p q : Prop} (g : p) (h : p → q := by intro zg_; repeat (first | (with_reducible first | exact zg_ | apply IsS85.alloc | apply IsS85.drewN | apply IsS85.drew | apply IsS85.set_1 | apply IsS85.set_2) | exact zg_)) : q := h g
theorem zl77_1 {p q p0 : Prop} (g : p) (g0 : p0) (h : p → p0 → q := by intro zg_ z0_; repeat (first | (with_reducible first | exact zg_ | apply below_alloc | apply pw_below_drewN | apply below_drew1 | refine below_set ?_ z0_) | exact zg_)) : q := h g g0
theorem zl77_2 {p q : Prop} (g : p) (h : p → q := by intro zg_; repeat (first | (with_reducible first | exact zg_ | apply KeepBut.set_ | apply keep_drewN | apply keep_drew | apply keep_alloc) | exact zg_)) : q := h g
set_option maxHeartbeats 8000000 in
set_option maxRecDepth 100000 in
theorem spec_l1PickInt.calls (g : Nat) (s0_0 : List Int) (s0_1 : Int) (s0_2 : Int) (A1 : Option Addr) (c1 : Nat) (l1 : List Int) (r1 : Int) (r2 : Int) (r3 : Int) (w0 w : World) (hI : IsS85 w0 w g s0_0 s0_1 s0_2) (hB : Below w0.heap.size w0 w) (hr1 : Kd.C (Kd.int .i64) w A1 l1.length l1) (hc1 : l1.length ≤ c1) (hf1 : ∀ ad, A1 = some ad → 0 < l1.length → ad.block ≠ g) (h : spec_l1PickInt.f s0_0 s0_1 s0_2 l1 = some (r1, r2, r3)) :
  Calls Tryd.prog 64 #[.pointer (some ⟨g, 0, none⟩), .slice A1 l1.length c1] w fun e w' => e = .returned (.int .i64 r1) ∧ IsS85 w0 w' g s0_0 r2 r3 ∧ Below w0.heap.size w0 w' ∧ KeepBut w w' g none := by
 have HR1 := Aside0.mk hr1
 have HC1 := Aside0.mk hc1
 clear hr1 hc1
 have HI0 := Aside0.mk hI
 have HK := Aside0.mk (KeepBut.refl w g none)
 have HL := Aside0.mk hB.size
 clear hI
 have HW0 := Aside0.mk hB.size
 have HB := Aside0.mk hB
 clear hB
 have H : ((spec_l1Below.f s0_0 s0_1 s0_2 (l1.length : Int)).bind fun bt303 => (if 0 ≤ bt303.1 then (if bt303.1 < (l1.length : Int) then (some (rd l1 bt303.1, bt303.2.1, bt303.2.2)) else (none)) else (none))) = some (r1, r2, r3) := h
 clear h
 obtain ⟨⟨t303, t304, t305⟩, A3, H⟩ := zO H
 dsimp only at H
 by_cases c4 : 0 ≤ t303
 ·rw [if_pos c4] at H
  have c4b0 : decide (0 ≤ t303) = true := decide_eq_true c4
  clear c4
  by_cases c5 : t303 < (l1.length : Int)
  ·rw [if_pos c5] at H
   have c5b0 : decide (t303 < (l1.length : Int)) = true := decide_eq_true c5
   clear c5
   simp only [Option.some.injEq, Prod.mk.injEq] at H
   obtain ⟨rfl, rfl, rfl⟩ := H
   go_enter Tryd.func64, Tryd.ntmps64
   go_wp2_with (first | ((with_reducible refine gate_callee (f := 63) rfl ?_); refine zD (some 9) Tryd.func63 #[.pointer (some ⟨g, 0, none⟩), .int .i64 (l1.length : Int)] ?_; (with_reducible refine (spec_l1Below.calls g s0_0 s0_1 s0_2 (l1.length : Int) t303 t304 t305 w0 _ ?side1 ?side2 A3.out).mono ?_); (case side1 => exact (zl77_0 HI0.out)); (case side2 => exact (zl77_1 HB.out (IsS85.ge HI0.out))); rintro e w6 ⟨rfl, hi, hb, hk⟩; refine ⟨_, rfl, ?_⟩; replace HK := Aside0.mk (KeepBut.trans (zl77_2 HK.out) hk (.inl rfl)); replace HI0 := Aside0.mk (hi); replace HB := Aside0.mk (hb); (try clear hb); (try clear hk); (try clear hi); have p306 : 0 ≤ (t303 : Int) := zA; have q306 : t303 < (l1.length : Int) := zA; obtain ⟨ad306, e306, hx306_0⟩ := Kd.at_int HR1.out t303 p306 q306; cases e306; replace hx306_0 := keep_cell HK.out hx306_0 (by first | (rw [add_block]; exact hf1 _ rfl (by omega)) | exact hf1 _ rfl (by omega) | exact hf1 ad306 rfl (by omega)); replace p306 := eq_true p306; replace q306 := eq_true q306))
   go_ret
   exact ⟨zE, (zl77_0 HI0.out), zG (IsS85.ge HI0.out), (zl77_2 HK.out)⟩
  rw [if_neg c5] at H
  exact absurd H (by simp)
 rw [if_neg c4] at H
 exact absurd H (by simp)
/-! ### spec_l1Whole: function 47 -/
def spec_l1Whole.f (s0_0 : List Int) (s0_1 : Int) (s0_2 : Int) : Option (Int × Int × Int) := (spec_l1Below.f s0_0 s0_1 s0_2 3).bind fun bt307 => (if bt307.1 = 0 then ((spec_l1PickInt.f s0_0 bt307.2.1 bt307.2.2 (([0, 1, (-1), 9, 10, 999999, 1000000, 999999999999, 1000000000000, (-999999999999), 9223372036854775807, (-9223372036854775808)] : List Int))).bind fun bt313 => (some (bt313.1, bt313.2.1, bt313.2.2))) else (if bt307.1 = 1 then ((spec_l1Below.f s0_0 bt307.2.1 bt307.2.2 1000000).bind fun bt316 => (some (wrap64 (bt316.1 - 500000), bt316.2.1, bt316.2.2))) else ((spec_l1Below.f s0_0 bt307.2.1 bt307.2.2 20).bind fun bt319 => (some (bt319.1, bt319.2.1, bt319.2.2)))))
theorem zl78_0 {p q : Prop} (g : p) (h : p → q := by intro zg_; repeat (first | (with_reducible first | exact zg_ | apply IsS85.alloc | apply IsS85.drewN | apply IsS85.drew | apply IsS85.set_1 | apply IsS85.set_2) | exact zg_)) : q := h g
theorem zl78_1 {p q p0 : Prop} (g : p) (g0 : p0) (h : p → p0 → q := by intro zg_ z0_; repeat (first | (with_reducible first | exact zg_ | apply below_alloc | apply pw_below_drewN | apply below_drew1 | refine below_set ?_ z0_) | exact zg_)) : q := h g g0
theorem zl78_2 {p q : Prop} (g : p) (h : p → q := by intro zg_; repeat (first | (with_reducible first | exact zg_ | apply KeepBut.set_ | apply keep_drewN | apply keep_drew | apply keep_alloc) | exact zg_)) : q := h g
set_option maxHeartbeats 8000000 in
set_option maxRecDepth 100000 in
theorem spec_l1Whole.calls (g : Nat) (s0_0 : List Int) (s0_1 : Int) (s0_2 : Int) (r1 : Int) (r2 : Int) (r3 : Int) (w0 w : World) (hI : IsS85 w0 w g s0_0 s0_1 s0_2) (hB : Below w0.heap.size w0 w) (h : spec_l1Whole.f s0_0 s0_1 s0_2 = some (r1, r2, r3)) :
  Calls Tryd.prog 47 #[.pointer (some ⟨g, 0, none⟩)] w fun e w' => e = .returned (.int .i64 r1) ∧ IsS85 w0 w' g s0_0 r2 r3 ∧ Below w0.heap.size w0 w' ∧ KeepBut w w' g none := by
 have HI0 := Aside0.mk hI
 have HK := Aside0.mk (KeepBut.refl w g none)
 have HL := Aside0.mk hB.size
 clear hI
 have HW0 := Aside0.mk hB.size
 have HB := Aside0.mk hB
 clear hB
 have H : ((spec_l1Below.f s0_0 s0_1 s0_2 3).bind fun bt307 => (if bt307.1 = 0 then ((spec_l1PickInt.f s0_0 bt307.2.1 bt307.2.2 (([0, 1, (-1), 9, 10, 999999, 1000000, 999999999999, 1000000000000, (-999999999999), 9223372036854775807, (-9223372036854775808)] : List Int))).bind fun bt313 => (some (bt313.1, bt313.2.1, bt313.2.2))) else (if bt307.1 = 1 then ((spec_l1Below.f s0_0 bt307.2.1 bt307.2.2 1000000).bind fun bt316 => (some (wrap64 (bt316.1 - 500000), bt316.2.1, bt316.2.2))) else ((spec_l1Below.f s0_0 bt307.2.1 bt307.2.2 20).bind fun bt319 => (some (bt319.1, bt319.2.1, bt319.2.2)))))) = some (r1, r2, r3) := h
 clear h
 obtain ⟨⟨t307, t308, t309⟩, A2, H⟩ := zO H
 dsimp only at H
 by_cases c3 : t307 = 0
 ·rw [if_pos c3] at H
  have c3b0 : (t307 == 0) = true := beq_iff_eq.mpr c3
  have c3b1 : (t307 != 0) = false := bne_eq_false_iff_eq.mpr c3
  clear c3
  obtain ⟨y310, hy310⟩ : ∃ y_ : List Int, y_ = (([0, 1, (-1), 9, 10, 999999, 1000000, 999999999999, 1000000000000, (-999999999999), 9223372036854775807, (-9223372036854775808)] : List Int)) := ⟨_, rfl⟩
  replace H : ((spec_l1PickInt.f s0_0 t308 t309 y310).bind fun bt313 => (some (bt313.1, bt313.2.1, bt313.2.2))) = some (r1, r2, r3) := by first | (rw [hy310]; with_reducible exact H) | (have H2_ := (Option.bind_some _ _).symm.trans H; rw [hy310]; with_reducible exact H2_) | (have H2_ := (Option.bind_some _ _).symm.trans H; with_reducible exact H2_) | with_reducible exact H | (rw [hy310]; exact H) | exact H
  have Ny310 := Aside0.mk hy310
  clear hy310
  obtain ⟨⟨t313, t314, t315⟩, A4, H⟩ := zO H
  replace H : (some (t313, t314, t315)) = some (r1, r2, r3) := H
  simp only [Option.some.injEq, Prod.mk.injEq] at H
  obtain ⟨rfl, rfl, rfl⟩ := H
  go_enter Tryd.func47, Tryd.ntmps47
  go_wp2_with (first | ((with_reducible refine gate_callee (f := 63) rfl ?_); refine zD (some 4) Tryd.func63 #[.pointer (some ⟨g, 0, none⟩), .int .i64 3] ?_; (with_reducible refine (spec_l1Below.calls g s0_0 s0_1 s0_2 3 t307 t308 t309 w0 _ ?side1 ?side2 A2.out).mono ?_); (case side1 => exact (zl78_0 HI0.out)); (case side2 => exact (zl78_1 HB.out (IsS85.ge HI0.out))); rintro e w5 ⟨rfl, hi, hb, hk⟩; refine ⟨_, rfl, ?_⟩; replace HK := Aside0.mk (KeepBut.trans (zl78_2 HK.out) hk (.inl rfl)); replace HI0 := Aside0.mk (hi); replace HB := Aside0.mk (hb); (try clear hb); (try clear hk); (try clear hi)) | ((with_reducible refine gate_dst (N := 8) rfl ?_); refine Kd.R_lit (Kd.int .i64) _ 3 ?hg (N := 8) ?hd (xs := ([0, 1, (-1), 9, 10, 999999, 1000000, 999999999999, 1000000000000, (-999999999999), 9223372036854775807, (-9223372036854775808)] : List Int)) (inner := [.int .i64 0, .int .i64 1, .int .i64 (-1), .int .i64 9, .int .i64 10, .int .i64 999999, .int .i64 1000000, .int .i64 999999999999, .int .i64 1000000000000, .int .i64 (-999999999999), .int .i64 9223372036854775807, .int .i64 (-9223372036854775808)]) (ok := fun _ => True) (okp := fun _ => True) ?hr ?hp (fun _ hk => hk) trivial (Below.refl _ _) (Nat.le_refl _) (by simp) ?_; (case hd => rfl); (case hg => rfl); (case hr => first | (go_simp; done) | (go_simp; rfl)); (case hp => exact (Reps.one (show Kd.M (Kd.int .i64) _ _ _ 0 [.int .i64 0] from rfl) (Reps.one (show Kd.M (Kd.int .i64) _ _ _ 1 [.int .i64 1] from rfl) (Reps.one (show Kd.M (Kd.int .i64) _ _ _ (-1) [.int .i64 (-1)] from rfl) (Reps.one (show Kd.M (Kd.int .i64) _ _ _ 9 [.int .i64 9] from rfl) (Reps.one (show Kd.M (Kd.int .i64) _ _ _ 10 [.int .i64 10] from rfl) (Reps.one (show Kd.M (Kd.int .i64) _ _ _ 999999 [.int .i64 999999] from rfl) (Reps.one (show Kd.M (Kd.int .i64) _ _ _ 1000000 [.int .i64 1000000] from rfl) (Reps.one (show Kd.M (Kd.int .i64) _ _ _ 999999999999 [.int .i64 999999999999] from rfl) (Reps.one (show Kd.M (Kd.int .i64) _ _ _ 1000000000000 [.int .i64 1000000000000] from rfl) (Reps.one (show Kd.M (Kd.int .i64) _ _ _ (-999999999999) [.int .i64 (-999999999999)] from rfl) (Reps.one (show Kd.M (Kd.int .i64) _ _ _ 9223372036854775807 [.int .i64 9223372036854775807] from rfl) (Reps.one (show Kd.M (Kd.int .i64) _ _ _ (-9223372036854775808) [.int .i64 (-9223372036854775808)] from rfl) (Reps.none _ _)))))))))))))); intro v311 w6 ho7 hb hg_ hnew_; clear hg_ hnew_; (first | rw [← Ny310.out] at ho7 | (simp only [Int.reduceToNat] at ho7; rw [← Ny310.out] at ho7)); have n0_ := Aside0.mk (Kd.R_lower ho7 (keep_size (w := w) (g := g) (row := none) (zl78_2 HK.out))); have n1_ := Aside0.mk (IsS85.below (zl78_0 HI0.out) hb); have n2_ := Aside0.mk (KeepBut.trans (zl78_2 HK.out) (KeepBut.of_below hb g none) (.inl rfl)); have n3_ := Aside0.mk (below_step (zG (IsS85.ge HI0.out)) hb); clear HI0; clear HK; clear HB; have HO312 := n0_; have HI0 := n1_; have HK := n2_; have HB := n3_; clear n0_ n1_ n2_ n3_; clear hb ho7; obtain ⟨Ao8, co8, eo8⟩ := Kd.R_slice HO312.out; subst eo8) | ((with_reducible refine gate_callee (f := 64) rfl ?_); refine zD (some 9) Tryd.func64 #[.pointer (some ⟨g, 0, none⟩), .slice Ao8 y310.length co8] ?_; (with_reducible refine (spec_l1PickInt.calls g s0_0 t308 t309 _ _ y310 t313 t314 t315 w0 _ ?side1 ?side2 ?side3 ?side4 ?side5 A4.out).mono ?_); (case side1 => exact (zl78_0 HI0.out)); (case side2 => exact (zl78_1 HB.out (IsS85.ge HI0.out))); (case side3 => repeat (first | exact (Kd.R_reads' HO312.out).2.2 | (with_reducible refine Kd.C_alloc ?_ _) | (with_reducible refine Kd.C_drewN ?_ _) | (with_reducible refine Kd.C_drew ?_))); (case side4 => exact (Kd.R_reads' HO312.out).2.1); (case side5 => exact far_slice (IsS85.own_ne HI0.out HO312.out (by decide))); rintro e w9 ⟨rfl, hi, hb, hk⟩; refine ⟨_, rfl, ?_⟩; replace HO312 := Aside0.mk (Kd.R_mono (Kd.R_keep (IsS85.apart (show IsS85 w0 _ g s0_0 t308 t309 from (zl78_0 HI0.out)) (zR HO312.out) (by decide)) hk (fun _ h => h.2)) (fun _ h => h.1)); replace HK := Aside0.mk (KeepBut.trans (zl78_2 HK.out) hk (.inl rfl)); replace HI0 := Aside0.mk (hi); replace HB := Aside0.mk (hb); (try clear hb); (try clear hk); (try clear hi)))
  go_ret
  exact ⟨zE, (zl78_0 HI0.out), zG (IsS85.ge HI0.out), (zl78_2 HK.out)⟩
 rw [if_neg c3] at H
 have c3b0 : (t307 == 0) = false := beq_eq_false_iff_ne.mpr c3
 have c3b1 : (t307 != 0) = true := bne_iff_ne.mpr c3
 by_cases c10 : t307 = 1
 ·rw [if_pos c10] at H
  have c10b0 : (t307 == 1) = true := beq_iff_eq.mpr c10
  have c10b1 : (t307 != 1) = false := bne_eq_false_iff_eq.mpr c10
  clear c10
  obtain ⟨⟨t316, t317, t318⟩, A11, H⟩ := zO H
  replace H : (some (wrap64 (t316 - 500000), t317, t318)) = some (r1, r2, r3) := H
  simp only [Option.some.injEq, Prod.mk.injEq] at H
  obtain ⟨rfl, rfl, rfl⟩ := H
  go_enter Tryd.func47, Tryd.ntmps47
  go_wp2_with (first | ((with_reducible refine gate_callee (f := 63) rfl ?_); refine zD (some 4) Tryd.func63 #[.pointer (some ⟨g, 0, none⟩), .int .i64 3] ?_; (with_reducible refine (spec_l1Below.calls g s0_0 s0_1 s0_2 3 t307 t308 t309 w0 _ ?side1 ?side2 A2.out).mono ?_); (case side1 => exact (zl78_0 HI0.out)); (case side2 => exact (zl78_1 HB.out (IsS85.ge HI0.out))); rintro e w12 ⟨rfl, hi, hb, hk⟩; refine ⟨_, rfl, ?_⟩; replace HK := Aside0.mk (KeepBut.trans (zl78_2 HK.out) hk (.inl rfl)); replace HI0 := Aside0.mk (hi); replace HB := Aside0.mk (hb); (try clear hb); (try clear hk); (try clear hi)) | ((with_reducible refine gate_callee (f := 63) rfl ?_); refine zD (some 13) Tryd.func63 #[.pointer (some ⟨g, 0, none⟩), .int .i64 1000000] ?_; (with_reducible refine (spec_l1Below.calls g s0_0 t308 t309 1000000 t316 t317 t318 w0 _ ?side1 ?side2 A11.out).mono ?_); (case side1 => exact (zl78_0 HI0.out)); (case side2 => exact (zl78_1 HB.out (IsS85.ge HI0.out))); rintro e w13 ⟨rfl, hi, hb, hk⟩; refine ⟨_, rfl, ?_⟩; replace HK := Aside0.mk (KeepBut.trans (zl78_2 HK.out) hk (.inl rfl)); replace HI0 := Aside0.mk (hi); replace HB := Aside0.mk (hb); (try clear hb); (try clear hk); (try clear hi)))
  go_ret
  exact ⟨zE, (zl78_0 HI0.out), zG (IsS85.ge HI0.out), (zl78_2 HK.out)⟩
 rw [if_neg c10] at H
 have c10b0 : (t307 == 1) = false := beq_eq_false_iff_ne.mpr c10
 have c10b1 : (t307 != 1) = true := bne_iff_ne.mpr c10
 obtain ⟨⟨t319, t320, t321⟩, A14, H⟩ := zO H
 replace H : (some (t319, t320, t321)) = some (r1, r2, r3) := H
 simp only [Option.some.injEq, Prod.mk.injEq] at H
 obtain ⟨rfl, rfl, rfl⟩ := H
 go_enter Tryd.func47, Tryd.ntmps47
 go_wp2_with (first | ((with_reducible refine gate_callee (f := 63) rfl ?_); refine zD (some 4) Tryd.func63 #[.pointer (some ⟨g, 0, none⟩), .int .i64 3] ?_; (with_reducible refine (spec_l1Below.calls g s0_0 s0_1 s0_2 3 t307 t308 t309 w0 _ ?side1 ?side2 A2.out).mono ?_); (case side1 => exact (zl78_0 HI0.out)); (case side2 => exact (zl78_1 HB.out (IsS85.ge HI0.out))); rintro e w15 ⟨rfl, hi, hb, hk⟩; refine ⟨_, rfl, ?_⟩; replace HK := Aside0.mk (KeepBut.trans (zl78_2 HK.out) hk (.inl rfl)); replace HI0 := Aside0.mk (hi); replace HB := Aside0.mk (hb); (try clear hb); (try clear hk); (try clear hi)) | ((with_reducible refine gate_callee (f := 63) rfl ?_); refine zD (some 16) Tryd.func63 #[.pointer (some ⟨g, 0, none⟩), .int .i64 20] ?_; (with_reducible refine (spec_l1Below.calls g s0_0 t308 t309 20 t319 t320 t321 w0 _ ?side1 ?side2 A14.out).mono ?_); (case side1 => exact (zl78_0 HI0.out)); (case side2 => exact (zl78_1 HB.out (IsS85.ge HI0.out))); rintro e w16 ⟨rfl, hi, hb, hk⟩; refine ⟨_, rfl, ?_⟩; replace HK := Aside0.mk (KeepBut.trans (zl78_2 HK.out) hk (.inl rfl)); replace HI0 := Aside0.mk (hi); replace HB := Aside0.mk (hb); (try clear hb); (try clear hk); (try clear hi)))
 go_ret
 exact ⟨zE, (zl78_0 HI0.out), zG (IsS85.ge HI0.out), (zl78_2 HK.out)⟩
/-! ### spec_l1New: function 48 -/
def spec_l1New.l0 : Nat → List Int → Int → Int → Option (List Int × Int × Int)
 | 0, _, _, _ => none
 | k + 1, x0, x3, x4 => if x4 < (x0.length : Int) then (if x4 < 4000 then (if 0 ≤ x4 then (spec_l1New.l0 k x0 (Go.bits .and .i64 (wrap64 ((wrap64 ((wrap64 (x3 * 131)) + (wrap64 (rd x0 x4)))) + 7)) 1073741823) (wrap64 (x4 + 1))) else (none)) else (some (x0, 0, x3))) else (some (x0, 0, x3))
def spec_l1New.f (k : Nat) (l0 : List Int) : Option (List Int × Int × Int) := spec_l1New.l0 k l0 (wrap64 (26583 + (l0.length : Int))) 0
theorem zl79_0 {p q : Prop} (g : p) (h : p → q := by intro zg_; repeat (first | (with_reducible first | exact zg_ | apply below_alloc | apply pw_below_drewN | apply below_drew1) | exact zg_)) : q := h g
theorem zl79_1 {p q p0 : Prop} (g : p) (g0 : p0) (h : p → p0 → q := by intro zg_ z0_; repeat (first | (with_reducible first | exact zg_ | apply below_alloc | apply pw_below_drewN | apply below_drew1 | refine below_set ?_ z0_) | exact zg_)) : q := h g g0
set_option maxHeartbeats 8000000 in
set_option maxRecDepth 100000 in
theorem spec_l1New.calls (k : Nat) (A0 : Option Addr) (c0 : Nat) (l0 : List Int) (r1 : List Int) (r2 : Int) (r3 : Int) (w0 w : World) (hB : Below w0.heap.size w0 w) (hr0 : Kd.C (Kd.int .u8) w0 A0 l0.length l0) (hc0 : l0.length ≤ c0) (h : spec_l1New.f k l0 = some (r1, r2, r3)) :
  Calls Tryd.prog 48 #[.slice A0 l0.length c0] w fun e w' => ∃ g_ : Nat, e = .returned (.pointer (some ⟨g_, 0, none⟩)) ∧ IsS85 w0 w' g_ r1 r2 r3 ∧ Below w0.heap.size w0 w' ∧ Below w.heap.size w w' := by
 have hu85 := Tryd.underlying85
 have HR0 := Aside0.mk hr0
 have HC0 := Aside0.mk hc0
 clear hr0 hc0
 have HBW := Aside0.mk (Below.refl w.heap.size w)
 have HW0 := Aside0.mk hB.size
 have HB := Aside0.mk hB
 clear hB
 have H : (spec_l1New.l0 k l0 (wrap64 (26583 + (l0.length : Int))) 0) = some (r1, r2, r3) := h
 clear h
 have H' := Aside0.mk H; clear H
 go_enter Tryd.func48, Tryd.ntmps48
 go_wp2
 go_loopg [3, 4] k (fun kq v3 v4 w' => ∃ (x3_1 : Int) (x4_1 : Int), v3 = .int .i64 x3_1 ∧ v4 = .int .i64 x4_1 ∧ Aside0 (spec_l1New.l0 kq l0 x3_1 x4_1 = some (r1, r2, r3)) ∧ Aside0 (kq ≤ k) ∧ Aside0 (Below w0.heap.size w0 w') ∧ Aside0 (Below w.heap.size w w'))
 case atStart => exact ⟨(wrap64 (26583 + (l0.length : Int))), (0), zF, zF, H', ⟨Nat.le_refl _⟩, ⟨zB⟩, ⟨(zl79_0 HBW.out)⟩⟩
 case round =>
 clear H'
 obtain ⟨x3_1, x4_1, rfl, rfl, HA, HK1, HB, HBW⟩ := hrel
 cases gk with
 | zero => exact absurd HA.out (by simp [spec_l1New.l0])
 | succ k1 =>
 have H := HA.out
 clear HA
 simp only [spec_l1New.l0] at H
 by_cases c2 : x4_1 < (l0.length : Int)
 ·rw [if_pos c2] at H
  have c2b0 : decide (x4_1 < (l0.length : Int)) = true := decide_eq_true c2
  clear c2
  by_cases c3 : x4_1 < 4000
  ·rw [if_pos c3] at H
   have c3b0 : decide (x4_1 < 4000) = true := decide_eq_true c3
   clear c3
   by_cases c4 : 0 ≤ x4_1
   ·rw [if_pos c4] at H
    have c4b0 : decide (0 ≤ x4_1) = true := decide_eq_true c4
    clear c4
    have H' := Aside0.mk H; clear H
    have p322 : 0 ≤ (x4_1 : Int) := zA
    have q322 : x4_1 < (l0.length : Int) := zA
    obtain ⟨ad322, e322, hx322_0⟩ := Kd.at_int HR0.out x4_1 p322 q322
    cases e322
    replace hx322_0 := pw_cell_below HB.out hx322_0
    replace p322 := eq_true p322
    replace q322 := eq_true q322
    go_wp2
    go_roundg k1
    case measure => have := HK1.out; omega
    case rel => exact ⟨(Go.bits .and .i64 (wrap64 ((wrap64 ((wrap64 (x3_1 * 131)) + (wrap64 (rd l0 x4_1)))) + 7)) 1073741823), (wrap64 (x4_1 + 1)), zF, zF, H', ⟨by have := HK1.out; omega⟩, ⟨zB⟩, ⟨(zl79_0 HBW.out)⟩⟩
   rw [if_neg c4] at H
   exact absurd H (by simp)
  rw [if_neg c3] at H
  have c3b0 : decide (x4_1 < 4000) = false := decide_eq_false c3
  clear c3
  simp only [Option.some.injEq, Prod.mk.injEq] at H
  obtain ⟨rfl, rfl, rfl⟩ := H
  go_wp2_with (first | ((with_reducible refine gate_dst (N := 31) rfl ?_); refine zBx (N := 31) #[.slice A0 l0.length c0, .int .i64 0, .int .i64 x3_1] 85 ?_; intro gb323 hg w5 hbox hb; have BK323 := Aside0.mk (hbox); have GW323 := Aside0.mk ((by rw [hg]; exact (below_size (zl79_0 HBW.out)) : w.heap.size ≤ gb323)); have GE323 := Aside0.mk ((Nat.le_trans HW0.out (by rw [hg]; exact (below_size (zl79_0 HBW.out)) : w.heap.size ≤ gb323) : w0.heap.size ≤ gb323)); replace HBW := Aside0.mk (below_step HBW.out hb); replace HB := zX hb; clear hb hbox hg))
  go_ret
  exact ⟨_, rfl, (show IsS85 w0 _ gb323 l0 0 x3_1 from ⟨_, _, zK BK323.out, GE323.out, HR0.out⟩), zG GE323.out, (zl79_1 HBW.out GW323.out)⟩
 rw [if_neg c2] at H
 have c2b0 : decide (x4_1 < (l0.length : Int)) = false := decide_eq_false c2
 clear c2
 simp only [Option.some.injEq, Prod.mk.injEq] at H
 obtain ⟨rfl, rfl, rfl⟩ := H
 go_wp2_with (first | ((with_reducible refine gate_dst (N := 31) rfl ?_); refine zBx (N := 31) #[.slice A0 l0.length c0, .int .i64 0, .int .i64 x3_1] 85 ?_; intro gb324 hg w6 hbox hb; have BK324 := Aside0.mk (hbox); have GW324 := Aside0.mk ((by rw [hg]; exact (below_size (zl79_0 HBW.out)) : w.heap.size ≤ gb324)); have GE324 := Aside0.mk ((Nat.le_trans HW0.out (by rw [hg]; exact (below_size (zl79_0 HBW.out)) : w.heap.size ≤ gb324) : w0.heap.size ≤ gb324)); replace HBW := Aside0.mk (below_step HBW.out hb); replace HB := zX hb; clear hb hbox hg))
 go_ret
 exact ⟨_, rfl, (show IsS85 w0 _ gb324 l0 0 x3_1 from ⟨_, _, zK BK324.out, GE324.out, HR0.out⟩), zG GE324.out, (zl79_1 HBW.out GW324.out)⟩
/-! ### spec_DrawFormatInt: function 27 -/
def spec_DrawFormatInt.f (k : Nat) (l0 : List Int) : Option (Int) := (spec_l1New.f k l0).bind fun bt325 => ((spec_l1Whole.f bt325.1 bt325.2.1 bt325.2.2).bind fun bt329 => (some bt329.1))
theorem zl80_0 {p q : Prop} (g : p) (h : p → q := by intro zg_; repeat (first | (with_reducible first | exact zg_ | apply below_alloc | apply pw_below_drewN | apply below_drew1) | exact zg_)) : q := h g
theorem zl80_1 {p q : Prop} (g : p) (h : p → q := by intro zg_; repeat (first | (with_reducible first | exact zg_ | apply IsS85.alloc | apply IsS85.drewN | apply IsS85.drew | apply IsS85.set_1 | apply IsS85.set_2) | exact zg_)) : q := h g
theorem zl80_2 {p q p0 : Prop} (g : p) (g0 : p0) (h : p → p0 → q := by intro zg_ z0_; repeat (first | (with_reducible first | exact zg_ | apply below_alloc | apply pw_below_drewN | apply below_drew1 | refine below_set ?_ z0_) | exact zg_)) : q := h g g0
set_option maxHeartbeats 8000000 in
set_option maxRecDepth 100000 in
theorem spec_DrawFormatInt.calls (k : Nat) (A0 : Option Addr) (c0 : Nat) (l0 : List Int) (r : Int) (w : World) (hr0 : Kd.C (Kd.int .u8) w A0 l0.length l0) (hc0 : l0.length ≤ c0) (h : spec_DrawFormatInt.f k l0 = some r) :
  Calls Tryd.prog 27 #[.slice A0 l0.length c0] w fun e w' => e = .returned (.int .i64 r) ∧ Below w.heap.size w w' := by
 have HR0 := Aside0.mk hr0
 have HC0 := Aside0.mk hc0
 clear hr0 hc0
 have HB := Aside0.mk (Below.refl w.heap.size w)
 have H : ((spec_l1New.f k l0).bind fun bt325 => ((spec_l1Whole.f bt325.1 bt325.2.1 bt325.2.2).bind fun bt329 => (some bt329.1))) = some r := h
 clear h
 obtain ⟨⟨t325, t326, t327⟩, A2, H⟩ := zO H
 dsimp only at H
 obtain ⟨⟨t329, t330, t331⟩, A3, H⟩ := zO H
 replace H : (some t329) = some r := H
 obtain rfl := Option.some.inj H
 go_enter Tryd.func27, Tryd.ntmps27
 go_wp2_with (first | ((with_reducible refine gate_callee (f := 48) rfl ?_); refine zD (some 4) Tryd.func48 #[.slice A0 l0.length c0] ?_; (with_reducible refine (spec_l1New.calls k _ _ l0 t325 t326 t327 w _ ?side1 ?side2 ?side3 A2.out).mono ?_); (case side1 => exact (zl80_0 HB.out)); (case side2 => exact HR0.out); (case side3 => exact HC0.out); rintro e w4 ⟨g328, rfl, hi, hb, hb2⟩; refine ⟨_, rfl, ?_⟩; have HI328 := Aside0.mk (hi); replace HB := Aside0.mk (hb); (try clear hb); (try clear hb2); (try clear hi)) | ((with_reducible refine gate_callee (f := 47) rfl ?_); refine zD (some 5) Tryd.func47 #[.pointer (some ⟨g328, 0, none⟩)] ?_; (with_reducible refine (spec_l1Whole.calls g328 t325 t326 t327 t329 t330 t331 w _ ?side1 ?side2 A3.out).mono ?_); (case side1 => exact (zl80_1 HI328.out)); (case side2 => exact (zl80_2 HB.out (IsS85.ge HI328.out))); rintro e w5 ⟨rfl, hi, hb, hk⟩; refine ⟨_, rfl, ?_⟩; replace HI328 := Aside0.mk (hi); replace HB := Aside0.mk (hb); (try clear hb); (try clear hk); (try clear hi)))
 go_ret
 exact ⟨zE, zG (IsS85.ge HI328.out)⟩
/-! ### spec_l1Once: function 49 -/
def spec_l1Once.f (s0_0 : List Int) (s0_1 : Int) (s0_2 : Int) (a1 : Int) : Option (Bool × Int × Int) := (spec_l1Below.f s0_0 s0_1 s0_2 a1).bind fun bt332 => (some ((bt332.1 == 0), bt332.2.1, bt332.2.2))
theorem zl81_0 {p q : Prop} (g : p) (h : p → q := by intro zg_; repeat (first | (with_reducible first | exact zg_ | apply IsS85.alloc | apply IsS85.drewN | apply IsS85.drew | apply IsS85.set_1 | apply IsS85.set_2) | exact zg_)) : q := h g
theorem zl81_1 {p q p0 : Prop} (g : p) (g0 : p0) (h : p → p0 → q := by intro zg_ z0_; repeat (first | (with_reducible first | exact zg_ | apply below_alloc | apply pw_below_drewN | apply below_drew1 | refine below_set ?_ z0_) | exact zg_)) : q := h g g0
theorem zl81_2 {p q : Prop} (g : p) (h : p → q := by intro zg_; repeat (first | (with_reducible first | exact zg_ | apply KeepBut.set_ | apply keep_drewN | apply keep_drew | apply keep_alloc) | exact zg_)) : q := h g
set_option maxHeartbeats 8000000 in
set_option maxRecDepth 100000 in
theorem spec_l1Once.calls (g : Nat) (s0_0 : List Int) (s0_1 : Int) (s0_2 : Int) (a1 : Int) (r1 : Bool) (r2 : Int) (r3 : Int) (w0 w : World) (hI : IsS85 w0 w g s0_0 s0_1 s0_2) (hB : Below w0.heap.size w0 w) (h : spec_l1Once.f s0_0 s0_1 s0_2 a1 = some (r1, r2, r3)) :
  Calls Tryd.prog 49 #[.pointer (some ⟨g, 0, none⟩), .int .i64 a1] w fun e w' => e = .returned (.bool r1) ∧ IsS85 w0 w' g s0_0 r2 r3 ∧ Below w0.heap.size w0 w' ∧ KeepBut w w' g none := by
 have HI0 := Aside0.mk hI
 have HK := Aside0.mk (KeepBut.refl w g none)
 have HL := Aside0.mk hB.size
 clear hI
 have HW0 := Aside0.mk hB.size
 have HB := Aside0.mk hB
 clear hB
 have H : ((spec_l1Below.f s0_0 s0_1 s0_2 a1).bind fun bt332 => (some ((bt332.1 == 0), bt332.2.1, bt332.2.2))) = some (r1, r2, r3) := h
 clear h
 obtain ⟨⟨t332, t333, t334⟩, A3, H⟩ := zO H
 replace H : (some ((t332 == 0), t333, t334)) = some (r1, r2, r3) := H
 simp only [Option.some.injEq, Prod.mk.injEq] at H
 obtain ⟨rfl, rfl, rfl⟩ := H
 go_enter Tryd.func49, Tryd.ntmps49
 go_wp2_with (first | ((with_reducible refine gate_callee (f := 63) rfl ?_); refine zD (some 7) Tryd.func63 #[.pointer (some ⟨g, 0, none⟩), .int .i64 a1] ?_; (with_reducible refine (spec_l1Below.calls g s0_0 s0_1 s0_2 a1 t332 t333 t334 w0 _ ?side1 ?side2 A3.out).mono ?_); (case side1 => exact (zl81_0 HI0.out)); (case side2 => exact (zl81_1 HB.out (IsS85.ge HI0.out))); rintro e w4 ⟨rfl, hi, hb, hk⟩; refine ⟨_, rfl, ?_⟩; replace HK := Aside0.mk (KeepBut.trans (zl81_2 HK.out) hk (.inl rfl)); replace HI0 := Aside0.mk (hi); replace HB := Aside0.mk (hb); (try clear hb); (try clear hk); (try clear hi)))
 go_ret
 exact ⟨zE, (zl81_0 HI0.out), zG (IsS85.ge HI0.out), (zl81_2 HK.out)⟩
/-! ### spec_l1Pick: function 50 -/
def spec_l1Pick.f (s0_0 : List Int) (s0_1 : Int) (s0_2 : Int) (l1 : List ByteArray) : Option (ByteArray × Int × Int) := (spec_l1Below.f s0_0 s0_1 s0_2 (l1.length : Int)).bind fun bt335 => (if 0 ≤ bt335.1 then (if bt335.1 < (l1.length : Int) then (some (rdOf ByteArray.empty l1 bt335.1, bt335.2.1, bt335.2.2)) else (none)) else (none))
theorem zl82_0 {p q : Prop} (g : p) (h : p → q := by intro zg_; repeat (first | (with_reducible first | exact zg_ | apply IsS85.alloc | apply IsS85.drewN | apply IsS85.drew | apply IsS85.set_1 | apply IsS85.set_2) | exact zg_)) : q := h g
theorem zl82_1 {p q p0 : Prop} (g : p) (g0 : p0) (h : p → p0 → q := by intro zg_ z0_; repeat (first | (with_reducible first | exact zg_ | apply below_alloc | apply pw_below_drewN | apply below_drew1 | refine below_set ?_ z0_) | exact zg_)) : q := h g g0
theorem zl82_2 {p q : Prop} (g : p) (h : p → q := by intro zg_; repeat (first | (with_reducible first | exact zg_ | apply KeepBut.set_ | apply keep_drewN | apply keep_drew | apply keep_alloc) | exact zg_)) : q := h g
set_option maxHeartbeats 8000000 in
set_option maxRecDepth 100000 in
theorem spec_l1Pick.calls (g : Nat) (s0_0 : List Int) (s0_1 : Int) (s0_2 : Int) (A1 : Option Addr) (c1 : Nat) (l1 : List ByteArray) (r1 : ByteArray) (r2 : Int) (r3 : Int) (w0 w : World) (hI : IsS85 w0 w g s0_0 s0_1 s0_2) (hB : Below w0.heap.size w0 w) (hr1 : Kd.C Kd.string w A1 l1.length l1) (hc1 : l1.length ≤ c1) (hf1 : ∀ ad, A1 = some ad → 0 < l1.length → ad.block ≠ g) (h : spec_l1Pick.f s0_0 s0_1 s0_2 l1 = some (r1, r2, r3)) :
  Calls Tryd.prog 50 #[.pointer (some ⟨g, 0, none⟩), .slice A1 l1.length c1] w fun e w' => e = .returned (.string r1) ∧ IsS85 w0 w' g s0_0 r2 r3 ∧ Below w0.heap.size w0 w' ∧ KeepBut w w' g none := by
 have HR1 := Aside0.mk hr1
 have HC1 := Aside0.mk hc1
 clear hr1 hc1
 have HI0 := Aside0.mk hI
 have HK := Aside0.mk (KeepBut.refl w g none)
 have HL := Aside0.mk hB.size
 clear hI
 have HW0 := Aside0.mk hB.size
 have HB := Aside0.mk hB
 clear hB
 have H : ((spec_l1Below.f s0_0 s0_1 s0_2 (l1.length : Int)).bind fun bt335 => (if 0 ≤ bt335.1 then (if bt335.1 < (l1.length : Int) then (some (rdOf ByteArray.empty l1 bt335.1, bt335.2.1, bt335.2.2)) else (none)) else (none))) = some (r1, r2, r3) := h
 clear h
 obtain ⟨⟨t335, t336, t337⟩, A3, H⟩ := zO H
 dsimp only at H
 by_cases c4 : 0 ≤ t335
 ·rw [if_pos c4] at H
  have c4b0 : decide (0 ≤ t335) = true := decide_eq_true c4
  clear c4
  by_cases c5 : t335 < (l1.length : Int)
  ·rw [if_pos c5] at H
   have c5b0 : decide (t335 < (l1.length : Int)) = true := decide_eq_true c5
   clear c5
   simp only [Option.some.injEq, Prod.mk.injEq] at H
   obtain ⟨rfl, rfl, rfl⟩ := H
   go_enter Tryd.func50, Tryd.ntmps50
   go_wp2_with (first | ((with_reducible refine gate_callee (f := 63) rfl ?_); refine zD (some 9) Tryd.func63 #[.pointer (some ⟨g, 0, none⟩), .int .i64 (l1.length : Int)] ?_; (with_reducible refine (spec_l1Below.calls g s0_0 s0_1 s0_2 (l1.length : Int) t335 t336 t337 w0 _ ?side1 ?side2 A3.out).mono ?_); (case side1 => exact (zl82_0 HI0.out)); (case side2 => exact (zl82_1 HB.out (IsS85.ge HI0.out))); rintro e w6 ⟨rfl, hi, hb, hk⟩; refine ⟨_, rfl, ?_⟩; replace HK := Aside0.mk (KeepBut.trans (zl82_2 HK.out) hk (.inl rfl)); replace HI0 := Aside0.mk (hi); replace HB := Aside0.mk (hb); (try clear hb); (try clear hk); (try clear hi); have p338 : 0 ≤ (t335 : Int) := zA; have q338 : t335 < (l1.length : Int) := zA; obtain ⟨ad338, e338, hx338_0⟩ := Kd.at_string HR1.out t335 p338 q338; cases e338; replace hx338_0 := keep_cell HK.out hx338_0 (by first | (rw [add_block]; exact hf1 _ rfl (by omega)) | exact hf1 _ rfl (by omega) | exact hf1 ad338 rfl (by omega)); replace p338 := eq_true p338; replace q338 := eq_true q338))
   go_ret
   exact ⟨zE, (zl82_0 HI0.out), zG (IsS85.ge HI0.out), (zl82_2 HK.out)⟩
  rw [if_neg c5] at H
  exact absurd H (by simp)
 rw [if_neg c4] at H
 exact absurd H (by simp)
/-! ### spec_DrawParseNumber: function 28 -/
def spec_DrawParseNumber.f (k : Nat) (l0 : List Int) : Option (ByteArray) := (spec_l1New.f k l0).bind fun bt339 => ((spec_l1Once.f bt339.1 bt339.2.1 bt339.2.2 2).bind fun bt343 => (if bt343.1 = true then ((spec_l1Whole.f bt339.1 bt343.2.1 bt343.2.2).bind fun bt346 => ((spec_FormatInt.f k bt346.1).bind fun t349 => (some t349))) else ((spec_l1Pick.f bt339.1 bt343.2.1 bt343.2.2 (([(⟨#[]⟩ : ByteArray), (⟨#[48, 48]⟩ : ByteArray), (⟨#[48, 49]⟩ : ByteArray), (⟨#[45, 49]⟩ : ByteArray), (⟨#[43, 49]⟩ : ByteArray), (⟨#[120]⟩ : ByteArray), (⟨#[57, 57, 57, 57, 57, 57]⟩ : ByteArray), (⟨#[49, 48, 48, 48, 48, 48, 48]⟩ : ByteArray), (⟨#[45, 48]⟩ : ByteArray), (⟨#[45]⟩ : ByteArray), (⟨#[32, 49]⟩ : ByteArray), (⟨#[49, 32]⟩ : ByteArray)] : List ByteArray))).bind fun bt353 => (some bt353.1))))
theorem zl83_0 {p q : Prop} (g : p) (h : p → q := by intro zg_; repeat (first | (with_reducible first | exact zg_ | apply below_alloc | apply pw_below_drewN | apply below_drew1) | exact zg_)) : q := h g
theorem zl83_1 {p q : Prop} (g : p) (h : p → q := by intro zg_; repeat (first | (with_reducible first | exact zg_ | apply IsS85.alloc | apply IsS85.drewN | apply IsS85.drew | apply IsS85.set_1 | apply IsS85.set_2) | exact zg_)) : q := h g
theorem zl83_2 {p q p0 : Prop} (g : p) (g0 : p0) (h : p → p0 → q := by intro zg_ z0_; repeat (first | (with_reducible first | exact zg_ | apply below_alloc | apply pw_below_drewN | apply below_drew1 | refine below_set ?_ z0_) | exact zg_)) : q := h g g0
set_option maxHeartbeats 8000000 in
set_option maxRecDepth 100000 in
theorem spec_DrawParseNumber.calls (k : Nat) (A0 : Option Addr) (c0 : Nat) (l0 : List Int) (r : ByteArray) (w : World) (hr0 : Kd.C (Kd.int .u8) w A0 l0.length l0) (hc0 : l0.length ≤ c0) (h : spec_DrawParseNumber.f k l0 = some r) :
  Calls Tryd.prog 28 #[.slice A0 l0.length c0] w fun e w' => e = .returned (.string r) ∧ Below w.heap.size w w' := by
 have HR0 := Aside0.mk hr0
 have HC0 := Aside0.mk hc0
 clear hr0 hc0
 have HB := Aside0.mk (Below.refl w.heap.size w)
 have H : ((spec_l1New.f k l0).bind fun bt339 => ((spec_l1Once.f bt339.1 bt339.2.1 bt339.2.2 2).bind fun bt343 => (if bt343.1 = true then ((spec_l1Whole.f bt339.1 bt343.2.1 bt343.2.2).bind fun bt346 => ((spec_FormatInt.f k bt346.1).bind fun t349 => (some t349))) else ((spec_l1Pick.f bt339.1 bt343.2.1 bt343.2.2 (([(⟨#[]⟩ : ByteArray), (⟨#[48, 48]⟩ : ByteArray), (⟨#[48, 49]⟩ : ByteArray), (⟨#[45, 49]⟩ : ByteArray), (⟨#[43, 49]⟩ : ByteArray), (⟨#[120]⟩ : ByteArray), (⟨#[57, 57, 57, 57, 57, 57]⟩ : ByteArray), (⟨#[49, 48, 48, 48, 48, 48, 48]⟩ : ByteArray), (⟨#[45, 48]⟩ : ByteArray), (⟨#[45]⟩ : ByteArray), (⟨#[32, 49]⟩ : ByteArray), (⟨#[49, 32]⟩ : ByteArray)] : List ByteArray))).bind fun bt353 => (some bt353.1))))) = some r := h
 clear h
 obtain ⟨⟨t339, t340, t341⟩, A2, H⟩ := zO H
 dsimp only at H
 obtain ⟨⟨t343, t344, t345⟩, A3, H⟩ := zO H
 dsimp only at H
 by_cases c4 : t343 = true
 ·subst c4
  replace H := (if_pos rfl).symm.trans H
  obtain ⟨⟨t346, t347, t348⟩, A5, H⟩ := zO H
  replace H : ((spec_FormatInt.f k t346).bind fun t349 => (some t349)) = some r := H
  obtain ⟨t349, A6, H⟩ := zO H
  obtain rfl := Option.some.inj H
  go_enter Tryd.func28, Tryd.ntmps28
  go_wp2_with (first | ((with_reducible refine gate_callee (f := 48) rfl ?_); refine zD (some 5) Tryd.func48 #[.slice A0 l0.length c0] ?_; (with_reducible refine (spec_l1New.calls k _ _ l0 t339 t340 t341 w _ ?side1 ?side2 ?side3 A2.out).mono ?_); (case side1 => exact (zl83_0 HB.out)); (case side2 => exact HR0.out); (case side3 => exact HC0.out); rintro e w7 ⟨g342, rfl, hi, hb, hb2⟩; refine ⟨_, rfl, ?_⟩; have HI342 := Aside0.mk (hi); replace HB := Aside0.mk (hb); (try clear hb); (try clear hb2); (try clear hi)) | ((with_reducible refine gate_callee (f := 49) rfl ?_); refine zD (some 7) Tryd.func49 #[.pointer (some ⟨g342, 0, none⟩), .int .i64 2] ?_; (with_reducible refine (spec_l1Once.calls g342 t339 t340 t341 2 true t344 t345 w _ ?side1 ?side2 A3.out).mono ?_); (case side1 => exact (zl83_1 HI342.out)); (case side2 => exact (zl83_2 HB.out (IsS85.ge HI342.out))); rintro e w8 ⟨rfl, hi, hb, hk⟩; refine ⟨_, rfl, ?_⟩; replace HI342 := Aside0.mk (hi); replace HB := Aside0.mk (hb); (try clear hb); (try clear hk); (try clear hi)) | ((with_reducible refine gate_callee (f := 47) rfl ?_); refine zD (some 9) Tryd.func47 #[.pointer (some ⟨g342, 0, none⟩)] ?_; (with_reducible refine (spec_l1Whole.calls g342 t339 t344 t345 t346 t347 t348 w _ ?side1 ?side2 A5.out).mono ?_); (case side1 => exact (zl83_1 HI342.out)); (case side2 => exact (zl83_2 HB.out (IsS85.ge HI342.out))); rintro e w9 ⟨rfl, hi, hb, hk⟩; refine ⟨_, rfl, ?_⟩; replace HI342 := Aside0.mk (hi); replace HB := Aside0.mk (hb); (try clear hb); (try clear hk); (try clear hi)) | ((with_reducible refine gate_callee (f := 11) rfl ?_); refine zD (some 10) Tryd.func11 #[.int .i64 t346] ?_; (with_reducible refine (spec_FormatInt.calls k t346 t349 _ A6.out).mono ?_); rintro e w10 ⟨rfl, hb⟩; refine ⟨_, rfl, ?_⟩; have n0_ := Aside0.mk (IsS85.below (zl83_1 HI342.out) hb); have n1_ := Aside0.mk (below_step (zG (IsS85.ge HI342.out)) hb); clear HI342; clear HB; have HI342 := n0_; have HB := n1_; clear n0_ n1_; (try clear hb)))
  go_ret
  exact ⟨zE, zG (IsS85.ge HI342.out)⟩
 replace c4 := Bool.eq_false_iff.mpr c4
 subst c4
 replace H := (if_neg zFf).symm.trans H
 obtain ⟨y350, hy350⟩ : ∃ y_ : List ByteArray, y_ = (([(⟨#[]⟩ : ByteArray), (⟨#[48, 48]⟩ : ByteArray), (⟨#[48, 49]⟩ : ByteArray), (⟨#[45, 49]⟩ : ByteArray), (⟨#[43, 49]⟩ : ByteArray), (⟨#[120]⟩ : ByteArray), (⟨#[57, 57, 57, 57, 57, 57]⟩ : ByteArray), (⟨#[49, 48, 48, 48, 48, 48, 48]⟩ : ByteArray), (⟨#[45, 48]⟩ : ByteArray), (⟨#[45]⟩ : ByteArray), (⟨#[32, 49]⟩ : ByteArray), (⟨#[49, 32]⟩ : ByteArray)] : List ByteArray)) := ⟨_, rfl⟩
 replace H : ((spec_l1Pick.f t339 t344 t345 y350).bind fun bt353 => (some bt353.1)) = some r := by first | (rw [hy350]; with_reducible exact H) | (have H2_ := (Option.bind_some _ _).symm.trans H; rw [hy350]; with_reducible exact H2_) | (have H2_ := (Option.bind_some _ _).symm.trans H; with_reducible exact H2_) | with_reducible exact H | (rw [hy350]; exact H) | exact H
 have Ny350 := Aside0.mk hy350
 clear hy350
 obtain ⟨⟨t353, t354, t355⟩, A11, H⟩ := zO H
 replace H : (some t353) = some r := H
 obtain rfl := Option.some.inj H
 go_enter Tryd.func28, Tryd.ntmps28
 go_wp2_with (first | ((with_reducible refine gate_callee (f := 48) rfl ?_); refine zD (some 5) Tryd.func48 #[.slice A0 l0.length c0] ?_; (with_reducible refine (spec_l1New.calls k _ _ l0 t339 t340 t341 w _ ?side1 ?side2 ?side3 A2.out).mono ?_); (case side1 => exact (zl83_0 HB.out)); (case side2 => exact HR0.out); (case side3 => exact HC0.out); rintro e w12 ⟨g342, rfl, hi, hb, hb2⟩; refine ⟨_, rfl, ?_⟩; have HI342 := Aside0.mk (hi); replace HB := Aside0.mk (hb); (try clear hb); (try clear hb2); (try clear hi)) | ((with_reducible refine gate_callee (f := 49) rfl ?_); refine zD (some 7) Tryd.func49 #[.pointer (some ⟨g342, 0, none⟩), .int .i64 2] ?_; (with_reducible refine (spec_l1Once.calls g342 t339 t340 t341 2 false t344 t345 w _ ?side1 ?side2 A3.out).mono ?_); (case side1 => exact (zl83_1 HI342.out)); (case side2 => exact (zl83_2 HB.out (IsS85.ge HI342.out))); rintro e w13 ⟨rfl, hi, hb, hk⟩; refine ⟨_, rfl, ?_⟩; replace HI342 := Aside0.mk (hi); replace HB := Aside0.mk (hb); (try clear hb); (try clear hk); (try clear hi)) | ((with_reducible refine gate_dst (N := 12) rfl ?_); refine Kd.R_lit Kd.string _ 9 ?hg (N := 12) ?hd (xs := ([(⟨#[]⟩ : ByteArray), (⟨#[48, 48]⟩ : ByteArray), (⟨#[48, 49]⟩ : ByteArray), (⟨#[45, 49]⟩ : ByteArray), (⟨#[43, 49]⟩ : ByteArray), (⟨#[120]⟩ : ByteArray), (⟨#[57, 57, 57, 57, 57, 57]⟩ : ByteArray), (⟨#[49, 48, 48, 48, 48, 48, 48]⟩ : ByteArray), (⟨#[45, 48]⟩ : ByteArray), (⟨#[45]⟩ : ByteArray), (⟨#[32, 49]⟩ : ByteArray), (⟨#[49, 32]⟩ : ByteArray)] : List ByteArray)) (inner := [.string (⟨#[]⟩ : ByteArray), .string (⟨#[48, 48]⟩ : ByteArray), .string (⟨#[48, 49]⟩ : ByteArray), .string (⟨#[45, 49]⟩ : ByteArray), .string (⟨#[43, 49]⟩ : ByteArray), .string (⟨#[120]⟩ : ByteArray), .string (⟨#[57, 57, 57, 57, 57, 57]⟩ : ByteArray), .string (⟨#[49, 48, 48, 48, 48, 48, 48]⟩ : ByteArray), .string (⟨#[45, 48]⟩ : ByteArray), .string (⟨#[45]⟩ : ByteArray), .string (⟨#[32, 49]⟩ : ByteArray), .string (⟨#[49, 32]⟩ : ByteArray)]) (ok := fun _ => True) (okp := fun _ => True) ?hr ?hp (fun _ hk => hk) trivial (Below.refl _ _) (Nat.le_refl _) (by simp) ?_; (case hd => rfl); (case hg => rfl); (case hr => first | (go_simp; done) | (go_simp; rfl)); (case hp => exact (Reps.one (show Kd.M Kd.string _ _ _ (⟨#[]⟩ : ByteArray) [.string (⟨#[]⟩ : ByteArray)] from rfl) (Reps.one (show Kd.M Kd.string _ _ _ (⟨#[48, 48]⟩ : ByteArray) [.string (⟨#[48, 48]⟩ : ByteArray)] from rfl) (Reps.one (show Kd.M Kd.string _ _ _ (⟨#[48, 49]⟩ : ByteArray) [.string (⟨#[48, 49]⟩ : ByteArray)] from rfl) (Reps.one (show Kd.M Kd.string _ _ _ (⟨#[45, 49]⟩ : ByteArray) [.string (⟨#[45, 49]⟩ : ByteArray)] from rfl) (Reps.one (show Kd.M Kd.string _ _ _ (⟨#[43, 49]⟩ : ByteArray) [.string (⟨#[43, 49]⟩ : ByteArray)] from rfl) (Reps.one (show Kd.M Kd.string _ _ _ (⟨#[120]⟩ : ByteArray) [.string (⟨#[120]⟩ : ByteArray)] from rfl) (Reps.one (show Kd.M Kd.string _ _ _ (⟨#[57, 57, 57, 57, 57, 57]⟩ : ByteArray) [.string (⟨#[57, 57, 57, 57, 57, 57]⟩ : ByteArray)] from rfl) (Reps.one (show Kd.M Kd.string _ _ _ (⟨#[49, 48, 48, 48, 48, 48, 48]⟩ : ByteArray) [.string (⟨#[49, 48, 48, 48, 48, 48, 48]⟩ : ByteArray)] from rfl) (Reps.one (show Kd.M Kd.string _ _ _ (⟨#[45, 48]⟩ : ByteArray) [.string (⟨#[45, 48]⟩ : ByteArray)] from rfl) (Reps.one (show Kd.M Kd.string _ _ _ (⟨#[45]⟩ : ByteArray) [.string (⟨#[45]⟩ : ByteArray)] from rfl) (Reps.one (show Kd.M Kd.string _ _ _ (⟨#[32, 49]⟩ : ByteArray) [.string (⟨#[32, 49]⟩ : ByteArray)] from rfl) (Reps.one (show Kd.M Kd.string _ _ _ (⟨#[49, 32]⟩ : ByteArray) [.string (⟨#[49, 32]⟩ : ByteArray)] from rfl) (Reps.none _ _)))))))))))))); intro v351 w14 ho15 hb hg_ hnew_; clear hg_ hnew_; (first | rw [← Ny350.out] at ho15 | (simp only [Int.reduceToNat] at ho15; rw [← Ny350.out] at ho15)); have n0_ := Aside0.mk (Kd.R_lower ho15 (below_size (zG (IsS85.ge HI342.out)))); have n1_ := Aside0.mk (IsS85.below (zl83_1 HI342.out) hb); have n2_ := Aside0.mk (below_step (zG (IsS85.ge HI342.out)) hb); clear HI342; clear HB; have HO352 := n0_; have HI342 := n1_; have HB := n2_; clear n0_ n1_ n2_; clear hb ho15; obtain ⟨Ao16, co16, eo16⟩ := Kd.R_slice HO352.out; subst eo16) | ((with_reducible refine gate_callee (f := 50) rfl ?_); refine zD (some 13) Tryd.func50 #[.pointer (some ⟨g342, 0, none⟩), .slice Ao16 y350.length co16] ?_; (with_reducible refine (spec_l1Pick.calls g342 t339 t344 t345 _ _ y350 t353 t354 t355 w _ ?side1 ?side2 ?side3 ?side4 ?side5 A11.out).mono ?_); (case side1 => exact (zl83_1 HI342.out)); (case side2 => exact (zl83_2 HB.out (IsS85.ge HI342.out))); (case side3 => repeat (first | exact (Kd.R_reads' HO352.out).2.2 | (with_reducible refine Kd.C_alloc ?_ _) | (with_reducible refine Kd.C_drewN ?_ _) | (with_reducible refine Kd.C_drew ?_))); (case side4 => exact (Kd.R_reads' HO352.out).2.1); (case side5 => exact far_slice (IsS85.own_ne HI342.out HO352.out (by decide))); rintro e w17 ⟨rfl, hi, hb, hk⟩; refine ⟨_, rfl, ?_⟩; replace HO352 := Aside0.mk (Kd.R_mono (Kd.R_keep (IsS85.apart (show IsS85 w _ g342 t339 t344 t345 from (zl83_1 HI342.out)) (zR HO352.out) (by decide)) hk (fun _ h => h.2)) (fun _ h => h.1)); replace HI342 := Aside0.mk (hi); replace HB := Aside0.mk (hb); (try clear hb); (try clear hk); (try clear hi)))
 go_ret
 exact ⟨zE, zG (IsS85.ge HI342.out)⟩
/-! ### laws_FnNumbers: function 8 -/
def laws_FnNumbers.j0 : Nat → List Int → Bool → Option (Bool)
 | 0, _, _ => none
 | k + 1, x0, x50 => if x50 = true then (some false) else ((spec_DrawParseNumber.f k x0).bind fun t362 => ((impl_ParseNumber.f t362).bind fun bt363 => ((spec_ParseNumber.f k t362).bind fun bt365 => (if (bt363.2 == bt365.2) = true then (if bt363.2 = true then ((impl_FormatInt.f bt363.1).bind fun t367 => (if t367.toList = t362.toList then (some (decide (bt363.1 ≥ 0))) else (some false))) else (some true)) else (some false)))))
def laws_FnNumbers.f (k : Nat) (l0 : List Int) : Option (Bool) := (laws_big.f l0).bind fun t356 => (if t356 = true then (some true) else ((spec_DrawFormatInt.f k l0).bind fun t357 => ((impl_FormatInt.f t357).bind fun t358 => ((impl_ParseInt.f t358).bind fun bt359 => ((spec_FormatInt.f k t357).bind fun t361 => (if t358.toList = t361.toList then (if (t358.size : Int) ≤ 12 then (if (bt359.2 != true) = true then (laws_FnNumbers.j0 k l0 true) else (if bt359.2 = true then (laws_FnNumbers.j0 k l0 (bt359.1 != t357)) else (laws_FnNumbers.j0 k l0 false))) else (if t357 < 0 then (if (bt359.2 != (decide ((t358.size : Int) ≤ 13))) = true then (laws_FnNumbers.j0 k l0 true) else (if bt359.2 = true then (laws_FnNumbers.j0 k l0 (bt359.1 != t357)) else (laws_FnNumbers.j0 k l0 false))) else (if (bt359.2 != false) = true then (laws_FnNumbers.j0 k l0 true) else (if bt359.2 = true then (laws_FnNumbers.j0 k l0 (bt359.1 != t357)) else (laws_FnNumbers.j0 k l0 false))))) else (laws_FnNumbers.j0 k l0 true)))))))
theorem laws_FnNumbers.j0_no (k : Nat) (y0 : List Int) (r : Bool) (h_ : r = true) : ¬ laws_FnNumbers.j0 k y0 true = some r := by
 subst h_
 cases k <;> simp [laws_FnNumbers.j0]
theorem zl84_0 {p q : Prop} (g : p) (h : p → q := by intro zg_; repeat (first | (with_reducible first | exact zg_ | apply below_alloc | apply pw_below_drewN | apply below_drew1) | exact zg_)) : q := h g
set_option maxHeartbeats 8000000 in
set_option maxRecDepth 100000 in
theorem laws_FnNumbers.calls (k : Nat) (A0 : Option Addr) (c0 : Nat) (l0 : List Int) (r : Bool) (w : World) (hr0 : Kd.C (Kd.int .u8) w A0 l0.length l0) (hc0 : l0.length ≤ c0) (h : laws_FnNumbers.f k l0 = some r) (hr_ : r = true) (hT : T2 w) :
  Calls Tryd.prog 8 #[.slice A0 l0.length c0] w fun e w' => e = .returned (.bool r) ∧ Below w.heap.size w w' := by
 have HT := Aside0.mk hT
 clear hT
 have HR0 := Aside0.mk hr0
 have HC0 := Aside0.mk hc0
 clear hr0 hc0
 have HB := Aside0.mk (Below.refl w.heap.size w)
 have H : ((laws_big.f l0).bind fun t356 => (if t356 = true then (some true) else ((spec_DrawFormatInt.f k l0).bind fun t357 => ((impl_FormatInt.f t357).bind fun t358 => ((impl_ParseInt.f t358).bind fun bt359 => ((spec_FormatInt.f k t357).bind fun t361 => (if t358.toList = t361.toList then (if (t358.size : Int) ≤ 12 then (if (bt359.2 != true) = true then (laws_FnNumbers.j0 k l0 true) else (if bt359.2 = true then (laws_FnNumbers.j0 k l0 (bt359.1 != t357)) else (laws_FnNumbers.j0 k l0 false))) else (if t357 < 0 then (if (bt359.2 != (decide ((t358.size : Int) ≤ 13))) = true then (laws_FnNumbers.j0 k l0 true) else (if bt359.2 = true then (laws_FnNumbers.j0 k l0 (bt359.1 != t357)) else (laws_FnNumbers.j0 k l0 false))) else (if (bt359.2 != false) = true then (laws_FnNumbers.j0 k l0 true) else (if bt359.2 = true then (laws_FnNumbers.j0 k l0 (bt359.1 != t357)) else (laws_FnNumbers.j0 k l0 false))))) else (laws_FnNumbers.j0 k l0 true)))))))) = some r := h
 clear h
 obtain ⟨t356, A2, H⟩ := zO H
 by_cases c3 : t356 = true
 ·subst c3
  replace H := (if_pos rfl).symm.trans H
  obtain rfl := Option.some.inj H
  go_enter Tryd.func8, Tryd.ntmps8
  go_wp2_with (first | ((with_reducible refine gate_callee (f := 26) rfl ?_); refine zD (some 13) Tryd.func26 #[.slice A0 l0.length c0] ?_; (with_reducible refine (laws_big.calls _ _ l0 true _ ?side1 ?side2 A2.out).mono ?_); (case side1 => repeat (first | exact HR0.out | (with_reducible refine Kd.C_alloc ?_ _) | (with_reducible refine Kd.C_drewN ?_ _) | (with_reducible refine Kd.C_drew ?_))); (case side2 => exact HC0.out); rintro e w' ⟨rfl, ⟨nd, rfl⟩⟩; refine ⟨_, rfl, ?_⟩))
  go_ret
  exact ⟨zE, zB⟩
 replace c3 := Bool.eq_false_iff.mpr c3
 subst c3
 replace H := (if_neg zFf).symm.trans H
 obtain ⟨t357, A4, H⟩ := zO H
 obtain ⟨t358, A5, H⟩ := zO H
 obtain ⟨⟨t359, t360⟩, A6, H⟩ := zO H
 dsimp only at H
 have HC7 := Aside0.mk H
 clear H
 go_enter Tryd.func8, Tryd.ntmps8
 go_upto_region 6 with (first | ((with_reducible refine gate_callee (f := 26) rfl ?_); refine zD (some 13) Tryd.func26 #[.slice A0 l0.length c0] ?_; (with_reducible refine (laws_big.calls _ _ l0 false _ ?side1 ?side2 A2.out).mono ?_); (case side1 => repeat (first | exact HR0.out | (with_reducible refine Kd.C_alloc ?_ _) | (with_reducible refine Kd.C_drewN ?_ _) | (with_reducible refine Kd.C_drew ?_))); (case side2 => exact HC0.out); rintro e w' ⟨rfl, ⟨nd, rfl⟩⟩; refine ⟨_, rfl, ?_⟩) | ((with_reducible refine gate_callee (f := 27) rfl ?_); refine zD (some 15) Tryd.func27 #[.slice A0 l0.length c0] ?_; (with_reducible refine (spec_DrawFormatInt.calls k _ _ l0 t357 _ ?side1 ?side2 A4.out).mono ?_); (case side1 => repeat (first | exact HR0.out | (with_reducible refine Kd.C_alloc ?_ _) | (with_reducible refine Kd.C_drewN ?_ _) | (with_reducible refine Kd.C_drew ?_))); (case side2 => exact HC0.out); rintro e w8 ⟨rfl, hb⟩; refine ⟨_, rfl, ?_⟩; replace HB := zX hb; (try clear hb)) | ((with_reducible refine gate_callee (f := 12) rfl ?_); refine zD (some 17) Tryd.func12 #[.int .i64 t357] ?_; (with_reducible refine (impl_FormatInt.calls t357 t358 _ A5.out (HT.out.to1.below ?sideT)).mono ?_); (case sideT => exact (zl84_0 HB.out)); rintro e w9 ⟨rfl, hb⟩; refine ⟨_, rfl, ?_⟩; replace HB := zX hb; (try clear hb)) | ((with_reducible refine gate_callee (f := 23) rfl ?_); refine zD (some 20) Tryd.func23 #[.string t358] ?_; (with_reducible refine (impl_ParseInt.calls t358 t359 t360 _ A6.out (HT.out.below ?sideT)).mono ?_); (case sideT => exact (zl84_0 HB.out)); rintro e w10 ⟨rfl, hb⟩; refine ⟨_, rfl, ?_⟩; replace HB := zX hb; (try clear hb)))
 (try simp only [Act.put, List.setIfInBounds_toArray, List.set_cons_zero, List.set_cons_succ])
 go_cut [50] (fun v50 wc => ∃ (kq : Nat) (x50_6 : Bool), v50 = .bool x50_6 ∧ Aside0 (laws_FnNumbers.j0 kq l0 x50_6 = some r) ∧ Aside0 (kq ≤ k) ∧ Aside0 (Below w.heap.size w wc))
 case first => as_aux_lemma =>
  have H := HC7.out
  clear HC7
  obtain ⟨t361, A11, H⟩ := zO H
  by_cases c12 : t358.toList = t361.toList
  ·rw [if_pos c12] at H
   have c12b0 : (t358.toList == t361.toList) = true := beq_iff_eq.mpr c12
   have c12b1 : (t358.toList != t361.toList) = false := bne_eq_false_iff_eq.mpr c12
   clear c12
   (first | rw [c12b0] | (simp only [i64_w, i32_w]; rw [c12b0]) | skip)
   by_cases c13 : (t358.size : Int) ≤ 12
   ·rw [if_pos c13] at H
    have c13b0 : decide ((t358.size : Int) ≤ 12) = true := decide_eq_true c13
    have c13b1 : decide (t358.size ≤ 12) = true := decide_eq_true (by omega)
    clear c13
    by_cases c14 : (t360 != true) = true
    ·rw [if_pos c14] at H
     exact absurd H (laws_FnNumbers.j0_no _ _ _ hr_)
    rw [if_neg c14] at H
    have c14b0 : (t360 != true) = false := by simpa using c14
    (try (have c14b1 : decide (t360 = true) = true := by simpa using c14))
    (try (have c14b2 : (t360 == true) = true := by simpa using c14))
    clear c14
    by_cases c16 : t360 = true
    ·subst c16
     replace H := (if_pos rfl).symm.trans H
     have H' := Aside0.mk H; clear H
     go_wp2_with (first | ((with_reducible refine gate_callee (f := 11) rfl ?_); refine zD (some 25) Tryd.func11 #[.int .i64 t357] ?_; (with_reducible refine (spec_FormatInt.calls k t357 t361 _ A11.out).mono ?_); rintro e w17 ⟨rfl, hb⟩; refine ⟨_, rfl, ?_⟩; replace HB := zX hb; (try clear hb)))
     go_meet
     case rel => exact ⟨_, ((t359 != t357)), zF, H', ⟨by first | omega | exact Nat.le_refl _⟩, ⟨zB⟩⟩
    replace c16 := Bool.eq_false_iff.mpr c16
    subst c16
    replace H := (if_neg zFf).symm.trans H
    have H' := Aside0.mk H; clear H
    go_wp2_with (first | ((with_reducible refine gate_callee (f := 11) rfl ?_); refine zD (some 25) Tryd.func11 #[.int .i64 t357] ?_; (with_reducible refine (spec_FormatInt.calls k t357 t361 _ A11.out).mono ?_); rintro e w18 ⟨rfl, hb⟩; refine ⟨_, rfl, ?_⟩; replace HB := zX hb; (try clear hb)))
    go_meet
    case rel => exact ⟨_, (false), zF, H', ⟨by first | omega | exact Nat.le_refl _⟩, ⟨zB⟩⟩
   rw [if_neg c13] at H
   have c13b0 : decide ((t358.size : Int) ≤ 12) = false := decide_eq_false c13
   have c13b1 : decide (t358.size ≤ 12) = false := decide_eq_false (by omega)
   clear c13
   by_cases c19 : t357 < 0
   ·rw [if_pos c19] at H
    have c19b0 : decide (t357 < 0) = true := decide_eq_true c19
    clear c19
    by_cases c20 : (t360 != (decide ((t358.size : Int) ≤ 13))) = true
    ·rw [if_pos c20] at H
     exact absurd H (laws_FnNumbers.j0_no _ _ _ hr_)
    rw [if_neg c20] at H
    have c20b0 : (t360 != (decide ((t358.size : Int) ≤ 13))) = false := by simpa using c20
    (try (have c20b1 : decide (t360 = (decide ((t358.size : Int) ≤ 13))) = true := by simpa using c20))
    (try (have c20b2 : (t360 == (decide ((t358.size : Int) ≤ 13))) = true := by simpa using c20))
    clear c20
    by_cases c22 : t360 = true
    ·subst c22
     replace H := (if_pos rfl).symm.trans H
     have H' := Aside0.mk H; clear H
     go_wp2_with (first | ((with_reducible refine gate_callee (f := 11) rfl ?_); refine zD (some 25) Tryd.func11 #[.int .i64 t357] ?_; (with_reducible refine (spec_FormatInt.calls k t357 t361 _ A11.out).mono ?_); rintro e w23 ⟨rfl, hb⟩; refine ⟨_, rfl, ?_⟩; replace HB := zX hb; (try clear hb)))
     go_meet
     case rel => exact ⟨_, ((t359 != t357)), zF, H', ⟨by first | omega | exact Nat.le_refl _⟩, ⟨zB⟩⟩
    replace c22 := Bool.eq_false_iff.mpr c22
    subst c22
    replace H := (if_neg zFf).symm.trans H
    have H' := Aside0.mk H; clear H
    go_wp2_with (first | ((with_reducible refine gate_callee (f := 11) rfl ?_); refine zD (some 25) Tryd.func11 #[.int .i64 t357] ?_; (with_reducible refine (spec_FormatInt.calls k t357 t361 _ A11.out).mono ?_); rintro e w24 ⟨rfl, hb⟩; refine ⟨_, rfl, ?_⟩; replace HB := zX hb; (try clear hb)))
    go_meet
    case rel => exact ⟨_, (false), zF, H', ⟨by first | omega | exact Nat.le_refl _⟩, ⟨zB⟩⟩
   rw [if_neg c19] at H
   have c19b0 : decide (t357 < 0) = false := decide_eq_false c19
   clear c19
   by_cases c25 : (t360 != false) = true
   ·rw [if_pos c25] at H
    exact absurd H (laws_FnNumbers.j0_no _ _ _ hr_)
   rw [if_neg c25] at H
   have c25b0 : (t360 != false) = false := by simpa using c25
   (try (have c25b1 : decide (t360 = false) = true := by simpa using c25))
   (try (have c25b2 : (t360 == false) = true := by simpa using c25))
   clear c25
   by_cases c27 : t360 = true
   ·subst c27
    replace H := (if_pos rfl).symm.trans H
    have H' := Aside0.mk H; clear H
    go_wp2_with (first | ((with_reducible refine gate_callee (f := 11) rfl ?_); refine zD (some 25) Tryd.func11 #[.int .i64 t357] ?_; (with_reducible refine (spec_FormatInt.calls k t357 t361 _ A11.out).mono ?_); rintro e w28 ⟨rfl, hb⟩; refine ⟨_, rfl, ?_⟩; replace HB := zX hb; (try clear hb)))
    go_meet
    case rel => exact ⟨_, ((t359 != t357)), zF, H', ⟨by first | omega | exact Nat.le_refl _⟩, ⟨zB⟩⟩
   replace c27 := Bool.eq_false_iff.mpr c27
   subst c27
   replace H := (if_neg zFf).symm.trans H
   have H' := Aside0.mk H; clear H
   go_wp2_with (first | ((with_reducible refine gate_callee (f := 11) rfl ?_); refine zD (some 25) Tryd.func11 #[.int .i64 t357] ?_; (with_reducible refine (spec_FormatInt.calls k t357 t361 _ A11.out).mono ?_); rintro e w29 ⟨rfl, hb⟩; refine ⟨_, rfl, ?_⟩; replace HB := zX hb; (try clear hb)))
   go_meet
   case rel => exact ⟨_, (false), zF, H', ⟨by first | omega | exact Nat.le_refl _⟩, ⟨zB⟩⟩
  rw [if_neg c12] at H
  exact absurd H (laws_FnNumbers.j0_no _ _ _ hr_)
 case rest => as_aux_lemma =>
 clear HC7
 try clear c3
 obtain ⟨kq, x50_6, rfl, HA, HJ6, HB⟩ := hcut
 cases kq with
 | zero => exact absurd HA.out (by simp [laws_FnNumbers.j0])
 | succ kj6 =>
 have H := HA.out
 clear HA
 simp only [laws_FnNumbers.j0] at H
 by_cases c31 : x50_6 = true
 ·subst c31
  replace H := (if_pos rfl).symm.trans H
  obtain rfl := Option.some.inj H
  cases hr_
 replace c31 := Bool.eq_false_iff.mpr c31
 subst c31
 replace H := (if_neg zFf).symm.trans H
 obtain ⟨t362, A32, H⟩ := zO H
 obtain ⟨⟨t363, t364⟩, A33, H⟩ := zO H
 dsimp only at H
 obtain ⟨⟨t365, t366⟩, A34, H⟩ := zO H
 dsimp only at H
 by_cases c35 : (t364 == t366) = true
 ·rw [if_pos c35] at H
  have c35b0 : (t364 == t366) = true := c35
  (try (have c35b1 : decide (t364 = t366) = true := by simpa using c35))
  (try (have c35b2 : (t364 == t366) = true := by simpa using c35))
  clear c35
  by_cases c36 : t364 = true
  ·subst c36
   replace H := (if_pos rfl).symm.trans H
   obtain ⟨t367, A37, H⟩ := zO H
   by_cases c38 : t367.toList = t362.toList
   ·rw [if_pos c38] at H
    have c38b0 : (t367.toList == t362.toList) = true := beq_iff_eq.mpr c38
    have c38b1 : (t367.toList != t362.toList) = false := bne_eq_false_iff_eq.mpr c38
    clear c38
    obtain rfl := Option.some.inj H
    go_wp2_with (first | ((with_reducible refine gate_callee (f := 28) rfl ?_); refine zD (some 52) Tryd.func28 #[.slice A0 l0.length c0] ?_; (with_reducible refine (spec_DrawParseNumber.calls kj6 _ _ l0 t362 _ ?side1 ?side2 A32.out).mono ?_); (case side1 => repeat (first | exact (Kd.C_below HR0.out HB.out) | (with_reducible refine Kd.C_alloc ?_ _) | (with_reducible refine Kd.C_drewN ?_ _) | (with_reducible refine Kd.C_drew ?_))); (case side2 => exact HC0.out); rintro e w39 ⟨rfl, hb⟩; refine ⟨_, rfl, ?_⟩; replace HB := zX hb; (try clear hb)) | ((with_reducible refine gate_callee (f := 25) rfl ?_); refine zD (some 55) Tryd.func25 #[.string t362] ?_; (with_reducible refine (impl_ParseNumber.calls t362 t363 true _ A33.out (HT.out.below ?sideT)).mono ?_); (case sideT => exact (zl84_0 HB.out)); rintro e w40 ⟨rfl, hb⟩; refine ⟨_, rfl, ?_⟩; replace HB := zX hb; (try clear hb)) | ((with_reducible refine gate_callee (f := 24) rfl ?_); refine zD (some 60) Tryd.func24 #[.string t362] ?_; (with_reducible refine (spec_ParseNumber.calls kj6 t362 t365 t366 _ A34.out).mono ?_); rintro e w41 ⟨rfl, hb⟩; refine ⟨_, rfl, ?_⟩; replace HB := zX hb; (try clear hb)) | (go_at_call 12; (with_reducible refine (impl_FormatInt.calls t363 t367 _ A37.out (HT.out.to1.below ?sideT)).mono ?_); (case sideT => exact (zl84_0 HB.out)); rintro e w42 ⟨rfl, hb⟩; replace HB := zX hb; (try clear hb); (try clear hb2); (try clear hk); (try clear hi)))
    go_ret
    exact ⟨zE, zB⟩
   rw [if_neg c38] at H
   have c38b0 : (t367.toList == t362.toList) = false := beq_eq_false_iff_ne.mpr c38
   have c38b1 : (t367.toList != t362.toList) = true := bne_iff_ne.mpr c38
   obtain rfl := Option.some.inj H
   cases hr_
  replace c36 := Bool.eq_false_iff.mpr c36
  subst c36
  replace H := (if_neg zFf).symm.trans H
  obtain rfl := Option.some.inj H
  go_wp2_with (first | ((with_reducible refine gate_callee (f := 28) rfl ?_); refine zD (some 52) Tryd.func28 #[.slice A0 l0.length c0] ?_; (with_reducible refine (spec_DrawParseNumber.calls kj6 _ _ l0 t362 _ ?side1 ?side2 A32.out).mono ?_); (case side1 => repeat (first | exact (Kd.C_below HR0.out HB.out) | (with_reducible refine Kd.C_alloc ?_ _) | (with_reducible refine Kd.C_drewN ?_ _) | (with_reducible refine Kd.C_drew ?_))); (case side2 => exact HC0.out); rintro e w47 ⟨rfl, hb⟩; refine ⟨_, rfl, ?_⟩; replace HB := zX hb; (try clear hb)) | ((with_reducible refine gate_callee (f := 25) rfl ?_); refine zD (some 55) Tryd.func25 #[.string t362] ?_; (with_reducible refine (impl_ParseNumber.calls t362 t363 false _ A33.out (HT.out.below ?sideT)).mono ?_); (case sideT => exact (zl84_0 HB.out)); rintro e w48 ⟨rfl, hb⟩; refine ⟨_, rfl, ?_⟩; replace HB := zX hb; (try clear hb)) | ((with_reducible refine gate_callee (f := 24) rfl ?_); refine zD (some 60) Tryd.func24 #[.string t362] ?_; (with_reducible refine (spec_ParseNumber.calls kj6 t362 t365 t366 _ A34.out).mono ?_); rintro e w49 ⟨rfl, hb⟩; refine ⟨_, rfl, ?_⟩; replace HB := zX hb; (try clear hb)))
  go_ret
  exact ⟨zE, zB⟩
 rw [if_neg c35] at H
 have c35b0 : (t364 == t366) = false := by simpa using c35
 (try (have c35b1 : decide (t364 = t366) = false := by simpa using c35))
 (try (have c35b2 : (t364 == t366) = false := by simpa using c35))
 (try (have c35b3 : ¬ (t364 = t366) := by simpa using c35))
 clear c35
 obtain rfl := Option.some.inj H
 cases hr_
end Go.Proofs.YthhgcdfdjlijjaaDoor.PX
namespace Go.Proofs.YthhgcdfdjlijjaaDoor.M
open Go.RowKit Go.Proofs.YthhgcdfdjlijjaaDoorW.PrintWords Go.Proofs.YthhgcdfdjlijjaaDoor.PX
theorem and255 (n : Int) : Go.bits .and .i64 n 255 = n % 256 := by
  have h255 : (BitVec.ofInt 64 255).toNat = 2 ^ 8 - 1 := by decide
  have key : (BitVec.ofInt 64 n &&& BitVec.ofInt 64 255).toNat = (n % ((2 ^ 64 : Nat) : Int)).toNat % 2 ^ 8 := by
    rw [BitVec.toNat_and, BitVec.toNat_ofInt, h255, Nat.and_two_pow_sub_one_eq_mod]
  show IntKind.i64.wrap ((BitVec.ofInt 64 n &&& BitVec.ofInt 64 255).toNat : Nat) = n % 256
  rw [key, IntKind.wrap_i64]
  omega
def Cur (l : List Int) (i : Int) : Prop := 0 ≤ i ∧ i ≤ (l.length : Int)
theorem byte_ok {l : List Int} (hl : l.length ≤ 1048576) {i : Int} (hc : Cur l i) (h : Int) : ∃ x i' h', spec_l1Byte.f l i h = some (x, i', h') ∧ (0 ≤ x ∧ x ≤ 255) ∧ Cur l i' := by
  obtain ⟨h0, h1⟩ := hc
  unfold spec_l1Byte.f
  by_cases g : i < (l.length : Int)
  · rw [if_pos g, if_pos h0, and255, and255]
    refine ⟨_, _, _, rfl, by omega, ?_, ?_⟩
    · rw [wrap_id (by omega) (by omega)]; omega
    · rw [wrap_id (by omega) (by omega)]; omega
  · rw [if_neg g, and255]
    exact ⟨_, _, _, rfl, by omega, h0, h1⟩
theorem below_ok {l : List Int} (hl : l.length ≤ 1048576) {i : Int} (hc : Cur l i) (h n : Int) : ∃ x i' h', spec_l1Below.f l i h n = some (x, i', h') ∧ (n ≤ 0 → x = 0) ∧ (0 < n → 0 ≤ x ∧ x < n) ∧ Cur l i' := by
  unfold spec_l1Below.f
  by_cases g : n ≤ 0
  · rw [if_pos g]
    exact ⟨_, _, _, rfl, fun _ => rfl, fun h => by omega, hc⟩
  · rw [if_neg g]
    have tm : ∀ x : Int, 0 ≤ x → 0 ≤ Int.tmod x n ∧ Int.tmod x n < n := fun x hx => by
      rw [Int.tmod_eq_emod_of_nonneg hx]
      exact ⟨Int.emod_nonneg _ (by omega), Int.emod_lt_of_pos _ (by omega)⟩
    by_cases g' : n ≤ 256
    · rw [if_pos g']
      obtain ⟨x, i1, h1, e1, b1, c1⟩ := byte_ok hl hc h
      rw [e1]
      simp only [Option.bind_some]
      rw [if_neg (by omega)]
      exact ⟨_, _, _, rfl, fun h => by omega, fun _ => tm x b1.1, c1⟩
    · rw [if_neg g']
      obtain ⟨x, i1, h1, e1, b1, c1⟩ := byte_ok hl hc h
      obtain ⟨y, i2, h2, e2, b2, c2⟩ := byte_ok hl c1 h1
      obtain ⟨z, i3, h3, e3, b3, c3⟩ := byte_ok hl c2 h2
      obtain ⟨w, i4, h4, e4, b4, c4⟩ := byte_ok hl c3 h3
      rw [e1]
      simp only [Option.bind_some]
      rw [e2]
      simp only [Option.bind_some]
      rw [e3]
      simp only [Option.bind_some]
      rw [e4]
      simp only [Option.bind_some]
      rw [if_neg (by omega)]
      refine ⟨_, _, _, rfl, fun h => by omega, fun _ => tm _ ?_, c4⟩
      rw [wrap_id (x := x * 16777216) (by omega) (by omega), wrap_id (x := y * 65536) (by omega) (by omega), wrap_id (x := z * 256) (by omega) (by omega), wrap_id (x := x * 16777216 + y * 65536) (by omega) (by omega)]
      rw [wrap_id (x := x * 16777216 + y * 65536 + z * 256) (by omega) (by omega), wrap_id (by omega) (by omega)]
      omega
theorem new_ok (l : List Int) (_ : l.length ≤ 1048576) : ∃ h, Ev (fun k => spec_l1New.f k l) (l, 0, h) := by
  have key : ∀ (d i : Nat) (x : Int), i + d = l.length → ∃ h, Ev (fun k => spec_l1New.l0 k l x (i : Int)) (l, 0, h) := by
    intro d
    induction d with
    | zero =>
      intro i x hi
      refine ⟨x, ev_step ?_⟩
      simp only [spec_l1New.l0]
      exact ev_neg (by omega) (Ev.now _)
    | succ d ih =>
      intro i x hi
      by_cases g : (i : Int) < 4000
      · obtain ⟨h, hh⟩ := ih (i + 1) (Go.bits .and .i64 (wrap64 ((wrap64 ((wrap64 (x * 131)) + (wrap64 (rd l (i : Int))))) + 7)) 1073741823) (by omega)
        refine ⟨h, ev_step ?_⟩
        simp only [spec_l1New.l0]
        rw [wrap_id (x := (i : Int) + 1) (by omega) (by omega)]
        exact ev_pos (by omega) (ev_pos g (ev_pos (by omega) hh))
      · refine ⟨x, ev_step ?_⟩
        simp only [spec_l1New.l0]
        exact ev_pos (by omega) (ev_neg g (Ev.now _))
  unfold spec_l1New.f
  exact key l.length 0 _ (by omega)
theorem cur0 (l : List Int) : Cur l 0 := ⟨Int.le_refl 0, by omega⟩
theorem pick_ok {l : List Int} (hl : l.length ≤ 1048576) {i : Int} (hc : Cur l i) (h : Int) (ts : List ByteArray) (ht : ts ≠ []) : ∃ x i' h', spec_l1Pick.f l i h ts = some (x, i', h') ∧ x ∈ ts ∧ Cur l i' := by
  have hp : 0 < ts.length := List.length_pos_iff.2 ht
  obtain ⟨x, i', h', e, _, b, c⟩ := below_ok hl hc h (ts.length : Int)
  have b := b (by omega)
  unfold spec_l1Pick.f
  rw [e]
  simp only [Option.bind_some]
  rw [if_pos b.1, if_pos b.2]
  refine ⟨_, _, _, rfl, ?_, c⟩
  obtain ⟨j, rfl⟩ := Int.eq_ofNat_of_zero_le b.1
  have hj : j < ts.length := by omega
  unfold rdOf
  rw [Int.toNat_natCast, List.getD_eq_getElem?_getD, List.getElem?_eq_getElem hj]
  exact List.getElem_mem hj
theorem pickInt_ok {l : List Int} (hl : l.length ≤ 1048576) {i : Int} (hc : Cur l i) (h : Int) (ts : List Int) (ht : ts ≠ []) : ∃ x i' h', spec_l1PickInt.f l i h ts = some (x, i', h') ∧ x ∈ ts ∧ Cur l i' := by
  have hp : 0 < ts.length := List.length_pos_iff.2 ht
  obtain ⟨x, i', h', e, _, b, c⟩ := below_ok hl hc h (ts.length : Int)
  have b := b (by omega)
  unfold spec_l1PickInt.f
  rw [e]
  simp only [Option.bind_some]
  rw [if_pos b.1, if_pos b.2]
  refine ⟨_, _, _, rfl, ?_, c⟩
  obtain ⟨j, rfl⟩ := Int.eq_ofNat_of_zero_le b.1
  have hj : j < ts.length := by omega
  unfold rd
  rw [Int.toNat_natCast, List.getD_eq_getElem?_getD, List.getElem?_eq_getElem hj]
  exact List.getElem_mem hj
theorem once_ok {l : List Int} (hl : l.length ≤ 1048576) {i : Int} (hc : Cur l i) (h n : Int) : ∃ b i' h', spec_l1Once.f l i h n = some (b, i', h') ∧ Cur l i' := by
  obtain ⟨x, i', h', e, _, _, c⟩ := below_ok hl hc h n
  unfold spec_l1Once.f
  rw [e]
  exact ⟨_, _, _, rfl, c⟩
end Go.Proofs.YthhgcdfdjlijjaaDoor.M
namespace Go.Proofs.YthhgcdfdjlijjaaDoor.Pure
open Go.RowKit Go.Proofs.YthhgcdfdjlijjaaDoorW.PrintWords Go.Proofs.YthhgcdfdjlijjaaDoor.PX Go.Proofs.YthhgcdfdjlijjaaDoor.M Go.Proofs.YthhgcdfdjlijjaaDoor.G Go.Proofs.YthhgcdfdjlijjaaDoorW.PrintMore
open Go.Lib (decDigits itoa)
def In64 (x : Int) : Prop := -9223372036854775808 ≤ x ∧ x ≤ 9223372036854775807
theorem dec_ge (d : Nat) : ∀ u, 10 ^ d ≤ u → d + 1 ≤ (decDigits u).length := by
  induction d with
  | zero => intro u _; exact dec_pos u
  | succ d ih =>
    intro u h
    rw [Nat.pow_succ] at h
    have h10 : 1 ≤ 10 ^ d := Nat.pow_pos (by omega)
    have := ih (u / 10) (by omega)
    rw [dec_step (by omega), List.length_append, List.length_singleton]
    omega
theorem itoa_size (n : Int) : (itoaB n).size = (if n < 0 then 1 else 0) + (decDigits n.natAbs).length := by
  rw [size_list, itoaB_data]
  unfold itoa
  by_cases g : n < 0
  · rw [if_pos g, if_pos g, List.length_cons]; omega
  · rw [if_neg g, if_neg g, show n.toNat = n.natAbs by omega]; omega
theorem whole_ok {l : List Int} (hl : l.length ≤ 1048576) {i : Int} (hc : Cur l i) (h : Int) : ∃ x i' h', spec_l1Whole.f l i h = some (x, i', h') ∧ In64 x ∧ Cur l i' := by
  obtain ⟨a, i1, h1, e1, _, _, c1⟩ := below_ok hl hc h 3
  unfold spec_l1Whole.f
  rw [e1]
  simp only [Option.bind_some]
  by_cases g0 : a = 0
  · rw [if_pos g0]
    obtain ⟨x, i2, h2, e2, m, c2⟩ := pickInt_ok hl c1 h1 [0, 1, (-1), 9, 10, 999999, 1000000, 999999999999, 1000000000000, (-999999999999), 9223372036854775807, (-9223372036854775808)] (by decide)
    refine ⟨x, i2, h2, by rw [e2]; rfl, ?_, c2⟩
    exact (show ∀ y ∈ [0, 1, (-1), 9, 10, 999999, 1000000, 999999999999, 1000000000000, (-999999999999), 9223372036854775807, (-9223372036854775808)], In64 y by unfold In64; decide) x m
  · rw [if_neg g0]
    by_cases g1 : a = 1
    · rw [if_pos g1]
      obtain ⟨x, i2, h2, e2, _, b2, c2⟩ := below_ok hl c1 h1 1000000
      have := b2 (by omega)
      exact ⟨_, i2, h2, by rw [e2]; rfl, by rw [wrap_id (by omega) (by omega)]; exact ⟨by omega, by omega⟩, c2⟩
    · rw [if_neg g1]
      obtain ⟨x, i2, h2, e2, _, b2, c2⟩ := below_ok hl c1 h1 20
      have := b2 (by omega)
      exact ⟨_, i2, h2, by rw [e2]; rfl, ⟨by omega, by omega⟩, c2⟩
theorem itoa_short {n : Int} (h : In64 n) : (itoaB n).size ≤ 21 := by
  obtain ⟨h0, h1⟩ := h
  have := dec_len 19 n.natAbs (big20 (by omega))
  rw [itoa_size]
  split <;> omega
theorem drawF {l : List Int} (hl : l.length ≤ 1048576) : ∃ n, Ev (fun k => spec_DrawFormatInt.f k l) n ∧ In64 n := by
  obtain ⟨h, hn⟩ := new_ok l hl
  obtain ⟨x, i1, h1, e1, r, _⟩ := whole_ok hl (cur0 l) h
  refine ⟨x, ?_, r⟩
  unfold spec_DrawFormatInt.f
  exact Ev.bind hn (ev_call e1 (Ev.now _))
theorem drawP {l : List Int} (hl : l.length ≤ 1048576) : ∃ t, Ev (fun k => spec_DrawParseNumber.f k l) t ∧ t.size ≤ 1048576 := by
  obtain ⟨h, hn⟩ := new_ok l hl
  obtain ⟨b, i1, h1, e1, c1⟩ := once_ok hl (cur0 l) h 2
  cases b with
  | true =>
    obtain ⟨x, i2, h2, e2, r, _⟩ := whole_ok hl c1 h1
    refine ⟨itoaB x, ?_, Nat.le_trans (itoa_short r) (by decide)⟩
    unfold spec_DrawParseNumber.f
    exact Ev.bind hn (ev_call e1 (ev_pos (by first | rfl | trivial) (ev_call e2 (Ev.bind (spec_fmt r.1 r.2) (Ev.now _)))))
  | false =>
    obtain ⟨x, i2, h2, e2, m, _⟩ := pick_ok hl c1 h1 [(⟨#[]⟩ : ByteArray), (⟨#[48, 48]⟩ : ByteArray), (⟨#[48, 49]⟩ : ByteArray), (⟨#[45, 49]⟩ : ByteArray), (⟨#[43, 49]⟩ : ByteArray), (⟨#[120]⟩ : ByteArray), (⟨#[57, 57, 57, 57, 57, 57]⟩ : ByteArray), (⟨#[49, 48, 48, 48, 48, 48, 48]⟩ : ByteArray), (⟨#[45, 48]⟩ : ByteArray), (⟨#[45]⟩ : ByteArray), (⟨#[32, 49]⟩ : ByteArray), (⟨#[49, 32]⟩ : ByteArray)] (by decide)
    refine ⟨x, ?_, ?_⟩
    · unfold spec_DrawParseNumber.f
      exact Ev.bind hn (ev_call e1 (ev_neg (by simp) (ev_call e2 (Ev.now _))))
    · exact (show ∀ y ∈ [(⟨#[]⟩ : ByteArray), (⟨#[48, 48]⟩ : ByteArray), (⟨#[48, 49]⟩ : ByteArray), (⟨#[45, 49]⟩ : ByteArray), (⟨#[43, 49]⟩ : ByteArray), (⟨#[120]⟩ : ByteArray), (⟨#[57, 57, 57, 57, 57, 57]⟩ : ByteArray), (⟨#[49, 48, 48, 48, 48, 48, 48]⟩ : ByteArray), (⟨#[45, 48]⟩ : ByteArray), (⟨#[45]⟩ : ByteArray), (⟨#[32, 49]⟩ : ByteArray), (⟨#[49, 32]⟩ : ByteArray)], y.size ≤ 1048576 by decide) x m
theorem num_ok {s : ByteArray} (h : (numA s).2 = true) : 0 ≤ (numA s).1 ∧ (numA s).1 < 1000000 ∧ itoaB (numA s).1 = s := by
  unfold numA at h ⊢
  by_cases c : (readS s 6).2 = true
  · by_cases g : ∃ v : Int, v.natAbs < 10 ^ 6 ∧ itoaB v = s
    · obtain ⟨v, hv, rfl⟩ := g
      rw [readS_of (by omega) (by omega) hv] at h ⊢
      simp only [if_true] at h ⊢
      by_cases n : v < 0
      · rw [if_pos n] at h; cases h
      · rw [if_neg n]
        exact ⟨by omega, by simp only; omega, rfl⟩
    · rw [readS_not fun v hv e => g ⟨v, hv, e⟩] at c
      cases c
  · rw [if_neg c] at h
    cases h
theorem FnNumbers (l : List Int) (_ : l.length ≤ 9223372036854775807) (_ : ∀ x ∈ l, (Lit.int .u8 x).wf = true) : ∃ k, laws_FnNumbers.f k l = some true := by
  refine Ev.rounds (r := true) ?_
  unfold laws_FnNumbers.f laws_big.f
  refine ev_call rfl ?_
  by_cases hb : (l.length : Int) > 1048576
  · exact ev_pos (decide_eq_true hb) (Ev.now _)
  refine ev_neg (by simpa using hb) ?_
  have hl : l.length ≤ 1048576 := by omega
  obtain ⟨n, dn, h0, h1⟩ := drawF hl
  obtain ⟨t, dt, st⟩ := drawP hl
  have j0 : Ev (fun k => laws_FnNumbers.j0 k l false) true := by
    refine ev_step ?_
    simp only [laws_FnNumbers.j0]
    refine ev_neg (by simp) (Ev.bind dt (ev_call (impl_num t st) (Ev.bind (spec_num t st) (ev_pos (by simp) ?_))))
    by_cases g : (numA t).2 = true
    · obtain ⟨g0, g1, e⟩ := num_ok g
      refine ev_pos g (ev_call (impl_fmt (by omega) (by omega)) (ev_pos (by rw [e]) (ev_cast (Ev.now _) (decide_eq_true g0))))
    · exact ev_neg g (Ev.now _)
  have sz := itoa_size n
  have sh := itoa_short ⟨h0, h1⟩
  refine Ev.bind dn (ev_call (impl_fmt h0 h1) (ev_call (impl_int _ (by omega)) (Ev.bind (spec_fmt h0 h1) (ev_pos rfl ?_))))
  by_cases g : n.natAbs < 10 ^ 12
  · have e : intA (itoaB n) = (n, true) := readS_of (by omega) (by omega) g
    have dl := dec_len 11 n.natAbs g
    rw [e]
    by_cases s : ((itoaB n).size : Int) ≤ 12
    · refine ev_pos s (ev_neg (by simp) (ev_pos rfl ?_))
      rw [bne_self_eq_false]
      exact j0
    · have neg : n < 0 := by
        refine Classical.byContradiction fun h => s ?_
        rw [if_neg h] at sz
        omega
      rw [if_pos neg] at sz
      refine ev_neg s (ev_pos neg (ev_neg ?_ (ev_pos rfl ?_)))
      · rw [decide_eq_true (show ((itoaB n).size : Int) ≤ 13 by omega)]
        simp
      · rw [bne_self_eq_false]
        exact j0
  · have e : intA (itoaB n) = (0, false) := readS_not fun v hv ev => g (by
      rw [← itoaB_inj ⟨by omega, by omega⟩ ⟨h0, h1⟩ ev]; exact hv)
    have dl := dec_ge 12 n.natAbs (by omega)
    rw [e]
    refine ev_neg (by split at sz <;> omega) ?_
    by_cases neg : n < 0
    · rw [if_pos neg] at sz
      refine ev_pos neg (ev_neg ?_ (ev_neg (by simp) j0))
      rw [decide_eq_false (show ¬ ((itoaB n).size : Int) ≤ 13 by omega)]
      simp
    · exact ev_neg neg (ev_neg (by simp) (ev_neg (by simp) j0))
end Go.Proofs.YthhgcdfdjlijjaaDoor.Pure
namespace Go.Proofs.YthhgcdfdjlijjaaDoor.fnNumbers
open Go.ChangeShapes Go.WideShapes Go.ChangeAt Go.RowKit Go.Joins
open Go.ChangeMaps (open_string shut_string)
set_option linter.unusedVariables false
theorem own : ownKnob Tryd.prog.godebug = none := by kernel_rfl
theorem str_mk {H : Type} {enc : TypeId × Value → H} {P : Program} {w : World} {base : Nat} {spare : Nat → Bool} {held : Bool} {t : TypeId} {s : ByteArray} (ht : P.underlying t = some .string) (hs : s.size ≤ maxLen) : DataW.trod enc P w base spare held 1 t [.string s] = some (.lit (.string s.data.toList), []) := by
  simp [DataW.trod, ht, hs]
theorem laidOut : laidOutB Tryd.prog = true := by kernel_rfl
def IsRow (k : IntKind) (w : World) (a : Option Addr) (len cap : Nat) (zs : List Int) : Prop :=
  (a = none ∧ len = 0 ∧ cap = 0 ∧ zs = []) ∨
  ∃ x, a = some x ∧ len ≤ cap ∧ cap ≤ maxLen ∧ zs.length = cap ∧ (∀ i, i < zs.length → w.cell? (x.add i) = some (.int k (zs.getD i 0))) ∧ ∀ n ∈ zs, (Lit.int k n).wf = true
set_option maxRecDepth 100000 in
theorem lifted (os : Os) (started : os.Started) (H : Type) (enc : TypeId × Value → H) :
    ReturnsInHanded {} Tryd.checked os 8 .any (fun w args => (Rows.fnNumbersSpec.pre enc Tryd.prog Tryd.f8 Rows.fnNumbersRow.domain false w args ∧ laidMetH Tryd.prog G.l5 w) ∧ sizedMet enc Tryd.prog Tryd.f8 (OpenSpec.ofChange Rows.fnNumbersSpec) false w args) (Rows.fnNumbersSpec.post enc Tryd.prog Tryd.f8 false true false false) := by
  refine returnsInHanded_of_change_and (C := Tryd.checked) (X := fun w _ => laidMetH Tryd.prog G.l5 w) (fun _ _ _ hh h => h.of_heap hh) own started (by kernel_rfl) Tryd.func8
    (ChangeSpec.witness_shaped (enc := enc) (C := Tryd.checked) (os := os) (X := fun w _ => laidMetH Tryd.prog G.l5 w) false (World.doorLaid Tryd.prog 62 os) #[.slice none 0 0] 8 rfl (World.shaped_of_RefB (by kernel_rfl) (by kernel_rfl)) (by kernel_rfl) (by kernel_rfl) (by kernel_rfl) (G.met5 os _)) ?_
  intro W base args ds gs before hval0 hW hcnd hsz0 hL _
  have hsz : (DataW.weightsEach Tryd.prog (Tryd.f8.params.toList ++ Rows.fnNumbersSpec.plain.varTypes Tryd.prog) (ds ++ gs)).all (· ≤ reachBytes) = true := hsz0
  have hval : ∀ (j : Nat) t v, Tryd.f8.params[j]? = some t → args[j]? = some v → Value.okWide Tryd.prog W .any base t v := hval0
  have hW' := hW
  obtain ⟨p, q, hA0, hV, rfl, hfz, hnd⟩ := hW
  have hA : DataW.TrodAll enc Tryd.prog W 0 (fun _ => true) true Tryd.f8.params.toList args.toList ds p := hA0
  rw [Tryd.params8] at hA hval hsz
  obtain ⟨v0, vs0, d0, ds0, p0, q0, hargs, rfl, rfl, h0, r0⟩ := trodAll_cons hA
  obtain ⟨rfl, rfl, rfl⟩ := trodAll_nil r0
  obtain rfl : args = #[v0] := by cases args; simp_all
  obtain ⟨rfl, rfl⟩ := trodVars_none hV
  obtain ⟨a0, len0, cap0, rfl⟩ := okWide_slice Tryd.underlying41 (hval 0 41 v0 rfl rfl)
  have k0 := h0
  have lt0 : ∀ x ∈ p0, x.block < W.heap.size := by obtain ⟨m, hm⟩ := k0; exact DataW.trod_lt m _ _ _ hm
  obtain ⟨z0, w0⟩ : ∃ zs, IsRow .u8 W a0 len0 cap0 zs := by
    obtain ⟨fuel, hf⟩ := h0
    rcases open_ints Tryd.underlying41 Tryd.underlying5 (by kernel_rfl) hf with ⟨hcs, _⟩ | ⟨x, l, c, zs, hcs, _, hl, hm, hz, _, hcell, hwz⟩
    · simp [Value.cells] at hcs
      obtain ⟨rfl, rfl, rfl⟩ := hcs
      exact ⟨[], .inl ⟨rfl, rfl, rfl, rfl⟩⟩
    · simp [Value.cells] at hcs
      obtain ⟨rfl, rfl, rfl⟩ := hcs
      exact ⟨zs, .inr ⟨_, rfl, hl, hm, by simpa using hz, hcell, hwz⟩⟩
  obtain ⟨l0, rfl, hr0, hm0, hw0, hc0⟩ := Go.Proofs.YthhgcdfdjlijjaaDoorW.PrintWords.ReadsInt.ofRowC w0
  clear hA0 hval0 hsz0 hsz
  obtain ⟨k, hP⟩ := Pure.FnNumbers l0 (Nat.le_trans hm0 (by decide)) hw0
  refine (PX.laws_FnNumbers.calls k _ _ l0 true W (Go.Proofs.YthhgcdfdjlijjaaDoorW.PrintWords.Kd.C_of_reads (d := (0 : Int)) (h1 := fun _ => rfl) hr0) hc0 hP rfl (G.laid5_T2 hL)).mono fun e W' ⟨he, bel⟩ => ?_
  subst he
  exact ⟨_, rfl, _, _, _, [], _, [], hW', trodAll_mk1 (shut_bool Tryd.underlying4 _), (trodAll_cons_mk (Below.trod laidOut (by kernel_rfl) (of_decide_eq_true (by kernel_rfl)) k0 bel lt0) trodAll_mk0), rfl, bel.frame _, fun h => by cases h⟩
theorem over : Rows.fnNumbersRow.holds Tryd.pinned (OpenSpec.ofChange Rows.fnNumbersSpec) :=
  OpenClaim.holds_of_wide 8 Tryd.f8 rfl rfl rfl rfl rfl rfl rfl ⟨rfl, rfl, rfl, rfl, rfl⟩ rfl rfl rfl rfl rfl (by kernel_rfl) Tryd.func8 (by kernel_rfl)
    (of_decide_eq_true (by kernel_rfl)) (by unfold Func.isWrapper; first | (rw [if_pos (by decide +kernel)]; kernel_rfl) | (rw [if_neg (by decide +kernel)]; exact ⟨rfl, rfl⟩))
    (fun os started H enc _ => lifted os started H enc)
theorem proved : Rows.FnNumbersCardSaid :=
  Claim7.holds_tied_plain_at .later [] [.data, .data, .data, .sentinel, .sentinel] true (true, "b6297fe4dff1945e15340171e309d32cd1111b5a543af04a2fb5a0138c81a0d9") true over (fun _ h => by cases h) (by kernel_rfl) (fun _ h => by cases h) fnNumbers_row_tie rfl ⟨rfl, rfl⟩ (by kernel_rfl) rfl
    (fun f fn hf hfn => by
      obtain rfl : f = 8 := Option.some.inj (hf.symm.trans (show Tryd.prog.funcNamed "loop.example/g03104/laws.FnNumbers" = some 8 by kernel_rfl))
      obtain rfl : fn = Tryd.f8 := (Option.some.inj (Tryd.func8.symm.trans hfn)).symm
      exact ⟨by kernel_rfl, fun j t ht => by
        have hm : t ∈ Tryd.f8.params.toList := Array.mem_toList_iff.2 (Array.mem_of_getElem? ht)
        have hall : (Tryd.f8.params.toList.all fun u => !Tryd.prog.wantsStandIn u) = true := by kernel_rfl
        exact (show Tryd.prog.wantsStandIn t = false by simpa using List.all_eq_true.1 hall t hm)⟩)
    (by kernel_rfl)
#print axioms proved
end Go.Proofs.YthhgcdfdjlijjaaDoor.fnNumbers
namespace Go.Proofs.YthhgcdfdjlijjaaDoor
theorem fnNumbers_holds : Rows.FnNumbersCardSaid := fnNumbers.proved
end Go.Proofs.YthhgcdfdjlijjaaDoor
