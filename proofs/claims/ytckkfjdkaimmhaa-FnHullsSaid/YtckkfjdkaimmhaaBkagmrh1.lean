/- A part of proofs about signs and points: what some functions answer, and that their calls answer so. No condition. -/
import Derived.Test.YtckkfjdkaimmhaaProg
import Derived.Below
import Derived.Deep.Draws
import Derived.Deep.AppendLies
import Derived.Maps.AppendAt
import Derived.OwnWalk
import Derived.Laws.BytesArg
import Derived.Laws.MakeOwn
import Derived.Laws.OwnMore
import Derived.Deep.OwnRows
import Derived.Tactics
import Derived.Lib.ConvBytes
import Derived.Laws.Slices
import Derived.WalkKit
import Derived.KernelRfl
import Derived.RowKit3
import Derived.Deep.LoopGhost
import Derived.Deep.QuietTactic
import Derived.BigQuiet
import Derived.WideLaws
import Derived.Deep.DeepCutAuto
import Derived.Deep.CutBlock
import Derived.Deep.RegionHeld3
import Derived.Laws.Rows
import Derived.Lib.AppendStr
import Derived.ArgAppend
import Derived.Laws.IdiomCopy
import Derived.OrdersHeld
import Derived.Laws.BitsLemmas
import Derived.RowKit
import Derived.Laws.Tables
import Derived.RegionTactic
import Derived.Outline
import Derived.Test.YtckkfjdkaimmhaaV1
set_option linter.unusedVariables false
set_option linter.unusedSimpArgs false
namespace Go.Proofs.Ytckkfjdkaimmhaa.G
open Go.RowKit Go.Proofs.YtckkfjdkaimmhaaW.PrintWords
@[reducible] def ptrOf : Value → Value
 | .slice A _ _ => .pointer A
 | v => v
def rd3 (l : List Int) (i j k : Int) : Int := rd l (1 + i * 49 + j * 7 + k)
def chiArr (n : Int) : Array Value := (nums .i64 (n :: List.replicate 343 (0 : Int))).toArray
set_option maxRecDepth 100000 in
theorem chi_built (n : Int) : Try.prog.built 115 [(0, .int .i64 n)] = some (chiArr n) := by kernel_rfl
section
variable {P : Program} {ops : Array Oper} {rest : List Oper} {o : Oper} {a : Act} {Q : Exit → Act → World → Prop}
theorem chi_build_event {W : World} {T s : Nat} {n : Int} (hgd : o.guard = none) (ho : o.op = .build T #[(0, .tmp s)]) (hx : a.eval (.tmp s) = .int .i64 n)
  (hT : ∀ n : Int, P.built T [(0, .int .i64 n)] = some (chiArr n)) (h : wpList P ops Q rest (a.put o.dst (.agg (chiArr n))) W) : wpList P ops Q (o :: rest) a W := by
 refine wpList_plain hgd fun K hK => ?_
 have e : P.built T (#[((0 : Nat), Operand.tmp s)].map fun (x : Nat × Operand) => (x.1, a.eval x.2)).toList = some (chiArr n) := by
  simp only [List.map_toArray, List.map_cons, List.map_nil, hx]; exact hT n
 refine wp_build T _ ho (by rw [e]; rfl) ?_
 rw [e]
 exact hK _ _ h
theorem chi_own {w : World} {g : Nat} {n : Int} {T base : Nat} (h : w.heap[g]? = some (.cells (chiArr n) T (0, 0))) (hb : base ≤ g) :
  Kd.R (Kd.int .i64) T w base (fun _ => True) (.slice (some ⟨g, 0, none⟩) (n :: List.replicate 343 (0 : Int)).length 344) (n :: List.replicate 343 (0 : Int)) := by
 have hl : (n :: List.replicate 343 (0 : Int)).length = 344 := by rw [List.length_cons, List.length_replicate]
 refine Kd.R_of_own (enc := Value.int .i64) (h1 := fun _ => rfl) ?_ (fun _ _ => trivial)
 generalize hx : (n :: List.replicate 343 (0 : Int)) = xs at hl
 have hc : chiArr n = (nums .i64 xs).toArray := by rw [← hx]; rfl
 rw [hc] at h
 refine ⟨by rw [Nat.mul_one]; exact List.length_map .., .inr ⟨g, 344, (nums .i64 xs).toArray, rfl, hb, h, by omega, by decide, by rw [List.size_toArray, nums_length, hl], ?_⟩⟩
 rw [List.toList_toArray, Nat.mul_one]
 exact List.take_of_length_le (by rw [nums_length]; exact Nat.le_refl _)
theorem chi_box_event {W : World} {n : Int} {T N : Nat} (hgd : o.guard = none) (_hd : o.dst = some N)
  (hrun : (execOp a.eval o).run P W = .ok (.value (.pointer (some ⟨W.heap.size, 0, none⟩))) (W.alloc (.cells (chiArr n) T (0, 0)))) (base : Nat) (hb : base ≤ W.heap.size)
  (h : ∀ v w1, Kd.R (Kd.int .i64) T w1 base (fun _ => True) v (n :: List.replicate 343 (0 : Int)) → Below W.heap.size W w1 → wpList P ops Q rest (a.put o.dst (ptrOf v)) w1) : wpList P ops Q (o :: rest) a W :=
 Kd.event_run hgd hrun (h _ _ (chi_own (blk_new W _) hb) (below_alloc (Below.refl _ _) _))
end
end Go.Proofs.Ytckkfjdkaimmhaa.G
namespace Go.Proofs.Ytckkfjdkaimmhaa.PX
open Go.RowKit Go.Proofs.Ytckkfjdkaimmhaa.G Go.Proofs.YtckkfjdkaimmhaaW.PrintWords Go.Proofs.YtckkfjdkaimmhaaW.PrintLast Go.Proofs.YtckkfjdkaimmhaaW.PrintMore
attribute [local go_sem] max2_int min2_int max_two min_two max_three min_three max_four min_four   -- for this text's walks alone
set_option linter.unusedVariables false
set_option linter.unusedSimpArgs false
def errW : Option Int → Value
 | none => .nilIface
 | some c => .iface 0 (.int .i64 c)
theorem errW_none : errW none = .nilIface := rfl
theorem errW_some (c : Int) : errW (some c) = .iface 0 (.int .i64 c) := rfl
theorem info3 : (Try.prog.info? 3).map (fun i => (i.zero, i.size, i.bytes)) = some (some (.int .i64 0), 1, 8) := by kernel_rfl
theorem info5 : (Try.prog.info? 5).map (fun i => (i.zero, i.size, i.bytes)) = some (some (.int .u8 0), 1, 1) := by kernel_rfl
theorem info27 : (Try.prog.info? 27).map (fun i => (i.zero, i.size, i.bytes)) = some (some (.slice none 0 0), 1, 24) := by kernel_rfl
theorem info83 : (Try.prog.info? 83).map (fun i => (i.zero, i.size, i.bytes)) = some (some (.agg #[(.int .i64 0), (.int .i64 0)]), 2, 16) := by kernel_rfl
theorem info91 : (Try.prog.info? 91).map (fun i => (i.zero, i.size, i.bytes)) = some (some (.agg #[(.int .i64 0), (.int .i64 0), (.int .i64 0), (.int .i64 0)]), 4, 32) := by kernel_rfl
theorem info99 : (Try.prog.info? 99).map (fun i => (i.zero, i.size, i.bytes)) = some (some (.agg #[(.int .i64 0), (.int .i64 0), (.int .i64 0)]), 3, 24) := by kernel_rfl
/-! #### struct type 83 -/
structure S83 where
 f0 : Int
 f1 : Int
def z83 : S83 := ⟨(0 : Int), (0 : Int)⟩
def k83 : Kd S83 := Kd.iso (Kd.pair (Kd.int .i64) (Kd.int .i64)) (fun x : S83 => (x.f0, x.f1))
theorem k83_open {w : World} {x : S83} {cs : List Value} (h : k83.K w x cs) : cs = [.int .i64 x.f0, .int .i64 x.f1] := by
 obtain ⟨_, _, rfl, rfl, rfl⟩ := h
 exact rfl
theorem k83_mkM (w : World) (base : Nat) (ok : Nat → Prop) (x : S83)  : k83.M w base ok x [.int .i64 x.f0, .int .i64 x.f1] := ⟨[.int .i64 x.f0], [.int .i64 x.f1], rfl, rfl, rfl⟩
def rd_T83 (xs : List S83) (i : Int) : S83 := xs.getD i.toNat z83
theorem at_T83 {w : World} {A : Option Addr} {n : Nat} {xs : List S83} (h : Kd.C k83 w A n xs) (i : Int) (h0 : 0 ≤ i) (h1 : i < n) : ∃ ad , A = some ad ∧ w.cell? (ad.add (i.toNat * 2)) = some (.int .i64 (rd_T83 xs i).f0) ∧ w.cell? ⟨(ad.add (i.toNat * 2)).block, (ad.add (i.toNat * 2)).off + 1, none⟩ = some (.int .i64 (rd_T83 xs i).f1) := by
 obtain ⟨ad, c, e, _, hK, hc0⟩ := Kd.C_get h z83 i h0 h1
 have hc : ∀ j u, c[j]? = some u → w.cell? (ad.add (i.toNat * 2 + j)) = some u := hc0
 obtain rfl := k83_open hK
 exact ⟨ad, e, hc 0 _ rfl, by rw [← add_field _ _ 1 (by omega)]; exact hc 1 _ rfl⟩
/-! #### struct type 99 -/
structure S99 where
 f0 : Int
 f1 : Int
 f2 : Int
def z99 : S99 := ⟨(0 : Int), (0 : Int), (0 : Int)⟩
def k99 : Kd S99 := Kd.iso (Kd.pair (Kd.int .i64) (Kd.pair (Kd.int .i64) (Kd.int .i64))) (fun x : S99 => (x.f0, x.f1, x.f2))
theorem k99_open {w : World} {x : S99} {cs : List Value} (h : k99.K w x cs) : cs = [.int .i64 x.f0, .int .i64 x.f1, .int .i64 x.f2] := by
 obtain ⟨_, _, rfl, rfl, ⟨_, _, rfl, rfl, rfl⟩⟩ := h
 exact rfl
theorem k99_mkM (w : World) (base : Nat) (ok : Nat → Prop) (x : S99)  : k99.M w base ok x [.int .i64 x.f0, .int .i64 x.f1, .int .i64 x.f2] := ⟨[.int .i64 x.f0], [.int .i64 x.f1, .int .i64 x.f2], rfl, rfl, ⟨[.int .i64 x.f1], [.int .i64 x.f2], rfl, rfl, rfl⟩⟩
def rd_T99 (xs : List S99) (i : Int) : S99 := xs.getD i.toNat z99
theorem at_T99 {w : World} {A : Option Addr} {n : Nat} {xs : List S99} (h : Kd.C k99 w A n xs) (i : Int) (h0 : 0 ≤ i) (h1 : i < n) : ∃ ad , A = some ad ∧ w.cell? (ad.add (i.toNat * 3)) = some (.int .i64 (rd_T99 xs i).f0) ∧ w.cell? ⟨(ad.add (i.toNat * 3)).block, (ad.add (i.toNat * 3)).off + 1, none⟩ = some (.int .i64 (rd_T99 xs i).f1) ∧ w.cell? ⟨(ad.add (i.toNat * 3)).block, (ad.add (i.toNat * 3)).off + 2, none⟩ = some (.int .i64 (rd_T99 xs i).f2) := by
 obtain ⟨ad, c, e, _, hK, hc0⟩ := Kd.C_get h z99 i h0 h1
 have hc : ∀ j u, c[j]? = some u → w.cell? (ad.add (i.toNat * 3 + j)) = some u := hc0
 obtain rfl := k99_open hK
 exact ⟨ad, e, hc 0 _ rfl, by rw [← add_field _ _ 1 (by omega)]; exact hc 1 _ rfl, by rw [← add_field _ _ 2 (by omega)]; exact hc 2 _ rfl⟩
/-! #### struct type 91 -/
structure S91 where
 f0 : Int
 f1 : Int
 f2 : Int
 f3 : Int
def z91 : S91 := ⟨(0 : Int), (0 : Int), (0 : Int), (0 : Int)⟩
def k91 : Kd S91 := Kd.iso (Kd.pair (Kd.int .i64) (Kd.pair (Kd.int .i64) (Kd.pair (Kd.int .i64) (Kd.int .i64)))) (fun x : S91 => (x.f0, x.f1, x.f2, x.f3))
theorem k91_open {w : World} {x : S91} {cs : List Value} (h : k91.K w x cs) : cs = [.int .i64 x.f0, .int .i64 x.f1, .int .i64 x.f2, .int .i64 x.f3] := by
 obtain ⟨_, _, rfl, rfl, ⟨_, _, rfl, rfl, ⟨_, _, rfl, rfl, rfl⟩⟩⟩ := h
 exact rfl
theorem k91_mkM (w : World) (base : Nat) (ok : Nat → Prop) (x : S91)  : k91.M w base ok x [.int .i64 x.f0, .int .i64 x.f1, .int .i64 x.f2, .int .i64 x.f3] := ⟨[.int .i64 x.f0], [.int .i64 x.f1, .int .i64 x.f2, .int .i64 x.f3], rfl, rfl, ⟨[.int .i64 x.f1], [.int .i64 x.f2, .int .i64 x.f3], rfl, rfl, ⟨[.int .i64 x.f2], [.int .i64 x.f3], rfl, rfl, rfl⟩⟩⟩
def rd_T91 (xs : List S91) (i : Int) : S91 := xs.getD i.toNat z91
theorem at_T91 {w : World} {A : Option Addr} {n : Nat} {xs : List S91} (h : Kd.C k91 w A n xs) (i : Int) (h0 : 0 ≤ i) (h1 : i < n) : ∃ ad , A = some ad ∧ w.cell? (ad.add (i.toNat * 4)) = some (.int .i64 (rd_T91 xs i).f0) ∧ w.cell? ⟨(ad.add (i.toNat * 4)).block, (ad.add (i.toNat * 4)).off + 1, none⟩ = some (.int .i64 (rd_T91 xs i).f1) ∧ w.cell? ⟨(ad.add (i.toNat * 4)).block, (ad.add (i.toNat * 4)).off + 2, none⟩ = some (.int .i64 (rd_T91 xs i).f2) ∧ w.cell? ⟨(ad.add (i.toNat * 4)).block, (ad.add (i.toNat * 4)).off + 3, none⟩ = some (.int .i64 (rd_T91 xs i).f3) := by
 obtain ⟨ad, c, e, _, hK, hc0⟩ := Kd.C_get h z91 i h0 h1
 have hc : ∀ j u, c[j]? = some u → w.cell? (ad.add (i.toNat * 4 + j)) = some u := hc0
 obtain rfl := k91_open hK
 exact ⟨ad, e, hc 0 _ rfl, by rw [← add_field _ _ 1 (by omega)]; exact hc 1 _ rfl, by rw [← add_field _ _ 2 (by omega)]; exact hc 2 _ rfl, by rw [← add_field _ _ 3 (by omega)]; exact hc 3 _ rfl⟩
def rd_L6 (xs : List (List Int)) (i : Int) : (List Int) := xs.getD i.toNat ([] : List Int)
theorem at_L6 {w : World} {A : Option Addr} {n : Nat} {xs : List (List Int)} (h : Kd.C (Kd.slice 3 (Kd.int .i64)) w A n xs) (i : Int) (h0 : 0 ≤ i) (h1 : i < n) : ∃ ad A0 c0, A = some ad ∧ w.cell? (ad.add i.toNat) = some (.slice A0 (rd_L6 xs i).length c0) ∧ (rd_L6 xs i).length ≤ c0 ∧ (Kd.int .i64).C w A0 (rd_L6 xs i).length (rd_L6 xs i) := by
 obtain ⟨ad, c, e, _, hK, hc0⟩ := Kd.C_get h ([] : List Int) i h0 h1
 have hc : ∀ j u, c[j]? = some u → w.cell? (ad.add (i.toNat * 1 + j)) = some u := hc0
 obtain ⟨A0, c0, rfl, l0, g0⟩ := hK
 exact ⟨ad, A0, c0, e, by have hq := hc 0 _ rfl; rwa [Nat.mul_one, Nat.add_zero] at hq, l0, g0⟩
/-! ### impl_AreSigns: function 82 -/
mutual
def impl_AreSigns.j0 : Nat → Bool → Int → ByteArray → Option (Bool)
 | 0, _, _, _ => none
 | k + 1, x28, x255000, x255001 => if x28 = true then (some false) else (impl_AreSigns.l0 k 0 x255000 x255001)
def impl_AreSigns.l0 : Nat → Int → Int → ByteArray → Option (Bool)
 | 0, _, _, _ => none
 | k + 1, x3, x255000, x255001 => if x3 < (x255001.size : Int) then (if 0 ≤ x3 then (if (bt x255001 x3) = 43 then (impl_AreSigns.l0 k (wrap64 (x3 + 1)) x255000 x255001) else (if (bt x255001 x3) = 45 then (impl_AreSigns.l0 k (wrap64 (x3 + 1)) x255000 x255001) else (some false))) else (none)) else (some true)
end
def impl_AreSigns.f (k : Nat) (a0_0 : Int) (a0_1 : ByteArray) : Option (Bool) := if a0_0 < 3 then (impl_AreSigns.j0 k true a0_0 a0_1) else (if a0_0 > 7 then (impl_AreSigns.j0 k true a0_0 a0_1) else (impl_AreSigns.j0 k ((a0_1.size : Int) != (wrap64 (Int.tdiv (wrap64 ((wrap64 (a0_0 * (wrap64 (a0_0 - 1)))) * (wrap64 (a0_0 - 2)))) 6))) a0_0 a0_1))
set_option maxHeartbeats 8000000 in
set_option maxRecDepth 100000 in
theorem impl_AreSigns.calls (k : Nat) (a0_0 : Int) (a0_1 : ByteArray) (r : Bool) (w : World) (h : impl_AreSigns.f k a0_0 a0_1 = some r) :
  Calls Try.prog 82 #[.agg #[.int .i64 a0_0, .string a0_1]] w fun e w' => e = .returned (.bool r) ∧ Below w.heap.size w w' := by
 have hu25 := Try.underlying25
 have HB := Aside0.mk (Below.refl w.heap.size w)
 have H : (if a0_0 < 3 then (impl_AreSigns.j0 k true a0_0 a0_1) else (if a0_0 > 7 then (impl_AreSigns.j0 k true a0_0 a0_1) else (impl_AreSigns.j0 k ((a0_1.size : Int) != (wrap64 (Int.tdiv (wrap64 ((wrap64 (a0_0 * (wrap64 (a0_0 - 1)))) * (wrap64 (a0_0 - 2)))) 6))) a0_0 a0_1))) = some r := h
 clear h
 have HC2 := Aside0.mk H
 clear H
 go_enter Try.func82, Try.ntmps82
 go_upto_region 1 with (first | ((with_reducible refine gate_dst (N := 1) rfl ?_); (try (refine gate_guard (by rfl) ?_; dsimp only)); refine zBx (N := 1) #[.int .i64 a0_0, .string a0_1] 25 ?_; intro gb254 hg w3 hbox hb; have BK254 := Aside0.mk (hbox); have GW254 := zS hg; have GE254 := zS hg; replace HB := zX hb; clear hb hbox hg))
 (try simp only [Act.put, List.setIfInBounds_toArray, List.set_cons_zero, List.set_cons_succ])
 go_cut [28] (fun v28 wc => ∃ (kq : Nat) (x28_1 : Bool), v28 = .bool x28_1 ∧ Aside0 (impl_AreSigns.j0 kq x28_1 a0_0 a0_1 = some r) ∧ Aside0 (kq ≤ k) ∧ Aside0 (wc.heap[gb254]? = some (.cells #[.int .i64 a0_0, .string a0_1] 25 (0, 0))) ∧ Aside0 (Below w.heap.size w wc))
 case first =>
  have H := HC2.out
  clear HC2
  by_cases c4 : a0_0 < 3
  ·rw [if_pos c4] at H
   have c4b0 := decide_eq_true c4
   clear c4
   (first | rw [c4b0] | (simp only [i64_w, i32_w]; rw [c4b0]) | skip)
   have H' := Aside0.mk H; clear H
   obtain ⟨hcz5_0, hcz5_1, hfz5_0, hfz5_1⟩ := zq2 BK254.out
   go_wp2
   go_meet
   case rel => exact ⟨_, (true), zF, H', ⟨by first | omega | exact Nat.le_refl _⟩, ⟨zK BK254.out⟩, ⟨zG GE254.out⟩⟩
  rw [if_neg c4] at H
  have c4b0 := decide_eq_false c4
  clear c4
  (first | rw [c4b0] | (simp only [i64_w, i32_w]; rw [c4b0]) | skip)
  by_cases c6 : a0_0 > 7
  ·rw [if_pos c6] at H
   have c6b0 : decide (7 < a0_0) = true := decide_eq_true c6
   clear c6
   have H' := Aside0.mk H; clear H
   obtain ⟨hcz7_0, hcz7_1, hfz7_0, hfz7_1⟩ := zq2 BK254.out
   go_wp2
   go_meet
   case rel => exact ⟨_, (true), zF, H', ⟨by first | omega | exact Nat.le_refl _⟩, ⟨zK BK254.out⟩, ⟨zG GE254.out⟩⟩
  rw [if_neg c6] at H
  have c6b0 : decide (7 < a0_0) = false := decide_eq_false c6
  clear c6
  have H' := Aside0.mk H; clear H
  obtain ⟨hcz8_0, hcz8_1, hfz8_0, hfz8_1⟩ := zq2 BK254.out
  go_wp2
  go_meet
  case rel => exact ⟨_, (((a0_1.size : Int) != (wrap64 (Int.tdiv (wrap64 ((wrap64 (a0_0 * (wrap64 (a0_0 - 1)))) * (wrap64 (a0_0 - 2)))) 6)))), zF, H', ⟨by first | omega | exact Nat.le_refl _⟩, ⟨zK BK254.out⟩, ⟨zG GE254.out⟩⟩
 case rest =>
 clear HC2
 obtain ⟨kq, x28_1, rfl, HA, HJ1, BK254, HB⟩ := hcut
 cases kq with
 | zero => exact absurd HA.out (by simp [impl_AreSigns.j0])
 | succ kj1 =>
 have H := HA.out
 clear HA
 simp only [impl_AreSigns.j0] at H
 by_cases c9 : x28_1 = true
 ·subst c9
  replace H := (if_pos rfl).symm.trans H
  obtain rfl := Option.some.inj H
  go_wp2
  go_ret
  exact ⟨zE, zG GE254.out⟩
 replace c9 := Bool.eq_false_iff.mpr c9
 subst c9
 replace H := (if_neg zFf).symm.trans H
 have H' := Aside0.mk H; clear H
 go_wp2
 go_loopg [3] kj1 (fun kq v3 w' => ∃ (x3_2 : Int), v3 = .int .i64 x3_2 ∧ Aside0 (impl_AreSigns.l0 kq x3_2 a0_0 a0_1 = some r) ∧ Aside0 (kq ≤ kj1) ∧ Aside0 (w'.heap[gb254]? = some (.cells #[.int .i64 a0_0, .string a0_1] 25 (0, 0))) ∧ Aside0 (Below w.heap.size w w'))
 case atStart => exact ⟨(0), zF, H', ⟨Nat.le_refl _⟩, ⟨zK BK254.out⟩, ⟨zG GE254.out⟩⟩
 case round =>
 clear H'
 try clear c9
 obtain ⟨x3_2, rfl, HA, HK2, BK254, HB⟩ := hrel
 cases gk with
 | zero => exact absurd HA.out (by simp [impl_AreSigns.l0])
 | succ k2 =>
 have H := HA.out
 clear HA
 simp only [impl_AreSigns.l0] at H
 by_cases c10 : x3_2 < (a0_1.size : Int)
 ·rw [if_pos c10] at H
  have c10b0 := decide_eq_true c10
  clear c10
  by_cases c11 : 0 ≤ x3_2
  ·rw [if_pos c11] at H
   have c11b0 := decide_eq_true c11
   clear c11
   by_cases c13 : (bt a0_1 x3_2) = 43
   ·rw [if_pos c13] at H
    have c13b0 := beq_iff_eq.mpr c13
    have c13b1 := bne_eq_false_iff_eq.mpr c13
    clear c13
    have H' := Aside0.mk H; clear H
    obtain ⟨hcz14_0, hcz14_1, hfz14_0, hfz14_1⟩ := zq2 BK254.out
    have p12 : 0 ≤ (x3_2 : Int) := zA
    have q12 : x3_2 < (a0_1.size : Int) := zA
    have hx12 := bt_at a0_1 x3_2
    replace p12 := eq_true p12
    replace q12 := eq_true q12
    go_wp2
    go_roundg k2
    case measure => have := HJ1.out; have := HK2.out; omega
    case rel => exact ⟨(wrap64 (x3_2 + 1)), zF, H', ⟨by have := HJ1.out; have := HK2.out; omega⟩, ⟨zK BK254.out⟩, ⟨zG GE254.out⟩⟩
   rw [if_neg c13] at H
   have c13b0 := beq_eq_false_iff_ne.mpr c13
   have c13b1 := bne_iff_ne.mpr c13
   by_cases c16 : (bt a0_1 x3_2) = 45
   ·rw [if_pos c16] at H
    have c16b0 := beq_iff_eq.mpr c16
    have c16b1 := bne_eq_false_iff_eq.mpr c16
    clear c16
    have H' := Aside0.mk H; clear H
    obtain ⟨hcz17_0, hcz17_1, hfz17_0, hfz17_1⟩ := zq2 BK254.out
    have p12 : 0 ≤ (x3_2 : Int) := zA
    have q12 : x3_2 < (a0_1.size : Int) := zA
    have hx12 := bt_at a0_1 x3_2
    replace p12 := eq_true p12
    replace q12 := eq_true q12
    have p15 : 0 ≤ (x3_2 : Int) := zA
    have q15 : x3_2 < (a0_1.size : Int) := zA
    have hx15 := bt_at a0_1 x3_2
    replace p15 := eq_true p15
    replace q15 := eq_true q15
    go_wp2
    go_roundg k2
    case measure => have := HJ1.out; have := HK2.out; omega
    case rel => exact ⟨(wrap64 (x3_2 + 1)), zF, H', ⟨by have := HJ1.out; have := HK2.out; omega⟩, ⟨zK BK254.out⟩, ⟨zG GE254.out⟩⟩
   rw [if_neg c16] at H
   have c16b0 := beq_eq_false_iff_ne.mpr c16
   have c16b1 := bne_iff_ne.mpr c16
   obtain rfl := Option.some.inj H
   obtain ⟨hcz18_0, hcz18_1, hfz18_0, hfz18_1⟩ := zq2 BK254.out
   have p12 : 0 ≤ (x3_2 : Int) := zA
   have q12 : x3_2 < (a0_1.size : Int) := zA
   have hx12 := bt_at a0_1 x3_2
   replace p12 := eq_true p12
   replace q12 := eq_true q12
   have p15 : 0 ≤ (x3_2 : Int) := zA
   have q15 : x3_2 < (a0_1.size : Int) := zA
   have hx15 := bt_at a0_1 x3_2
   replace p15 := eq_true p15
   replace q15 := eq_true q15
   go_wp2
   go_ret
   exact ⟨zE, zG GE254.out⟩
  rw [if_neg c11] at H
  exact absurd H (by simp)
 rw [if_neg c10] at H
 have c10b0 := decide_eq_false c10
 clear c10
 obtain rfl := Option.some.inj H
 obtain ⟨hcz19_0, hcz19_1, hfz19_0, hfz19_1⟩ := zq2 BK254.out
 go_wp2
 go_ret
 exact ⟨zE, zG GE254.out⟩
end Go.Proofs.Ytckkfjdkaimmhaa.PX
namespace Go.Proofs.Ytckkfjdkaimmhaa.G
open Go.RowKit Go.Proofs.YtckkfjdkaimmhaaW.PrintWords Go.Proofs.YtckkfjdkaimmhaaW.PrintLast Go.Proofs.YtckkfjdkaimmhaaW.PrintMore
set_option linter.unusedVariables false
set_option linter.unusedSimpArgs false
def ix3 (i j k : Nat) : Nat := 1 + i * 49 + j * 7 + k
def set6 (l : List Int) (i j k : Nat) (s : Int) : List Int := (((((l.set (ix3 i j k) s).set (ix3 j k i) s).set (ix3 k i j) s).set (ix3 i k j) (-s)).set (ix3 k j i) (-s)).set (ix3 j i k) (-s)
def impl_chi_set.f (l : List Int) (a1 a2 a3 a4 : Int) : Option (List Int) := if l.length = 344 ∧ (0 ≤ a1 ∧ a1 < 7) ∧ (0 ≤ a2 ∧ a2 < 7) ∧ (0 ≤ a3 ∧ a3 < 7) ∧ -1 ≤ a4 ∧ a4 ≤ 1 then some (set6 l a1.toNat a2.toNat a3.toNat a4) else none
theorem chi_put {w : World} {base g cap T m : Nat} {ok : Nat → Prop} {l : List Int} (h : Kd.R (Kd.int .i64) T w base ok (.slice (some ⟨g, 0, none⟩) l.length cap) l) (hm : m < l.length) (x : Int) :
  w.cell? ⟨g, m, none⟩ = some (.int .i64 (l.getD m 0)) ∧ w.frozen? ⟨g, m, none⟩ = false ∧ Kd.R (Kd.int .i64) T (w.setCell ⟨g, m, none⟩ (.int .i64 x)) base ok (.slice (some ⟨g, 0, none⟩) (l.set m x).length cap) (l.set m x) ∧ w.grownBy (w.setCell ⟨g, m, none⟩ (.int .i64 x)) (some g) := by
 have h1 := Kd.R_cell (enc := Value.int .i64) (h1 := fun _ => rfl) (0 : Int) h (m : Int) (by omega) (by omega)
 have h2 := Kd.R_put (enc := Value.int .i64) (h1 := fun _ => rfl) h (m : Int) x
 simp only [Int.toNat_natCast] at h1 h2
 exact ⟨h1.1, h1.2, by rw [List.length_set]; exact h2.1, h2.2⟩
def impl_chi_set.T0 : Bool × List (List Nat × List Nat) := (true, [([], []), ([], []), ([], []), ([], []), ([], []), ([], []), ([], []), ([], []), ([], []), ([], []), ([], []), ([], []), ([], []), ([], []), ([], []), ([0], [0]), ([15], [15]), ([16, 1], [1, 16]), ([17, 2], [2, 17]), ([18, 3, 0, 1, 2, 3, 12], [3, 18]), ([19, 12, 0, 1, 2, 3, 12], [12, 19]), ([4], [4]), ([21], [21]), ([22, 5], [5, 22]), ([23, 6], [6, 23]), ([24, 7, 0, 1, 2, 3, 4, 5, 6, 7, 12, 13, 15, 16, 17, 18, 19, 20], [7, 24]), ([25, 13, 20, 0, 1, 2, 3, 4, 5, 6, 7, 12, 13, 15, 16, 17, 18, 19, 20], [13, 25]), ([8], [8]), ([27], [27]), ([28, 9], [9, 28]), ([29, 10], [10, 29]), ([30, 11, 0, 1, 2, 3, 4, 5, 6, 7, 8, 9, 10, 11, 12, 13, 14, 15, 16, 17, 18, 19, 20, 21, 22, 23, 24, 25, 26], [11, 30]), ([31, 14, 26, 0, 1, 2, 3, 4, 5, 6, 7, 8, 9, 10, 11, 12, 13, 14, 15, 16, 17, 18, 19, 20, 21, 22, 23, 24, 25, 26], [14, 31])])
def impl_chi_set.B0 : List Nat := [0, 0, 0, 0, 0, 0, 0, 0, 0, 0, 0, 0, 0, 0, 0, 1, 32769, 98307, 229383, 495631, 1019919, 16, 2097168, 6291504, 14680176, 33534207, 67088639, 256, 134217984, 402653952, 939525888, 2147483647, 4294967295]
theorem impl_chi_set.tab0 : rtab .any (opsOf Try.f142 0) = impl_chi_set.T0 := by kernel_rfl
theorem impl_chi_set.bits0 : waitsOk impl_chi_set.T0.2 impl_chi_set.B0 = true := by kernel_rfl
def impl_chi_set.T1 : Bool × List (List Nat × List Nat) := (true, [([], []), ([], []), ([], []), ([], []), ([], []), ([], []), ([], []), ([], []), ([], []), ([], []), ([], []), ([], []), ([], []), ([12], [12]), ([], []), ([14], [14]), ([], []), ([16], [16]), ([0], [0]), ([18], [18]), ([19, 1], [1, 19]), ([20, 2], [2, 20]), ([21, 3, 0, 1, 2, 3, 12, 13], [3, 21]), ([22, 13, 0, 1, 2, 3, 12, 13], [13, 22]), ([4], [4]), ([24], [24]), ([25, 5], [5, 25]), ([26, 6], [6, 26]), ([27, 7, 0, 1, 2, 3, 4, 5, 6, 7, 12, 13, 14, 15, 18, 19, 20, 21, 22, 23], [7, 27]), ([28, 15, 23, 0, 1, 2, 3, 4, 5, 6, 7, 12, 13, 14, 15, 18, 19, 20, 21, 22, 23], [15, 28]), ([8], [8]), ([30], [30]), ([31, 9], [9, 31]), ([32, 10], [10, 32]), ([33, 11, 0, 1, 2, 3, 4, 5, 6, 7, 8, 9, 10, 11, 12, 13, 14, 15, 16, 17, 18, 19, 20, 21, 22, 23, 24, 25, 26, 27, 28, 29], [11, 33]), ([34, 17, 29, 0, 1, 2, 3, 4, 5, 6, 7, 8, 9, 10, 11, 12, 13, 14, 15, 16, 17, 18, 19, 20, 21, 22, 23, 24, 25, 26, 27, 28, 29], [17, 34])])
def impl_chi_set.B1 : List Nat := [0, 0, 0, 0, 0, 0, 0, 0, 0, 0, 0, 0, 0, 4096, 0, 16384, 0, 65536, 1, 262145, 786435, 1835015, 3944463, 8138767, 16, 16777232, 50331696, 117440624, 268235007, 536670463, 256, 1073742080, 3221226240, 7516194560, 17179869183, 34359738367]
theorem impl_chi_set.tab1 : rtab .any (opsOf Try.f142 1) = impl_chi_set.T1 := by kernel_rfl
theorem impl_chi_set.bits1 : waitsOk impl_chi_set.T1.2 impl_chi_set.B1 = true := by kernel_rfl
set_option maxHeartbeats 8000000 in
set_option maxRecDepth 100000 in
theorem impl_chi_set.walk (g cap i j k : Nat) (s : Int) (l0 : List Int) (P0_ : Nat → Prop) (w0 w : World) (hlen : l0.length = 344) (hi : i < 7) (hj : j < 7) (hk : k < 7) (hs0 : -1 ≤ s) (hs1 : s ≤ 1) (HO : Kd.R (Kd.int .i64) 115 w w0.heap.size P0_ (.slice (some ⟨g, 0, none⟩) l0.length cap) l0) :
  Calls Try.prog 142 #[.pointer (some ⟨g, 0, none⟩), .int .i64 i, .int .i64 j, .int .i64 k, .int .i64 s] w fun e w' => e = .returned (.tuple #[]) ∧ Kd.R (Kd.int .i64) 115 w' w0.heap.size P0_ (.slice (some ⟨g, 0, none⟩) (set6 l0 i j k s).length cap) (set6 l0 i j k s) ∧ w.grownBy w' (some g) := by
 have hu115 := Try.underlying115
 have hu113 := Try.underlying113
 have hu112 := Try.underlying112
 have hu111 := Try.underlying111
 have HO := Aside0.mk HO
 have HG := Aside0.mk (World.grownBy.refl w (some g))
 have HL := Aside0.mk hlen
 clear hlen
 have hi_ : ((i : Int) < 7) = True := eq_true (by omega)
 have hj_ : ((j : Int) < 7) = True := eq_true (by omega)
 have hk_ : ((k : Int) < 7) = True := eq_true (by omega)
 go_enter Try.func142, Try.ntmps142
 go_wp2
 refine start_ (n := 33) (S := fun _ => True) (ds := []) #[false, false, false, false, false, false, false, false, false, false, false, false, false, false, false, false, false, false, false, false, false, false, false, false, false, false, false, false, false, false, false, false, false] (by kernel_rfl) rfl rfl trivial (fun hHeld => ?_); refine with_tabW impl_chi_set.tab0 impl_chi_set.bits0 (fun HT_ HW_ => ?_)
 generalize hw_ : World.drew _ = wz0 at hHeld ⊢
 have HO : Aside0 (Kd.R (Kd.int .i64) 115 wz0 w0.heap.size P0_ (.slice (some ⟨g, 0, none⟩) l0.length cap) l0) := ⟨by rw [← hw_]; exact Kd.R_drew HO.out⟩
 have HG : Aside0 (w.grownBy wz0 (some g)) := ⟨by rw [← hw_]; exact ⟨HG.out.os, HG.out.tape, HG.out.output, HG.out.size, HG.out.block⟩⟩
 clear hw_
 refine zP 0 (some 10) rfl rfl ?_
 refine zP 1 (some 11) rfl rfl ?_
 refine zP 2 (some 12) rfl rfl ?_
 refine zP 3 (some 13) rfl rfl ?_
 refine zP 4 (some 14) rfl rfl ?_
 refine zP 5 (some 15) rfl rfl ?_
 refine zP 6 (some 16) rfl rfl ?_
 refine zP 7 (some 17) rfl rfl ?_
 refine zP 8 (some 18) rfl rfl ?_
 refine zP 9 (some 19) rfl rfl ?_
 refine zP 10 (some 20) rfl rfl ?_
 refine zP 11 (some 21) rfl rfl ?_
 refine zP 12 (some 22) rfl rfl ?_
 refine zP 13 (some 23) rfl rfl ?_
 refine zP 14 (some 24) rfl rfl ?_
 refine zP 15 (some 25) rfl rfl ?_
 refine zP 16 (some 26) rfl rfl ?_
 refine zP 17 (some 27) rfl rfl ?_
 refine zP 18 (some 28) rfl rfl ?_
 refine zP 19 (some 29) rfl rfl ?_
 refine zP 21 (some 30) rfl rfl ?_
 refine zP 22 (some 31) rfl rfl ?_
 refine zP 23 (some 32) rfl rfl ?_
 refine zP 24 (some 33) rfl rfl ?_
 refine zP 27 (some 35) rfl rfl ?_
 refine zP 28 (some 36) rfl rfl ?_
 refine zP 29 (some 37) rfl rfl ?_
 refine zP 30 (some 38) rfl rfl ?_
 obtain ⟨hc_, hf_, ho_, hg_⟩ := chi_put HO.out (m := (ix3 i j k)) (by have := HL.out; (try simp only [List.length_set]); unfold ix3; omega) s
 have ho_ := Aside0.mk ho_
 have hg_ := Aside0.mk (World.grownBy.trans HG.out hg_)
 unfold ix3 at hc_ hf_
 refine zU 20 none rfl rfl (fun K hK => ?_)
 go_simp
 refine hK.out _ _ trivial (fun _ => ?_)
 clear hK K hc_ hf_
 have HO2 : Aside0 (Kd.R (Kd.int .i64) 115 _ w0.heap.size P0_ (.slice (some ⟨g, 0, none⟩) (l0.set (ix3 i j k) s).length cap) (l0.set (ix3 i j k) s)) := ho_
 generalize hw_ : World.setCell wz0 _ _ = wz1
 replace HO : Aside0 (Kd.R (Kd.int .i64) 115 wz1 w0.heap.size P0_ (.slice (some ⟨g, 0, none⟩) (l0.set (ix3 i j k) s).length cap) (l0.set (ix3 i j k) s)) := ⟨by rw [← hw_]; exact HO2.out⟩
 replace HG : Aside0 (w.grownBy wz1 (some g)) := ⟨by rw [← hw_]; exact hg_.out⟩
 clear hw_ ho_ hg_ HO2
 refine zP 25 (some 34) rfl rfl ?_
 obtain ⟨hc_, hf_, ho_, hg_⟩ := chi_put HO.out (m := (ix3 j k i)) (by have := HL.out; (try simp only [List.length_set]); unfold ix3; omega) s
 have ho_ := Aside0.mk ho_
 have hg_ := Aside0.mk (World.grownBy.trans HG.out hg_)
 unfold ix3 at hc_ hf_
 refine zU 26 none rfl rfl (fun K hK => ?_)
 go_simp
 refine hK.out _ _ trivial (fun _ => ?_)
 clear hK K hc_ hf_
 have HO2 : Aside0 (Kd.R (Kd.int .i64) 115 _ w0.heap.size P0_ (.slice (some ⟨g, 0, none⟩) ((l0.set (ix3 i j k) s).set (ix3 j k i) s).length cap) ((l0.set (ix3 i j k) s).set (ix3 j k i) s)) := ho_
 generalize hw_ : World.setCell wz1 _ _ = wz2
 replace HO : Aside0 (Kd.R (Kd.int .i64) 115 wz2 w0.heap.size P0_ (.slice (some ⟨g, 0, none⟩) ((l0.set (ix3 i j k) s).set (ix3 j k i) s).length cap) ((l0.set (ix3 i j k) s).set (ix3 j k i) s)) := ⟨by rw [← hw_]; exact HO2.out⟩
 replace HG : Aside0 (w.grownBy wz2 (some g)) := ⟨by rw [← hw_]; exact hg_.out⟩
 clear hw_ ho_ hg_ HO2
 refine zP 31 (some 39) rfl rfl ?_
 obtain ⟨hc_, hf_, ho_, hg_⟩ := chi_put HO.out (m := (ix3 k i j)) (by have := HL.out; (try simp only [List.length_set]); unfold ix3; omega) s
 have ho_ := Aside0.mk ho_
 have hg_ := Aside0.mk (World.grownBy.trans HG.out hg_)
 unfold ix3 at hc_ hf_
 refine zU 32 none rfl rfl (fun K hK => ?_)
 go_simp
 refine hK.out _ _ trivial (fun _ => ?_)
 clear hK K hc_ hf_
 have HO2 : Aside0 (Kd.R (Kd.int .i64) 115 _ w0.heap.size P0_ (.slice (some ⟨g, 0, none⟩) (((l0.set (ix3 i j k) s).set (ix3 j k i) s).set (ix3 k i j) s).length cap) (((l0.set (ix3 i j k) s).set (ix3 j k i) s).set (ix3 k i j) s)) := ho_
 generalize hw_ : World.setCell wz2 _ _ = wz3
 replace HO : Aside0 (Kd.R (Kd.int .i64) 115 wz3 w0.heap.size P0_ (.slice (some ⟨g, 0, none⟩) (((l0.set (ix3 i j k) s).set (ix3 j k i) s).set (ix3 k i j) s).length cap) (((l0.set (ix3 i j k) s).set (ix3 j k i) s).set (ix3 k i j) s)) := ⟨by rw [← hw_]; exact HO2.out⟩
 replace HG : Aside0 (w.grownBy wz3 (some g)) := ⟨by rw [← hw_]; exact hg_.out⟩
 clear hw_ ho_ hg_ HO2
 refine done_ (done_of HT_.out (by kernel_rfl)) ?_
 go_wp2
 refine start_ (n := 36) (S := fun _ => True) (ds := []) #[false, false, false, false, false, false, false, false, false, false, false, false, false, false, false, false, false, false, false, false, false, false, false, false, false, false, false, false, false, false, false, false, false, false, false, false] (by kernel_rfl) rfl rfl trivial (fun hHeld => ?_); refine with_tabW impl_chi_set.tab1 impl_chi_set.bits1 (fun HT_ HW_ => ?_)
 generalize hw_ : World.drew _ = wz4 at hHeld ⊢
 have HO : Aside0 (Kd.R (Kd.int .i64) 115 wz4 w0.heap.size P0_ (.slice (some ⟨g, 0, none⟩) (((l0.set (ix3 i j k) s).set (ix3 j k i) s).set (ix3 k i j) s).length cap) (((l0.set (ix3 i j k) s).set (ix3 j k i) s).set (ix3 k i j) s)) := ⟨by rw [← hw_]; exact Kd.R_drew HO.out⟩
 have HG : Aside0 (w.grownBy wz4 (some g)) := ⟨by rw [← hw_]; exact ⟨HG.out.os, HG.out.tape, HG.out.output, HG.out.size, HG.out.block⟩⟩
 clear hw_
 refine zP 0 (some 40) rfl rfl ?_
 refine zP 1 (some 41) rfl rfl ?_
 refine zP 2 (some 42) rfl rfl ?_
 refine zP 3 (some 43) rfl rfl ?_
 refine zP 4 (some 44) rfl rfl ?_
 refine zP 5 (some 45) rfl rfl ?_
 refine zP 6 (some 46) rfl rfl ?_
 refine zP 7 (some 47) rfl rfl ?_
 refine zP 8 (some 48) rfl rfl ?_
 refine zP 9 (some 49) rfl rfl ?_
 refine zP 10 (some 50) rfl rfl ?_
 refine zP 11 (some 51) rfl rfl ?_
 refine zP 12 (some 52) rfl rfl ?_
 refine zP 13 (some 53) rfl rfl ?_
 refine zP 14 (some 54) rfl rfl ?_
 refine zP 15 (some 55) rfl rfl ?_
 refine zP 16 (some 56) rfl rfl ?_
 refine zP 17 (some 57) rfl rfl ?_
 refine zP 18 (some 58) rfl rfl ?_
 refine zP 19 (some 59) rfl rfl ?_
 refine zP 20 (some 60) rfl rfl ?_
 refine zP 21 (some 61) rfl rfl ?_
 refine zP 22 (some 62) rfl rfl ?_
 refine zP 24 (some 63) rfl rfl ?_
 refine zP 25 (some 64) rfl rfl ?_
 refine zP 26 (some 65) rfl rfl ?_
 refine zP 27 (some 66) rfl rfl ?_
 refine zP 30 (some 68) rfl rfl ?_
 refine zP 31 (some 69) rfl rfl ?_
 refine zP 32 (some 70) rfl rfl ?_
 refine zP 33 (some 71) rfl rfl ?_
 obtain ⟨hc_, hf_, ho_, hg_⟩ := chi_put HO.out (m := (ix3 i k j)) (by have := HL.out; (try simp only [List.length_set]); unfold ix3; omega) (-s)
 have ho_ := Aside0.mk ho_
 have hg_ := Aside0.mk (World.grownBy.trans HG.out hg_)
 unfold ix3 at hc_ hf_
 refine zU 23 none rfl rfl (fun K hK => ?_)
 go_simp
 refine hK.out _ _ trivial (fun _ => ?_)
 clear hK K hc_ hf_
 have HO2 : Aside0 (Kd.R (Kd.int .i64) 115 _ w0.heap.size P0_ (.slice (some ⟨g, 0, none⟩) ((((l0.set (ix3 i j k) s).set (ix3 j k i) s).set (ix3 k i j) s).set (ix3 i k j) (-s)).length cap) ((((l0.set (ix3 i j k) s).set (ix3 j k i) s).set (ix3 k i j) s).set (ix3 i k j) (-s))) := ho_
 generalize hw_ : World.setCell wz4 _ _ = wz5
 rw [show wrap64 (-s) = -s by unfold wrap64; omega] at hw_
 replace HO : Aside0 (Kd.R (Kd.int .i64) 115 wz5 w0.heap.size P0_ (.slice (some ⟨g, 0, none⟩) ((((l0.set (ix3 i j k) s).set (ix3 j k i) s).set (ix3 k i j) s).set (ix3 i k j) (-s)).length cap) ((((l0.set (ix3 i j k) s).set (ix3 j k i) s).set (ix3 k i j) s).set (ix3 i k j) (-s))) := ⟨by rw [← hw_]; exact HO2.out⟩
 replace HG : Aside0 (w.grownBy wz5 (some g)) := ⟨by rw [← hw_]; exact hg_.out⟩
 clear hw_ ho_ hg_ HO2
 refine zP 28 (some 67) rfl rfl ?_
 obtain ⟨hc_, hf_, ho_, hg_⟩ := chi_put HO.out (m := (ix3 k j i)) (by have := HL.out; (try simp only [List.length_set]); unfold ix3; omega) (-s)
 have ho_ := Aside0.mk ho_
 have hg_ := Aside0.mk (World.grownBy.trans HG.out hg_)
 unfold ix3 at hc_ hf_
 refine zU 29 none rfl rfl (fun K hK => ?_)
 go_simp
 refine hK.out _ _ trivial (fun _ => ?_)
 clear hK K hc_ hf_
 have HO2 : Aside0 (Kd.R (Kd.int .i64) 115 _ w0.heap.size P0_ (.slice (some ⟨g, 0, none⟩) (((((l0.set (ix3 i j k) s).set (ix3 j k i) s).set (ix3 k i j) s).set (ix3 i k j) (-s)).set (ix3 k j i) (-s)).length cap) (((((l0.set (ix3 i j k) s).set (ix3 j k i) s).set (ix3 k i j) s).set (ix3 i k j) (-s)).set (ix3 k j i) (-s))) := ho_
 generalize hw_ : World.setCell wz5 _ _ = wz6
 rw [show wrap64 (-s) = -s by unfold wrap64; omega] at hw_
 replace HO : Aside0 (Kd.R (Kd.int .i64) 115 wz6 w0.heap.size P0_ (.slice (some ⟨g, 0, none⟩) (((((l0.set (ix3 i j k) s).set (ix3 j k i) s).set (ix3 k i j) s).set (ix3 i k j) (-s)).set (ix3 k j i) (-s)).length cap) (((((l0.set (ix3 i j k) s).set (ix3 j k i) s).set (ix3 k i j) s).set (ix3 i k j) (-s)).set (ix3 k j i) (-s))) := ⟨by rw [← hw_]; exact HO2.out⟩
 replace HG : Aside0 (w.grownBy wz6 (some g)) := ⟨by rw [← hw_]; exact hg_.out⟩
 clear hw_ ho_ hg_ HO2
 refine zP 34 (some 72) rfl rfl ?_
 obtain ⟨hc_, hf_, ho_, hg_⟩ := chi_put HO.out (m := (ix3 j i k)) (by have := HL.out; (try simp only [List.length_set]); unfold ix3; omega) (-s)
 have ho_ := Aside0.mk ho_
 have hg_ := Aside0.mk (World.grownBy.trans HG.out hg_)
 unfold ix3 at hc_ hf_
 refine zU 35 none rfl rfl (fun K hK => ?_)
 go_simp
 refine hK.out _ _ trivial (fun _ => ?_)
 clear hK K hc_ hf_
 have HO2 : Aside0 (Kd.R (Kd.int .i64) 115 _ w0.heap.size P0_ (.slice (some ⟨g, 0, none⟩) ((((((l0.set (ix3 i j k) s).set (ix3 j k i) s).set (ix3 k i j) s).set (ix3 i k j) (-s)).set (ix3 k j i) (-s)).set (ix3 j i k) (-s)).length cap) ((((((l0.set (ix3 i j k) s).set (ix3 j k i) s).set (ix3 k i j) s).set (ix3 i k j) (-s)).set (ix3 k j i) (-s)).set (ix3 j i k) (-s))) := ho_
 generalize hw_ : World.setCell wz6 _ _ = wz7
 rw [show wrap64 (-s) = -s by unfold wrap64; omega] at hw_
 replace HO : Aside0 (Kd.R (Kd.int .i64) 115 wz7 w0.heap.size P0_ (.slice (some ⟨g, 0, none⟩) ((((((l0.set (ix3 i j k) s).set (ix3 j k i) s).set (ix3 k i j) s).set (ix3 i k j) (-s)).set (ix3 k j i) (-s)).set (ix3 j i k) (-s)).length cap) ((((((l0.set (ix3 i j k) s).set (ix3 j k i) s).set (ix3 k i j) s).set (ix3 i k j) (-s)).set (ix3 k j i) (-s)).set (ix3 j i k) (-s))) := ⟨by rw [← hw_]; exact HO2.out⟩
 replace HG : Aside0 (w.grownBy wz7 (some g)) := ⟨by rw [← hw_]; exact hg_.out⟩
 clear hw_ ho_ hg_ HO2
 refine done_ (done_of HT_.out (by kernel_rfl)) ?_
 go_wp2
 go_end0
 exact ⟨rfl, HO.out, HG.out⟩
theorem set6_length (l : List Int) (i j k : Nat) (s : Int) : (set6 l i j k s).length = l.length := by simp only [set6, List.length_set]
theorem impl_chi_set.calls (P0_ : Nat → Prop) (u9000_ : Value) (l0 : List Int) (a1 : Int) (a2 : Int) (a3 : Int) (a4 : Int) (r : List Int) (w0 w : World) (hB : Below w0.heap.size w0 w) (ho0 : Kd.R (Kd.int .i64) 115 w w0.heap.size P0_ u9000_ l0) (h : impl_chi_set.f l0 a1 a2 a3 a4 = some r) :
  Calls Try.prog 142 #[ptrOf u9000_, .int .i64 a1, .int .i64 a2, .int .i64 a3, .int .i64 a4] w fun e w' => e = .returned (.tuple #[]) ∧ Kd.R (Kd.int .i64) 115 w' w0.heap.size (fun k_ => (P0_ k_ ∨ w.heap.size ≤ k_)) u9000_ r ∧ Below w0.heap.size w0 w' ∧ Kept w w' (fun k_ => P0_ k_) := by
 unfold impl_chi_set.f at h
 by_cases hc : l0.length = 344 ∧ (0 ≤ a1 ∧ a1 < 7) ∧ (0 ≤ a2 ∧ a2 < 7) ∧ (0 ≤ a3 ∧ a3 < 7) ∧ -1 ≤ a4 ∧ a4 ≤ 1
 ·rw [if_pos hc] at h
  obtain ⟨hl, ⟨h10, h11⟩, ⟨h20, h21⟩, ⟨h30, h31⟩, h40, h41⟩ := hc
  obtain rfl := Option.some.inj h
  obtain ⟨g, cap, rfl, hb, hlt, _⟩ := Kd.R_form ho0 (by omega)
  obtain ⟨i, rfl⟩ := Int.eq_ofNat_of_zero_le h10
  obtain ⟨j, rfl⟩ := Int.eq_ofNat_of_zero_le h20
  obtain ⟨k, rfl⟩ := Int.eq_ofNat_of_zero_le h30
  simp only [Int.toNat_natCast]
  refine (impl_chi_set.walk g cap i j k a4 l0 P0_ w0 w hl (by omega) (by omega) (by omega) h40 h41 ho0).mono ?_
  rintro e w' ⟨rfl, ho, hg⟩
  have hP : P0_ g := ho0.1 g rfl
  rw [set6_length] at ho
  exact ⟨rfl, Kd.R_mono ho (fun _ hk => Or.inl hk), hB.grown hg hB.size (fun k hk => by injection hk with hk; omega), hg.size, fun i hi hn => hg.block i hi (by intro e; injection e with e; subst e; exact hn hP)⟩
 rw [if_neg hc] at h
 cases h
end Go.Proofs.Ytckkfjdkaimmhaa.G
namespace Go.Proofs.Ytckkfjdkaimmhaa.PX
open Go.RowKit Go.Proofs.Ytckkfjdkaimmhaa.G Go.Proofs.YtckkfjdkaimmhaaW.PrintWords Go.Proofs.YtckkfjdkaimmhaaW.PrintLast Go.Proofs.YtckkfjdkaimmhaaW.PrintMore
attribute [local go_sem] max2_int min2_int max_two min_two max_three min_three max_four min_four   -- for this text's walks alone
set_option linter.unusedVariables false
set_option linter.unusedSimpArgs false
/-! ### impl_triplesOf: function 118 -/
mutual
def impl_triplesOf.l0 : Nat → Int → List (S99) → Int → Option ((List (S99)))
 | 0, _, _, _ => none
 | k + 1, x0, x3, x4 => if x4 < x0 then (impl_triplesOf.l1 k x0 x3 x4 (wrap64 (x4 + 1))) else (some x3)
def impl_triplesOf.l1 : Nat → Int → List (S99) → Int → Int → Option ((List (S99)))
 | 0, _, _, _, _ => none
 | k + 1, x0, x3, x4, x5 => if x5 < x0 then (impl_triplesOf.l2 k x0 x3 x4 x5 (wrap64 (x5 + 1))) else (impl_triplesOf.l0 k x0 x3 (wrap64 (x4 + 1)))
def impl_triplesOf.l2 : Nat → Int → List (S99) → Int → Int → Int → Option ((List (S99)))
 | 0, _, _, _, _, _ => none
 | k + 1, x0, x3, x4, x5, x6 => if x6 < x0 then (if x3.length < 5864062014805 then (impl_triplesOf.l2 k x0 (x3 ++ [(⟨x4, x5, x6⟩ : S99)]) x4 x5 (wrap64 (x6 + 1))) else (none)) else (impl_triplesOf.l1 k x0 x3 x4 (wrap64 (x5 + 1)))
end
def impl_triplesOf.f (k : Nat) (a0 : Int) : Option ((List (S99))) := impl_triplesOf.l0 k a0 ([] : List (S99)) 0
theorem impl_triplesOf.mono_l : ∀ k, (∀ y0 y1 y2, LeO (impl_triplesOf.l0 k y0 y1 y2) (impl_triplesOf.l0 (k + 1) y0 y1 y2)) ∧ (∀ y0 y1 y2 y3, LeO (impl_triplesOf.l1 k y0 y1 y2 y3) (impl_triplesOf.l1 (k + 1) y0 y1 y2 y3)) ∧ (∀ y0 y1 y2 y3 y4, LeO (impl_triplesOf.l2 k y0 y1 y2 y3 y4) (impl_triplesOf.l2 (k + 1) y0 y1 y2 y3 y4))
 | 0 => ⟨fun _ _ _ r h => by simp [impl_triplesOf.l0] at h, fun _ _ _ _ r h => by simp [impl_triplesOf.l1] at h, fun _ _ _ _ _ r h => by simp [impl_triplesOf.l2] at h⟩
 | k + 1 => by
  obtain ⟨ih0, ih1, ih2⟩ := impl_triplesOf.mono_l k
  refine ⟨?_, ?_, ?_⟩ <;> intros <;> (first | unfold impl_triplesOf.l0 | unfold impl_triplesOf.l1 | unfold impl_triplesOf.l2) <;> repeat' first
  | (with_reducible first | exact ih0 .. | exact ih1 .. | exact ih2 .. | exact LeO.refl _ | exact LeO.none _ | refine LeO.ite ?_ ?_ | refine LeO.bind ?_ (fun _ => ?_))
  | exact ih0 .. | exact ih1 .. | exact ih2 .. | exact LeO.none _ | refine LeO.ite ?_ ?_ | refine LeO.bind ?_ (fun _ => ?_)
theorem impl_triplesOf.mono : ∀ a0 k, LeO (impl_triplesOf.f k a0) (impl_triplesOf.f (k + 1) a0) := by
 intro a0 k
 obtain ⟨ih0, ih1, ih2⟩ := impl_triplesOf.mono_l k
 unfold impl_triplesOf.f
 repeat' first
   | (with_reducible first | exact ih0 .. | exact ih1 .. | exact ih2 .. | exact LeO.refl _ | exact LeO.none _ | refine LeO.ite ?_ ?_ | refine LeO.bind ?_ (fun _ => ?_))
   | exact ih0 .. | exact ih1 .. | exact ih2 .. | exact LeO.none _ | refine LeO.ite ?_ ?_ | refine LeO.bind ?_ (fun _ => ?_)
set_option maxHeartbeats 8000000 in
set_option maxRecDepth 100000 in
theorem impl_triplesOf.calls (k : Nat) (a0 : Int) (r : List (S99)) (w : World) (h : impl_triplesOf.f k a0 = some r) :
  Calls Try.prog 118 #[.int .i64 a0] w fun e w' => ∃ v0_ : Value, e = .returned (v0_) ∧ Kd.R k99 99 w' w.heap.size (fun _ => True) v0_ r ∧ Below w.heap.size w w' := by
 have hu99 := Try.underlying99
 have HB := Aside0.mk (Below.refl w.heap.size w)
 have H : (impl_triplesOf.l0 k a0 ([] : List (S99)) 0) = some r := h
 clear h
 have H' := Aside0.mk H; clear H
 go_enter Try.func118, Try.ntmps118
 go_wp2
 go_loopg [3, 4] k (fun kq v3 v4 w' => ∃ (x3_1 : List (S99)) (x4_1 : Int), v4 = .int .i64 x4_1 ∧ Aside0 (impl_triplesOf.l0 kq a0 x3_1 x4_1 = some r) ∧ Aside0 (kq ≤ k) ∧ Aside0 (Kd.R k99 99 w' w.heap.size (fun _ => True) v3 x3_1) ∧ Aside0 (Below w.heap.size w w'))
 case atStart => exact ⟨(([] : List (S99))), (0), zF, H', ⟨Nat.le_refl _⟩, ⟨by first | exact Kd.R_nil _ _ _ _ _ | exact Kd.N_nil _ _ _ _ _ | exact Kd.V_nil _ _ _ _ _ | exact Kd.Q_nil _ _ _ _ _ | exact Kd.S_nil _ _ _ _ _⟩, ⟨zB⟩⟩
 case round =>
 clear H'
 obtain ⟨x3_1, x4_1, rfl, HA, HK1, HO_3, HB⟩ := hrel
 cases gk with
 | zero => exact absurd HA.out (by simp [impl_triplesOf.l0])
 | succ k1 =>
 have H := HA.out
 clear HA
 simp only [impl_triplesOf.l0] at H
 by_cases c2 : x4_1 < a0
 ·rw [if_pos c2] at H
  have c2b0 := decide_eq_true c2
  clear c2
  have H' := Aside0.mk H; clear H
  go_wp2
  go_loopg [3, 5] k1 (fun kq v3 v5 w' => ∃ (x3_2 : List (S99)) (x5_2 : Int), v5 = .int .i64 x5_2 ∧ Aside0 (impl_triplesOf.l1 kq a0 x3_2 x4_1 x5_2 = some r) ∧ Aside0 (kq ≤ k1) ∧ Aside0 (Kd.R k99 99 w' w.heap.size (fun _ => True) v3 x3_2) ∧ Aside0 (Below w.heap.size w w'))
  case atStart => exact ⟨(x3_1), (wrap64 (x4_1 + 1)), zF, H', ⟨Nat.le_refl _⟩, ⟨zR HO_3.out⟩, ⟨zB⟩⟩
  case round =>
  clear H'
  try clear c2
  try clear c2b0
  obtain ⟨x3_2, x5_2, rfl, HA, HK2, HO_3, HB⟩ := hrel
  cases gk with
  | zero => exact absurd HA.out (by simp [impl_triplesOf.l1])
  | succ k2 =>
  have H := HA.out
  clear HA
  simp only [impl_triplesOf.l1] at H
  by_cases c3 : x5_2 < a0
  ·rw [if_pos c3] at H
   have c3b0 := decide_eq_true c3
   clear c3
   have H' := Aside0.mk H; clear H
   go_wp2
   go_loopg [3, 6] k2 (fun kq v3 v6 w' => ∃ (x3_3 : List (S99)) (x6_3 : Int), v6 = .int .i64 x6_3 ∧ Aside0 (impl_triplesOf.l2 kq a0 x3_3 x4_1 x5_2 x6_3 = some r) ∧ Aside0 (kq ≤ k2) ∧ Aside0 (Kd.R k99 99 w' w.heap.size (fun _ => True) v3 x3_3) ∧ Aside0 (Below w.heap.size w w'))
   case atStart => exact ⟨(x3_2), (wrap64 (x5_2 + 1)), zF, H', ⟨Nat.le_refl _⟩, ⟨zR HO_3.out⟩, ⟨zB⟩⟩
   case round =>
   clear H'
   try clear c2
   try clear c2b0
   try clear c3
   try clear c3b0
   obtain ⟨x3_3, x6_3, rfl, HA, HK3, HO_3, HB⟩ := hrel
   cases gk with
   | zero => exact absurd HA.out (by simp [impl_triplesOf.l2])
   | succ k3 =>
   have H := HA.out
   clear HA
   simp only [impl_triplesOf.l2] at H
   by_cases c4 : x6_3 < a0
   ·rw [if_pos c4] at H
    have c4b0 := decide_eq_true c4
    clear c4
    by_cases c5 : x3_3.length < 5864062014805
    ·rw [if_pos c5] at H
     have LMc5 := Aside0.mk c5
     clear c5
     obtain ⟨y255, hy255⟩ : ∃ y_ : List (S99), y_ = (x3_3 ++ [(⟨x4_1, x5_2, x6_3⟩ : S99)]) := ⟨_, rfl⟩
     replace H : (impl_triplesOf.l2 k3 a0 y255 x4_1 x5_2 (wrap64 (x6_3 + 1))) = some r := by first | (rw [hy255]; with_reducible exact H) | (have H2_ := (Option.bind_some _ _).symm.trans H; rw [hy255]; with_reducible exact H2_) | (have H2_ := (Option.bind_some _ _).symm.trans H; with_reducible exact H2_) | with_reducible exact H | (rw [hy255]; exact H) | exact H
     have Ny255 := Aside0.mk hy255
     clear hy255
     have H' := Aside0.mk H; clear H
     go_wp2_with (first | ((with_reducible refine gate_builtin (b := .append) (xs := #[.tmp 26, .tmp 31]) rfl ?_); at_builtin; refine Kd.R_append k99 (w0 := w) w.heap.size rfl (.tmp 26) (.tmp 31) 97 99 (.agg #[(.int .i64 0), (.int .i64 0), (.int .i64 0)]) 24 rfl Try.underlying97 info99 rfl (by decide) (by omega) u3 x3_3 (⟨x4_1, x5_2, x6_3⟩ : S99) [.int .i64 x4_1, .int .i64 x5_2, .int .i64 x6_3] (fun _ => True) (fun _ => False) rfl rfl ?aP (fun _ hk => hk.elim) ?aF ?aO ?aB ?aS ?aL ?_; (case aP => exact k99_mkM _ _ _ (⟨x4_1, x5_2, x6_3⟩ : S99)); (case aB => exact zB); (case aF => exact (fun _ _ => trivial)); (case aO => exact (zR HO_3.out)); (case aS => exact (below_size zB)); (case aL => have := LMc5.out; omega); intro v256 w6 ho hb hg hat; rw [← Ny255.out] at ho; have n0_ := Aside0.mk (hb); have n1_ := Aside0.mk (ho); clear HB; clear HO_3; have HB := n0_; have HO257 := n1_; clear n0_ n1_; clear ho hb hg hat))
     go_roundg k3
     case measure => have := HK1.out; have := HK2.out; have := HK3.out; omega
     case rel => exact ⟨(y255), (wrap64 (x6_3 + 1)), zF, H', ⟨by have := HK1.out; have := HK2.out; have := HK3.out; omega⟩, ⟨zR HO257.out⟩, ⟨zB⟩⟩
    rw [if_neg c5] at H
    exact absurd H (by simp)
   rw [if_neg c4] at H
   have c4b0 := decide_eq_false c4
   clear c4
   have H' := Aside0.mk H; clear H
   go_wp2
   go_roundg k3
   case measure => have := HK1.out; have := HK2.out; have := HK3.out; omega
   case rel => exact ⟨(x3_3), (wrap64 (x5_2 + 1)), zF, H', ⟨by have := HK1.out; have := HK2.out; have := HK3.out; omega⟩, ⟨zR HO_3.out⟩, ⟨zB⟩⟩
  rw [if_neg c3] at H
  have c3b0 := decide_eq_false c3
  clear c3
  have H' := Aside0.mk H; clear H
  go_wp2
  go_roundg k2
  case measure => have := HK1.out; have := HK2.out; omega
  case rel => exact ⟨(x3_2), (wrap64 (x4_1 + 1)), zF, H', ⟨by have := HK1.out; have := HK2.out; omega⟩, ⟨zR HO_3.out⟩, ⟨zB⟩⟩
 rw [if_neg c2] at H
 have c2b0 := decide_eq_false c2
 clear c2
 obtain rfl := Option.some.inj H
 go_wp2
 go_ret
 exact ⟨_, zE, zR HO_3.out, zB⟩
/-! ### impl_tableOf: function 83 -/
def impl_tableOf.l0 : Nat → List Int → List (S99) → Int → Int → Int → ByteArray → Option (List Int)
 | 0, _, _, _, _, _, _ => none
 | k + 1, x3, x13, x14, x15, x259000, x259001 => if x15 < x14 then (if 0 ≤ x15 then (if x15 < (x13.length : Int) then (if x15 < (x259001.size : Int) then (if (bt x259001 x15) = 45 then (if x3.length = 344 then ((impl_chi_set.f x3 ((rd_T99 x13 x15).f0) ((rd_T99 x13 x15).f1) ((rd_T99 x13 x15).f2) (-1)).bind fun t267 => (impl_tableOf.l0 k t267 x13 x14 (wrap64 (x15 + 1)) x259000 x259001)) else (none)) else (if x3.length = 344 then ((impl_chi_set.f x3 ((rd_T99 x13 x15).f0) ((rd_T99 x13 x15).f1) ((rd_T99 x13 x15).f2) 1).bind fun t268 => (impl_tableOf.l0 k t268 x13 x14 (wrap64 (x15 + 1)) x259000 x259001)) else (none))) else (none)) else (none)) else (none)) else (some x3)
def impl_tableOf.f (k : Nat) (a0_0 : Int) (a0_1 : ByteArray) : Option (List Int) := (impl_triplesOf.f k a0_0).bind fun t262 => (impl_tableOf.l0 k (a0_0 :: List.replicate 343 (0 : Int)) t262 (t262.length : Int) 0 a0_0 a0_1)
theorem zl27_0 {p q p0 p1 : Prop} (g : p) (g0 : p0) (g1 : p1) (h : p → p0 → p1 → q := by intro zg_ z0_ z1_; repeat (first | (with_reducible first | exact zg_ | apply below_alloc | apply pw_below_drewN | apply below_drew1 | refine below_set ?_ z0_ | refine below_set ?_ z1_) | exact zg_)) : q := h g g0 g1
set_option maxHeartbeats 8000000 in
set_option maxRecDepth 100000 in
theorem impl_tableOf.calls (k : Nat) (a0_0 : Int) (a0_1 : ByteArray) (r : List Int) (w : World) (h : impl_tableOf.f k a0_0 a0_1 = some r) :
  Calls Try.prog 83 #[.agg #[.int .i64 a0_0, .string a0_1]] w fun e w' => ∃ v0_ : Value, e = .returned (ptrOf v0_) ∧ Kd.R (Kd.int .i64) 115 w' w.heap.size (fun _ => True) v0_ r ∧ Below w.heap.size w w' := by
 have hu25 := Try.underlying25
 have hu99 := Try.underlying99
 have HB := Aside0.mk (Below.refl w.heap.size w)
 have H : ((impl_triplesOf.f k a0_0).bind fun t262 => (impl_tableOf.l0 k (a0_0 :: List.replicate 343 (0 : Int)) t262 (t262.length : Int) 0 a0_0 a0_1)) = some r := h
 clear h
 obtain ⟨y259, hy259⟩ : ∃ y_ : List Int, y_ = (a0_0 :: List.replicate 343 (0 : Int)) := ⟨_, rfl⟩
 replace H : ((impl_triplesOf.f k a0_0).bind fun t262 => (impl_tableOf.l0 k y259 t262 (t262.length : Int) 0 a0_0 a0_1)) = some r := by first | (rw [hy259]; with_reducible exact H) | (have H2_ := (Option.bind_some _ _).symm.trans H; rw [hy259]; with_reducible exact H2_) | (have H2_ := (Option.bind_some _ _).symm.trans H; with_reducible exact H2_) | with_reducible exact H | (rw [hy259]; exact H) | exact H
 have Ny259 := Aside0.mk hy259
 clear hy259
 obtain ⟨t262, A2, H⟩ := zO H
 have H' := Aside0.mk H; clear H
 go_enter Try.func83, Try.ntmps83
 go_wp2_with (first | ((with_reducible refine gate_dst (N := 1) rfl ?_); refine zBx (N := 1) #[.int .i64 a0_0, .string a0_1] 25 ?_; intro gb258 hg w3 hbox hb; have BK258 := Aside0.mk (hbox); have GW258 := zS hg; have GE258 := zS hg; replace HB := zX hb; clear hb hbox hg; obtain ⟨hcz4_0, hcz4_1, hfz4_0, hfz4_1⟩ := zq2 BK258.out) | ((with_reducible refine gate_dst (N := 9) rfl ?_); refine chi_build_event (T := 115) (s := 8) (n := a0_0) rfl rfl ?hx chi_built ?_; (case hx => first | rfl | (go_simp; done) | (go_simp; rfl))) | ((with_reducible refine gate_dst (N := 10) rfl ?_); refine chi_box_event (n := a0_0) (T := 115) (N := 10) ?hg ?hd ?hr w.heap.size ?hs ?_; (case hd => rfl); (case hg => rfl); (case hr => first | (go_simp; done) | (go_simp; rfl)); (case hs => exact (below_size (zG GE258.out))); intro v260 w5 ho hb; rw [← Ny259.out] at ho; replace BK258 := zV BK258.out hb; have HO261 := Aside0.mk (ho); replace HB := zX1 GE258.out hb; clear hb ho; obtain ⟨hcz6_0, hcz6_1, hfz6_0, hfz6_1⟩ := zq2 BK258.out) | ((with_reducible refine gate_callee (f := 118) rfl ?_); refine zD (some 13) Try.func118 #[.int .i64 a0_0] ?_; (with_reducible refine (impl_triplesOf.calls k a0_0 t262 _ A2.out).mono ?_); rintro e w7 ⟨v263, rfl, ho0, hb⟩; refine ⟨_, rfl, ?_⟩; replace HO261 := zW HO261.out hb; have HO264 := Aside0.mk (Kd.R_lower ho0 (below_size (zG GE258.out))); replace BK258 := zV BK258.out hb; replace HB := zX1 GE258.out hb; (try clear hb); (try clear ho0); obtain ⟨Ao8, co8, eo8⟩ := Kd.R_slice HO264.out; subst eo8))
 go_loopg [15] k (fun kq v15 w' => ∃ (x3_1 : List Int) (x15_1 : Int), v15 = .int .i64 x15_1 ∧ Aside0 (impl_tableOf.l0 kq x3_1 t262 (t262.length : Int) x15_1 a0_0 a0_1 = some r) ∧ Aside0 (kq ≤ k) ∧ Aside0 (Kd.R (Kd.int .i64) 115 w' w.heap.size (fun _ => True) v260 x3_1) ∧ Aside0 (Kd.R k99 99 w' w.heap.size (fun _ => True) (.slice Ao8 t262.length co8) t262) ∧ Aside0 (w'.heap[gb258]? = some (.cells #[.int .i64 a0_0, .string a0_1] 25 (0, 0))) ∧ Aside0 (Below w.heap.size w w'))
 case atStart => exact ⟨(y259), (0), zF, H', ⟨Nat.le_refl _⟩, ⟨zR HO261.out⟩, ⟨zR HO264.out⟩, ⟨zK BK258.out⟩, ⟨zG GE258.out⟩⟩
 case round =>
 clear H'
 try clear hcz4_0
 try clear hcz4_1
 try clear hcz6_0
 try clear hcz6_1
 try clear hfz4_0
 try clear hfz4_1
 try clear hfz6_0
 try clear hfz6_1
 obtain ⟨x3_1, x15_1, rfl, HA, HK1, HO_3, HO_13, BK258, HB⟩ := hrel
 cases gk with
 | zero => exact absurd HA.out (by simp [impl_tableOf.l0])
 | succ k1 =>
 have H := HA.out
 clear HA
 simp only [impl_tableOf.l0] at H
 by_cases c9 : x15_1 < (t262.length : Int)
 ·rw [if_pos c9] at H
  have c9b0 := decide_eq_true c9
  clear c9
  by_cases c10 : 0 ≤ x15_1
  ·rw [if_pos c10] at H
   have c10b0 := decide_eq_true c10
   clear c10
   by_cases c11 : x15_1 < (t262.length : Int)
   ·rw [if_pos c11] at H
    have c11b0 := decide_eq_true c11
    clear c11
    by_cases c12 : x15_1 < (a0_1.size : Int)
    ·rw [if_pos c12] at H
     have c12b0 := decide_eq_true c12
     clear c12
     by_cases c14 : (bt a0_1 x15_1) = 45
     ·rw [if_pos c14] at H
      have c14b0 := beq_iff_eq.mpr c14
      have c14b1 := bne_eq_false_iff_eq.mpr c14
      clear c14
      by_cases c15 : x3_1.length = 344
      ·rw [if_pos c15] at H
       have c15b0 := eq_true c15
       have c15b1 := decide_eq_true c15
       clear c15
       obtain ⟨t267, A16, H⟩ := zO H
       have H' := Aside0.mk H; clear H
       have p265 : 0 ≤ (x15_1 : Int) := zA
       have q265 : x15_1 < (t262.length : Int) := zA
       obtain ⟨ad265, e265, hx265_0, hx265_1, hx265_2⟩ := at_T99 (Kd.R_reads' HO_13.out).2.2 x15_1 p265 q265
       cases e265
       replace p265 := eq_true p265
       replace q265 := eq_true q265
       go_wp2_with (first | ((with_reducible refine gate_dst (N := 5) rfl ?_); refine zBx (N := 5) #[.int .i64 0, .int .i64 0, .int .i64 0] 99 ?_; intro gb266 hg w17 hbox hb; replace HO_3 := zW HO_3.out hb; replace HO_13 := Aside0.mk (Kd.R_below (Kd.R_elderB (zR HO_13.out) gb266 (Nat.le_of_eq hg.symm)) hb); have BK266 := Aside0.mk (hbox); have GW266 := zSg hg (zG GE258.out); have GE266 := zSg hg (zG GE258.out); have NB258_266 := zL hg BK258.out; have NB266_258 := zLg hg BK258.out; replace BK258 := zV BK258.out hb; replace HB := zX1 GE258.out hb; clear hb hbox hg; have hnb18 := NB266_258.out; have hnc18 := NB258_266.out; obtain ⟨hcz19_0, hcz19_1, hcz19_2, hfz19_0, hfz19_1, hfz19_2⟩ := zq3 BK266.out) | ((with_reducible refine gate_store (t := 99) (p := 5) rfl ?_); refine store_event (t := 99) (p := 5) (v := ?vo_w20) (w1 := (((w17.setCell ⟨gb266, 0, none⟩ (.int .i64 ((rd_T99 t262 x15_1).f0))).setCell ⟨gb266, 1, none⟩ (.int .i64 ((rd_T99 t262 x15_1).f1))).setCell ⟨gb266, 2, none⟩ (.int .i64 ((rd_T99 t262 x15_1).f2)))) ?hg ?ho ?hn ?hr ?_; (case ho => rfl); (case hg => rfl); (case hn => rfl); (case hr => first | (go_simp; done) | (go_simp; rfl)); intro w20 hw; have n0_ : Aside0 (Kd.R (Kd.int .i64) 115 w20 w.heap.size (fun _ => True) v260 x3_1) := ⟨(by rw [hw]; exact (by (with_reducible repeat (first | apply Kd.R_alloc | apply Kd.R_drewN | apply Kd.R_drew)); exact Kd.R_mono (Kd.R_far (p := ⟨gb266, 2, none⟩) (Kd.R_far (p := ⟨gb266, 1, none⟩) (Kd.R_far (p := ⟨gb266, 0, none⟩) (Kd.R_types HO_3.out BK266.out (by decide)) (fun _ hk => hk.2) (.int .i64 ((rd_T99 t262 x15_1).f0))) (fun _ hk => hk.2) (.int .i64 ((rd_T99 t262 x15_1).f1))) (fun _ hk => hk.2) (.int .i64 ((rd_T99 t262 x15_1).f2))) (fun _ hk => trivial)))⟩; have n1_ : Aside0 (Kd.R k99 99 w20 w.heap.size (fun k_ => k_ ≠ gb266) (.slice (some ad265) t262.length co8) t262) := ⟨(by rw [hw]; exact (by (with_reducible repeat (first | apply Kd.R_alloc | apply Kd.R_drewN | apply Kd.R_drew)); exact Kd.R_mono (Kd.R_far (p := ⟨gb266, 2, none⟩) (Kd.R_far (p := ⟨gb266, 1, none⟩) (Kd.R_far (p := ⟨gb266, 0, none⟩) (Kd.R_mono HO_13.out (fun k_ hk => (⟨hk, hk.2⟩ : _ ∧ k_ ≠ gb266))) (fun _ hk => hk.2) (.int .i64 ((rd_T99 t262 x15_1).f0))) (fun _ hk => hk.2) (.int .i64 ((rd_T99 t262 x15_1).f1))) (fun _ hk => hk.2) (.int .i64 ((rd_T99 t262 x15_1).f2))) (fun _ hk => hk.1.2)))⟩; have n2_ : Aside0 (w20.heap[gb258]? = some (.cells #[.int .i64 a0_0, .string a0_1] 25 (0, 0))) := ⟨(by rw [hw]; exact (zk3 BK258.out NB258_266.out NB258_266.out NB258_266.out))⟩; have n3_ : Aside0 (w20.heap[gb266]? = some (.cells #[.int .i64 ((rd_T99 t262 x15_1).f0), .int .i64 ((rd_T99 t262 x15_1).f1), .int .i64 ((rd_T99 t262 x15_1).f2)] 99 (0, 0))) := ⟨(by rw [hw]; exact (zk0 BK266.out))⟩; have n4_ : Aside0 (Below w.heap.size w w20) := ⟨(by rw [hw]; exact (zG2 GE258.out GE266.out))⟩; clear hw; clear HO_3; clear HO_13; clear BK258; clear BK266; clear HB; have HO_3 := n0_; have HO_13 := n1_; have BK258 := n2_; have BK266 := n3_; have HB := n4_; clear n0_ n1_ n2_ n3_ n4_; obtain ⟨hcz21_0, hcz21_1, hfz21_0, hfz21_1⟩ := zq2 BK258.out; have p13 : 0 ≤ (x15_1 : Int) := zA; have q13 : x15_1 < (a0_1.size : Int) := zA; have hx13 := bt_at a0_1 x15_1; replace p13 := eq_true p13; replace q13 := eq_true q13; obtain ⟨hcz22_0, hcz22_1, hcz22_2, hfz22_0, hfz22_1, hfz22_2⟩ := zq3 BK266.out; obtain ⟨go23, co23, eo23, gb23, gl23, cl23, HG23⟩ := Kd.R_form HO_3.out (by have hl_ := Nat.le_of_eq (Eq.symm (zA : x3_1.length = 344)); omega); (first | cases eo23 | (injection eo23 with ea_ en_ ec_; (first | subst ea_ | (injection ea_ with ea_; subst ea_)); subst ec_; clear en_)); have GB23 := Aside0.mk gb23; have GG23 := Aside0.mk HG23; clear gb23 gl23 HG23) | ((with_reducible refine gate_callee (f := 142) rfl ?_); refine zD (some 33) Try.func142 #[.pointer (some ⟨go23, 0, none⟩), .int .i64 ((rd_T99 t262 x15_1).f0), .int .i64 ((rd_T99 t262 x15_1).f1), .int .i64 ((rd_T99 t262 x15_1).f2), .int .i64 (-1)] ?_; (with_reducible refine (impl_chi_set.calls (fun k_ => some k_ = (.slice (some ⟨go23, 0, none⟩) x3_1.length co23 : Value).ownBlock) (.slice (some ⟨go23, 0, none⟩) x3_1.length co23) x3_1 ((rd_T99 t262 x15_1).f0) ((rd_T99 t262 x15_1).f1) ((rd_T99 t262 x15_1).f2) (-1) t267 w _ ?side1 ?side2 A16.out).mono ?_); (case side1 => exact (zl27_0 HB.out GE258.out GE266.out)); (case side2 => exact Kd.R_tight rfl HO_3.out); rintro e w24 ⟨rfl, hy0, hb, hkp⟩; refine ⟨_, rfl, ?_⟩; replace HO_13 := Aside0.mk (Kd.R_mono (ok' := fun k_ => k_ ≠ gb266) (Kd.R_keptB ((Kd.R_apart' HO_13.out (Kd.R_typed HO_3.out) (by decide))) hkp (fun k_ hk_ hs_ => (hk_.2) hs_)) (fun k_ hk_ => hk_.1.1)); replace BK258 := Aside0.mk (blk_kept (zK BK258.out) hkp (fun hs_ => (fun e_ => (Kd.R_ne HO_3.out BK258.out (by decide)) e_) hs_)); replace BK266 := Aside0.mk (blk_kept (zK BK266.out) hkp (fun hs_ => (fun e_ => (Kd.R_ne HO_3.out BK266.out (by decide)) e_) hs_)); replace HO_3 := Aside0.mk (Kd.R_reok rfl hy0 (fun k_ e_ => HO_3.out.1 k_ e_)); replace HB := Aside0.mk (hb); (try clear hb); (try clear hkp); (try clear hy0)))
       go_roundg k1
       case measure => have := HK1.out; omega
       case rel => exact ⟨(t267), (wrap64 (x15_1 + 1)), zF, H', ⟨by have := HK1.out; omega⟩, ⟨zR HO_3.out⟩, ⟨by (with_reducible repeat (first | apply Kd.R_alloc | apply Kd.R_drewN | apply Kd.R_drew)); exact Kd.R_mono HO_13.out (fun _ hk => trivial)⟩, ⟨zK BK258.out⟩, ⟨zG2 GE258.out GE266.out⟩⟩
      rw [if_neg c15] at H
      exact absurd H (by simp)
     rw [if_neg c14] at H
     have c14b0 := beq_eq_false_iff_ne.mpr c14
     have c14b1 := bne_iff_ne.mpr c14
     by_cases c25 : x3_1.length = 344
     ·rw [if_pos c25] at H
      have c25b0 := eq_true c25
      have c25b1 := decide_eq_true c25
      clear c25
      obtain ⟨t268, A26, H⟩ := zO H
      have H' := Aside0.mk H; clear H
      have p265 : 0 ≤ (x15_1 : Int) := zA
      have q265 : x15_1 < (t262.length : Int) := zA
      obtain ⟨ad265, e265, hx265_0, hx265_1, hx265_2⟩ := at_T99 (Kd.R_reads' HO_13.out).2.2 x15_1 p265 q265
      cases e265
      replace p265 := eq_true p265
      replace q265 := eq_true q265
      go_wp2_with (first | ((with_reducible refine gate_dst (N := 5) rfl ?_); refine zBx (N := 5) #[.int .i64 0, .int .i64 0, .int .i64 0] 99 ?_; intro gb266 hg w27 hbox hb; replace HO_3 := zW HO_3.out hb; replace HO_13 := Aside0.mk (Kd.R_below (Kd.R_elderB (zR HO_13.out) gb266 (Nat.le_of_eq hg.symm)) hb); have BK266 := Aside0.mk (hbox); have GW266 := zSg hg (zG GE258.out); have GE266 := zSg hg (zG GE258.out); have NB258_266 := zL hg BK258.out; have NB266_258 := zLg hg BK258.out; replace BK258 := zV BK258.out hb; replace HB := zX1 GE258.out hb; clear hb hbox hg; have hnb28 := NB266_258.out; have hnc28 := NB258_266.out; obtain ⟨hcz29_0, hcz29_1, hcz29_2, hfz29_0, hfz29_1, hfz29_2⟩ := zq3 BK266.out) | ((with_reducible refine gate_store (t := 99) (p := 5) rfl ?_); refine store_event (t := 99) (p := 5) (v := ?vo_w30) (w1 := (((w27.setCell ⟨gb266, 0, none⟩ (.int .i64 ((rd_T99 t262 x15_1).f0))).setCell ⟨gb266, 1, none⟩ (.int .i64 ((rd_T99 t262 x15_1).f1))).setCell ⟨gb266, 2, none⟩ (.int .i64 ((rd_T99 t262 x15_1).f2)))) ?hg ?ho ?hn ?hr ?_; (case ho => rfl); (case hg => rfl); (case hn => rfl); (case hr => first | (go_simp; done) | (go_simp; rfl)); intro w30 hw; have n0_ : Aside0 (Kd.R (Kd.int .i64) 115 w30 w.heap.size (fun _ => True) v260 x3_1) := ⟨(by rw [hw]; exact (by (with_reducible repeat (first | apply Kd.R_alloc | apply Kd.R_drewN | apply Kd.R_drew)); exact Kd.R_mono (Kd.R_far (p := ⟨gb266, 2, none⟩) (Kd.R_far (p := ⟨gb266, 1, none⟩) (Kd.R_far (p := ⟨gb266, 0, none⟩) (Kd.R_types HO_3.out BK266.out (by decide)) (fun _ hk => hk.2) (.int .i64 ((rd_T99 t262 x15_1).f0))) (fun _ hk => hk.2) (.int .i64 ((rd_T99 t262 x15_1).f1))) (fun _ hk => hk.2) (.int .i64 ((rd_T99 t262 x15_1).f2))) (fun _ hk => trivial)))⟩; have n1_ : Aside0 (Kd.R k99 99 w30 w.heap.size (fun k_ => k_ ≠ gb266) (.slice (some ad265) t262.length co8) t262) := ⟨(by rw [hw]; exact (by (with_reducible repeat (first | apply Kd.R_alloc | apply Kd.R_drewN | apply Kd.R_drew)); exact Kd.R_mono (Kd.R_far (p := ⟨gb266, 2, none⟩) (Kd.R_far (p := ⟨gb266, 1, none⟩) (Kd.R_far (p := ⟨gb266, 0, none⟩) (Kd.R_mono HO_13.out (fun k_ hk => (⟨hk, hk.2⟩ : _ ∧ k_ ≠ gb266))) (fun _ hk => hk.2) (.int .i64 ((rd_T99 t262 x15_1).f0))) (fun _ hk => hk.2) (.int .i64 ((rd_T99 t262 x15_1).f1))) (fun _ hk => hk.2) (.int .i64 ((rd_T99 t262 x15_1).f2))) (fun _ hk => hk.1.2)))⟩; have n2_ : Aside0 (w30.heap[gb258]? = some (.cells #[.int .i64 a0_0, .string a0_1] 25 (0, 0))) := ⟨(by rw [hw]; exact (zk3 BK258.out NB258_266.out NB258_266.out NB258_266.out))⟩; have n3_ : Aside0 (w30.heap[gb266]? = some (.cells #[.int .i64 ((rd_T99 t262 x15_1).f0), .int .i64 ((rd_T99 t262 x15_1).f1), .int .i64 ((rd_T99 t262 x15_1).f2)] 99 (0, 0))) := ⟨(by rw [hw]; exact (zk0 BK266.out))⟩; have n4_ : Aside0 (Below w.heap.size w w30) := ⟨(by rw [hw]; exact (zG2 GE258.out GE266.out))⟩; clear hw; clear HO_3; clear HO_13; clear BK258; clear BK266; clear HB; have HO_3 := n0_; have HO_13 := n1_; have BK258 := n2_; have BK266 := n3_; have HB := n4_; clear n0_ n1_ n2_ n3_ n4_; obtain ⟨hcz31_0, hcz31_1, hfz31_0, hfz31_1⟩ := zq2 BK258.out; have p13 : 0 ≤ (x15_1 : Int) := zA; have q13 : x15_1 < (a0_1.size : Int) := zA; have hx13 := bt_at a0_1 x15_1; replace p13 := eq_true p13; replace q13 := eq_true q13; obtain ⟨hcz32_0, hcz32_1, hcz32_2, hfz32_0, hfz32_1, hfz32_2⟩ := zq3 BK266.out; obtain ⟨go33, co33, eo33, gb33, gl33, cl33, HG33⟩ := Kd.R_form HO_3.out (by have hl_ := Nat.le_of_eq (Eq.symm (zA : x3_1.length = 344)); omega); (first | cases eo33 | (injection eo33 with ea_ en_ ec_; (first | subst ea_ | (injection ea_ with ea_; subst ea_)); subst ec_; clear en_)); have GB33 := Aside0.mk gb33; have GG33 := Aside0.mk HG33; clear gb33 gl33 HG33) | ((with_reducible refine gate_callee (f := 142) rfl ?_); refine zD (some 33) Try.func142 #[.pointer (some ⟨go33, 0, none⟩), .int .i64 ((rd_T99 t262 x15_1).f0), .int .i64 ((rd_T99 t262 x15_1).f1), .int .i64 ((rd_T99 t262 x15_1).f2), .int .i64 1] ?_; (with_reducible refine (impl_chi_set.calls (fun k_ => some k_ = (.slice (some ⟨go33, 0, none⟩) x3_1.length co33 : Value).ownBlock) (.slice (some ⟨go33, 0, none⟩) x3_1.length co33) x3_1 ((rd_T99 t262 x15_1).f0) ((rd_T99 t262 x15_1).f1) ((rd_T99 t262 x15_1).f2) 1 t268 w _ ?side1 ?side2 A26.out).mono ?_); (case side1 => exact (zl27_0 HB.out GE258.out GE266.out)); (case side2 => exact Kd.R_tight rfl HO_3.out); rintro e w34 ⟨rfl, hy0, hb, hkp⟩; refine ⟨_, rfl, ?_⟩; replace HO_13 := Aside0.mk (Kd.R_mono (ok' := fun k_ => k_ ≠ gb266) (Kd.R_keptB ((Kd.R_apart' HO_13.out (Kd.R_typed HO_3.out) (by decide))) hkp (fun k_ hk_ hs_ => (hk_.2) hs_)) (fun k_ hk_ => hk_.1.1)); replace BK258 := Aside0.mk (blk_kept (zK BK258.out) hkp (fun hs_ => (fun e_ => (Kd.R_ne HO_3.out BK258.out (by decide)) e_) hs_)); replace BK266 := Aside0.mk (blk_kept (zK BK266.out) hkp (fun hs_ => (fun e_ => (Kd.R_ne HO_3.out BK266.out (by decide)) e_) hs_)); replace HO_3 := Aside0.mk (Kd.R_reok rfl hy0 (fun k_ e_ => HO_3.out.1 k_ e_)); replace HB := Aside0.mk (hb); (try clear hb); (try clear hkp); (try clear hy0)))
      go_roundg k1
      case measure => have := HK1.out; omega
      case rel => exact ⟨(t268), (wrap64 (x15_1 + 1)), zF, H', ⟨by have := HK1.out; omega⟩, ⟨zR HO_3.out⟩, ⟨by (with_reducible repeat (first | apply Kd.R_alloc | apply Kd.R_drewN | apply Kd.R_drew)); exact Kd.R_mono HO_13.out (fun _ hk => trivial)⟩, ⟨zK BK258.out⟩, ⟨zG2 GE258.out GE266.out⟩⟩
     rw [if_neg c25] at H
     exact absurd H (by simp)
    rw [if_neg c12] at H
    exact absurd H (by simp)
   rw [if_neg c11] at H
   exact absurd H (by simp)
  rw [if_neg c10] at H
  exact absurd H (by simp)
 rw [if_neg c9] at H
 have c9b0 := decide_eq_false c9
 clear c9
 obtain rfl := Option.some.inj H
 go_wp2
 go_ret
 exact ⟨v260, zE, zR HO_3.out, zG GE258.out⟩
/-! ### impl_quadsOf: function 110 -/
mutual
def impl_quadsOf.l0 : Nat → Int → List (S91) → List (S99) → Int → Int → Option ((List (S91)))
 | 0, _, _, _, _, _ => none
 | k + 1, x0, x3, x8, x9, x10 => if x10 < x9 then (if 0 ≤ x10 then (if x10 < (x8.length : Int) then (impl_quadsOf.l1 k x0 x3 (wrap64 (((rd_T99 x8 x10).f2) + 1)) x8 x9 x10 ((rd_T99 x8 x10).f0) ((rd_T99 x8 x10).f1) ((rd_T99 x8 x10).f2)) else (none)) else (none)) else (some x3)
def impl_quadsOf.l1 : Nat → Int → List (S91) → Int → List (S99) → Int → Int → Int → Int → Int → Option ((List (S91)))
 | 0, _, _, _, _, _, _, _, _, _ => none
 | k + 1, x0, x3, x6, x8, x9, x10, x274000, x274001, x274002 => if x6 < x0 then (if x3.length < 4398046511104 then (impl_quadsOf.l1 k x0 (x3 ++ [(⟨x274000, x274001, x274002, x6⟩ : S91)]) (wrap64 (x6 + 1)) x8 x9 x10 x274000 x274001 x274002) else (none)) else (impl_quadsOf.l0 k x0 x3 x8 x9 (wrap64 (x10 + 1)))
end
def impl_quadsOf.f (k : Nat) (a0 : Int) : Option ((List (S91))) := (impl_triplesOf.f k a0).bind fun t269 => (impl_quadsOf.l0 k a0 ([] : List (S91)) t269 (t269.length : Int) 0)
theorem impl_quadsOf.mono_l : ∀ k, (∀ y0 y1 y2 y3 y4, LeO (impl_quadsOf.l0 k y0 y1 y2 y3 y4) (impl_quadsOf.l0 (k + 1) y0 y1 y2 y3 y4)) ∧ (∀ y0 y1 y2 y3 y4 y5 y6 y7 y8, LeO (impl_quadsOf.l1 k y0 y1 y2 y3 y4 y5 y6 y7 y8) (impl_quadsOf.l1 (k + 1) y0 y1 y2 y3 y4 y5 y6 y7 y8))
 | 0 => ⟨fun _ _ _ _ _ r h => by simp [impl_quadsOf.l0] at h, fun _ _ _ _ _ _ _ _ _ r h => by simp [impl_quadsOf.l1] at h⟩
 | k + 1 => by
  obtain ⟨ih0, ih1⟩ := impl_quadsOf.mono_l k
  refine ⟨?_, ?_⟩ <;> intros <;> (first | unfold impl_quadsOf.l0 | unfold impl_quadsOf.l1) <;> repeat' first
  | (with_reducible first | exact ih0 .. | exact ih1 .. | exact impl_triplesOf.mono .. | exact LeO.refl _ | exact LeO.none _ | refine LeO.ite ?_ ?_ | refine LeO.bind ?_ (fun _ => ?_))
  | exact ih0 .. | exact ih1 .. | exact impl_triplesOf.mono .. | exact LeO.none _ | refine LeO.ite ?_ ?_ | refine LeO.bind ?_ (fun _ => ?_)
theorem impl_quadsOf.mono : ∀ a0 k, LeO (impl_quadsOf.f k a0) (impl_quadsOf.f (k + 1) a0) := by
 intro a0 k
 obtain ⟨ih0, ih1⟩ := impl_quadsOf.mono_l k
 unfold impl_quadsOf.f
 repeat' first
   | (with_reducible first | exact ih0 .. | exact ih1 .. | exact impl_triplesOf.mono .. | exact LeO.refl _ | exact LeO.none _ | refine LeO.ite ?_ ?_ | refine LeO.bind ?_ (fun _ => ?_))
   | exact ih0 .. | exact ih1 .. | exact impl_triplesOf.mono .. | exact LeO.none _ | refine LeO.ite ?_ ?_ | refine LeO.bind ?_ (fun _ => ?_)
set_option maxHeartbeats 8000000 in
set_option maxRecDepth 100000 in
theorem impl_quadsOf.calls (k : Nat) (a0 : Int) (r : List (S91)) (w : World) (h : impl_quadsOf.f k a0 = some r) :
  Calls Try.prog 110 #[.int .i64 a0] w fun e w' => ∃ v0_ : Value, e = .returned (v0_) ∧ Kd.R k91 91 w' w.heap.size (fun _ => True) v0_ r ∧ Below w.heap.size w w' := by
 have hu99 := Try.underlying99
 have hu91 := Try.underlying91
 have HB := Aside0.mk (Below.refl w.heap.size w)
 have H : ((impl_triplesOf.f k a0).bind fun t269 => (impl_quadsOf.l0 k a0 ([] : List (S91)) t269 (t269.length : Int) 0)) = some r := h
 clear h
 obtain ⟨t269, A2, H⟩ := zO H
 have H' := Aside0.mk H; clear H
 go_enter Try.func110, Try.ntmps110
 go_wp2_with (first | ((with_reducible refine gate_callee (f := 118) rfl ?_); refine zD (some 8) Try.func118 #[.int .i64 a0] ?_; (with_reducible refine (impl_triplesOf.calls k a0 t269 _ A2.out).mono ?_); rintro e w3 ⟨v270, rfl, ho0, hb⟩; refine ⟨_, rfl, ?_⟩; have HO271 := Aside0.mk (Kd.R_lower ho0 (below_size zB)); replace HB := zX hb; (try clear hb); (try clear ho0); obtain ⟨Ao4, co4, eo4⟩ := Kd.R_slice HO271.out; subst eo4))
 go_loopg [3, 10] k (fun kq v3 v10 w' => ∃ (x3_1 : List (S91)) (x10_1 : Int), v10 = .int .i64 x10_1 ∧ Aside0 (impl_quadsOf.l0 kq a0 x3_1 t269 (t269.length : Int) x10_1 = some r) ∧ Aside0 (kq ≤ k) ∧ Aside0 (Kd.R k91 91 w' w.heap.size (fun _ => True) v3 x3_1) ∧ Aside0 (Kd.R k99 99 w' w.heap.size (fun _ => True) (.slice Ao4 t269.length co4) t269) ∧ Aside0 (Below w.heap.size w w'))
 case atStart => exact ⟨(([] : List (S91))), (0), zF, H', ⟨Nat.le_refl _⟩, ⟨by first | exact Kd.R_nil _ _ _ _ _ | exact Kd.N_nil _ _ _ _ _ | exact Kd.V_nil _ _ _ _ _ | exact Kd.Q_nil _ _ _ _ _ | exact Kd.S_nil _ _ _ _ _⟩, ⟨zR HO271.out⟩, ⟨zB⟩⟩
 case round =>
 clear H'
 obtain ⟨x3_1, x10_1, rfl, HA, HK1, HO_3, HO_8, HB⟩ := hrel
 cases gk with
 | zero => exact absurd HA.out (by simp [impl_quadsOf.l0])
 | succ k1 =>
 have H := HA.out
 clear HA
 simp only [impl_quadsOf.l0] at H
 by_cases c5 : x10_1 < (t269.length : Int)
 ·rw [if_pos c5] at H
  have c5b0 := decide_eq_true c5
  clear c5
  by_cases c6 : 0 ≤ x10_1
  ·rw [if_pos c6] at H
   have c6b0 := decide_eq_true c6
   clear c6
   by_cases c7 : x10_1 < (t269.length : Int)
   ·rw [if_pos c7] at H
    have c7b0 := decide_eq_true c7
    clear c7
    have H' := Aside0.mk H; clear H
    have p272 : 0 ≤ (x10_1 : Int) := zA
    have q272 : x10_1 < (t269.length : Int) := zA
    obtain ⟨ad272, e272, hx272_0, hx272_1, hx272_2⟩ := at_T99 (Kd.R_reads' HO_8.out).2.2 x10_1 p272 q272
    cases e272
    replace p272 := eq_true p272
    replace q272 := eq_true q272
    go_wp2_with (first | ((with_reducible refine gate_dst (N := 5) rfl ?_); refine zBx (N := 5) #[.int .i64 0, .int .i64 0, .int .i64 0] 99 ?_; intro gb273 hg w8 hbox hb; replace HO_3 := zW HO_3.out hb; replace HO_8 := Aside0.mk (Kd.R_below (Kd.R_elderB (zR HO_8.out) gb273 (Nat.le_of_eq hg.symm)) hb); have BK273 := Aside0.mk (hbox); have GW273 := zS hg; have GE273 := zS hg; replace HB := zX hb; clear hb hbox hg; obtain ⟨hcz9_0, hcz9_1, hcz9_2, hfz9_0, hfz9_1, hfz9_2⟩ := zq3 BK273.out))
    go_loopg [3, 6] k1 (fun kq v3 v6 w' => ∃ (x3_2 : List (S91)) (x6_2 : Int), v6 = .int .i64 x6_2 ∧ Aside0 (impl_quadsOf.l1 kq a0 x3_2 x6_2 t269 (t269.length : Int) x10_1 ((rd_T99 t269 x10_1).f0) ((rd_T99 t269 x10_1).f1) ((rd_T99 t269 x10_1).f2) = some r) ∧ Aside0 (kq ≤ k1) ∧ Aside0 (Kd.R k91 91 w' w.heap.size (fun _ => True) v3 x3_2) ∧ Aside0 (Kd.R k99 99 w' w.heap.size (fun k_ => k_ ≠ gb273) (.slice (some ad272) t269.length co4) t269) ∧ Aside0 (w'.heap[gb273]? = some (.cells #[.int .i64 ((rd_T99 t269 x10_1).f0), .int .i64 ((rd_T99 t269 x10_1).f1), .int .i64 ((rd_T99 t269 x10_1).f2)] 99 (0, 0))) ∧ Aside0 (Below w.heap.size w w'))
    case atStart => exact ⟨(x3_1), (wrap64 (((rd_T99 t269 x10_1).f2) + 1)), zF, H', ⟨Nat.le_refl _⟩, ⟨by (with_reducible repeat (first | apply Kd.R_alloc | apply Kd.R_drewN | apply Kd.R_drew)); exact Kd.R_mono (Kd.R_far (p := ⟨gb273, 2, none⟩) (Kd.R_far (p := ⟨gb273, 1, none⟩) (Kd.R_far (p := ⟨gb273, 0, none⟩) (Kd.R_types HO_3.out BK273.out (by decide)) (fun _ hk => hk.2) (.int .i64 ((rd_T99 t269 x10_1).f0))) (fun _ hk => hk.2) (.int .i64 ((rd_T99 t269 x10_1).f1))) (fun _ hk => hk.2) (.int .i64 ((rd_T99 t269 x10_1).f2))) (fun _ hk => trivial)⟩, ⟨by (with_reducible repeat (first | apply Kd.R_alloc | apply Kd.R_drewN | apply Kd.R_drew)); exact Kd.R_mono (Kd.R_far (p := ⟨gb273, 2, none⟩) (Kd.R_far (p := ⟨gb273, 1, none⟩) (Kd.R_far (p := ⟨gb273, 0, none⟩) (Kd.R_mono HO_8.out (fun k_ hk => (⟨hk, hk.2⟩ : _ ∧ k_ ≠ gb273))) (fun _ hk => hk.2) (.int .i64 ((rd_T99 t269 x10_1).f0))) (fun _ hk => hk.2) (.int .i64 ((rd_T99 t269 x10_1).f1))) (fun _ hk => hk.2) (.int .i64 ((rd_T99 t269 x10_1).f2))) (fun _ hk => hk.1.2)⟩, ⟨zk0 BK273.out⟩, ⟨zG GE273.out⟩⟩
    case round =>
    clear H'
    try clear c5
    try clear c5b0
    try clear c6
    try clear c6b0
    try clear c7
    try clear c7b0
    try clear hcz9_0
    try clear hcz9_1
    try clear hcz9_2
    try clear hfz9_0
    try clear hfz9_1
    try clear hfz9_2
    try clear hx272_0
    try clear hx272_1
    try clear hx272_2
    try clear p272
    try clear q272
    obtain ⟨x3_2, x6_2, rfl, HA, HK2, HO_3, HO_8, BK273, HB⟩ := hrel
    cases gk with
    | zero => exact absurd HA.out (by simp [impl_quadsOf.l1])
    | succ k2 =>
    have H := HA.out
    clear HA
    simp only [impl_quadsOf.l1] at H
    by_cases c10 : x6_2 < a0
    ·rw [if_pos c10] at H
     have c10b0 := decide_eq_true c10
     clear c10
     by_cases c11 : x3_2.length < 4398046511104
     ·rw [if_pos c11] at H
      have LMc11 := Aside0.mk c11
      clear c11
      obtain ⟨y274, hy274⟩ : ∃ y_ : List (S91), y_ = (x3_2 ++ [(⟨((rd_T99 t269 x10_1).f0), ((rd_T99 t269 x10_1).f1), ((rd_T99 t269 x10_1).f2), x6_2⟩ : S91)]) := ⟨_, rfl⟩
      replace H : (impl_quadsOf.l1 k2 a0 y274 (wrap64 (x6_2 + 1)) t269 (t269.length : Int) x10_1 ((rd_T99 t269 x10_1).f0) ((rd_T99 t269 x10_1).f1) ((rd_T99 t269 x10_1).f2)) = some r := by first | (rw [hy274]; with_reducible exact H) | (have H2_ := (Option.bind_some _ _).symm.trans H; rw [hy274]; with_reducible exact H2_) | (have H2_ := (Option.bind_some _ _).symm.trans H; with_reducible exact H2_) | with_reducible exact H | (rw [hy274]; exact H) | exact H
      have Ny274 := Aside0.mk hy274
      clear hy274
      have H' := Aside0.mk H; clear H
      obtain ⟨hcz12_0, hcz12_1, hcz12_2, hfz12_0, hfz12_1, hfz12_2⟩ := zq3 BK273.out
      go_wp2_with (first | ((with_reducible refine gate_builtin (b := .append) (xs := #[.tmp 22, .tmp 31]) rfl ?_); at_builtin; refine Kd.R_append k91 (w0 := w) w.heap.size rfl (.tmp 22) (.tmp 31) 89 91 (.agg #[(.int .i64 0), (.int .i64 0), (.int .i64 0), (.int .i64 0)]) 32 rfl Try.underlying89 info91 rfl (by decide) (by omega) u3 x3_2 (⟨((rd_T99 t269 x10_1).f0), ((rd_T99 t269 x10_1).f1), ((rd_T99 t269 x10_1).f2), x6_2⟩ : S91) [.int .i64 ((rd_T99 t269 x10_1).f0), .int .i64 ((rd_T99 t269 x10_1).f1), .int .i64 ((rd_T99 t269 x10_1).f2), .int .i64 x6_2] (fun _ => True) (fun _ => False) rfl rfl ?aP (fun _ hk => hk.elim) ?aF ?aO ?aB ?aS ?aL ?_; (case aP => exact k91_mkM _ _ _ (⟨((rd_T99 t269 x10_1).f0), ((rd_T99 t269 x10_1).f1), ((rd_T99 t269 x10_1).f2), x6_2⟩ : S91)); (case aB => exact (zG GE273.out)); (case aF => exact (fun _ _ => trivial)); (case aO => exact (zR HO_3.out)); (case aS => exact (below_size (zG GE273.out))); (case aL => have := LMc11.out; omega); intro v275 w13 ho hb hg hat; rw [← Ny274.out] at ho; have n0_ := Aside0.mk (Kd.R_over' (zR HO_8.out) (Kd.R_typed (zR HO_3.out)) (by decide) hg); have n1_ := Aside0.mk (blk_grown (g := gb273) (o := .cells #[.int .i64 ((rd_T99 t269 x10_1).f0), .int .i64 ((rd_T99 t269 x10_1).f1), .int .i64 ((rd_T99 t269 x10_1).f2)] 99 (0, 0)) (zK BK273.out) hg (Kd.R_ne HO_3.out BK273.out (by decide))); have n2_ := Aside0.mk (hb); have n3_ := Aside0.mk (ho); clear HO_8; clear BK273; clear HB; clear HO_3; have HO_8 := n0_; have BK273 := n1_; have HB := n2_; have HO276 := n3_; clear n0_ n1_ n2_ n3_; clear ho hb hg hat))
      go_roundg k2
      case measure => have := HK1.out; have := HK2.out; omega
      case rel => exact ⟨(y274), (wrap64 (x6_2 + 1)), zF, H', ⟨by have := HK1.out; have := HK2.out; omega⟩, ⟨zR HO276.out⟩, ⟨zR HO_8.out⟩, ⟨zK BK273.out⟩, ⟨zG GE273.out⟩⟩
     rw [if_neg c11] at H
     exact absurd H (by simp)
    rw [if_neg c10] at H
    have c10b0 := decide_eq_false c10
    clear c10
    have H' := Aside0.mk H; clear H
    go_wp2
    go_roundg k2
    case measure => have := HK1.out; have := HK2.out; omega
    case rel => exact ⟨(x3_2), (wrap64 (x10_1 + 1)), zF, H', ⟨by have := HK1.out; have := HK2.out; omega⟩, ⟨zR HO_3.out⟩, ⟨by (with_reducible repeat (first | apply Kd.R_alloc | apply Kd.R_drewN | apply Kd.R_drew)); exact Kd.R_mono HO_8.out (fun _ hk => trivial)⟩, ⟨zG GE273.out⟩⟩
   rw [if_neg c7] at H
   exact absurd H (by simp)
  rw [if_neg c6] at H
  exact absurd H (by simp)
 rw [if_neg c5] at H
 have c5b0 := decide_eq_false c5
 clear c5
 obtain rfl := Option.some.inj H
 go_wp2
 go_ret
 exact ⟨_, zE, zR HO_3.out, zB⟩
/-! ### impl_chi_breaks: function 143 -/
def impl_chi_breaks.f (l0 : List Int) (a1 : Int) (a2 : Int) (a3 : Int) (a4 : Int) (a5 : Int) : Option (Bool) := if 0 ≤ a1 then (if a1 < 7 then (if 0 ≤ a2 then (if a2 < 7 then (if 0 ≤ a3 then (if a3 < 7 then (if 0 ≤ a4 then (if a4 < 7 then (if 0 ≤ a5 then (if a5 < 7 then (if (wrap64 ((rd3 l0 a1 a2 a3) * (rd3 l0 a1 a4 a5))) = (wrap64 ((rd3 l0 a1 a2 a5) * (rd3 l0 a1 a3 a4))) then (some ((wrap64 ((rd3 l0 a1 a2 a5) * (rd3 l0 a1 a3 a4))) == (wrap64 ((wrap64 (-(rd3 l0 a1 a2 a4))) * (rd3 l0 a1 a3 a5))))) else (some false)) else (none)) else (none)) else (none)) else (none)) else (none)) else (none)) else (none)) else (none)) else (none)) else (none)
set_option maxHeartbeats 8000000 in
set_option maxRecDepth 100000 in
theorem impl_chi_breaks.calls (g0 : Nat) (l0 : List Int) (a1 : Int) (a2 : Int) (a3 : Int) (a4 : Int) (a5 : Int) (r : Bool) (w : World) (hr0 : Kd.C (Kd.int .i64) w (some ⟨g0, 0, none⟩) l0.length l0) (hc0 : l0.length = 344) (h : impl_chi_breaks.f l0 a1 a2 a3 a4 a5 = some r) :
  Calls Try.prog 143 #[.pointer (some ⟨g0, 0, none⟩), .int .i64 a1, .int .i64 a2, .int .i64 a3, .int .i64 a4, .int .i64 a5] w fun e w' => e = .returned (.bool r) ∧ Drawn0 w w' := by
 have hu115 := Try.underlying115
 have hu113 := Try.underlying113
 have hu112 := Try.underlying112
 have hu111 := Try.underlying111
 have HR0 := Aside0.mk hr0
 have HC0 := Aside0.mk hc0
 clear hr0 hc0
 have H : (if 0 ≤ a1 then (if a1 < 7 then (if 0 ≤ a2 then (if a2 < 7 then (if 0 ≤ a3 then (if a3 < 7 then (if 0 ≤ a4 then (if a4 < 7 then (if 0 ≤ a5 then (if a5 < 7 then (if (wrap64 ((rd3 l0 a1 a2 a3) * (rd3 l0 a1 a4 a5))) = (wrap64 ((rd3 l0 a1 a2 a5) * (rd3 l0 a1 a3 a4))) then (some ((wrap64 ((rd3 l0 a1 a2 a5) * (rd3 l0 a1 a3 a4))) == (wrap64 ((wrap64 (-(rd3 l0 a1 a2 a4))) * (rd3 l0 a1 a3 a5))))) else (some false)) else (none)) else (none)) else (none)) else (none)) else (none)) else (none)) else (none)) else (none)) else (none)) else (none)) = some r := h
 clear h
 by_cases c7 : 0 ≤ a1
 ·rw [if_pos c7] at H
  have c7b0 := decide_eq_true c7
  clear c7
  by_cases c8 : a1 < 7
  ·rw [if_pos c8] at H
   have c8b0 := decide_eq_true c8
   clear c8
   by_cases c9 : 0 ≤ a2
   ·rw [if_pos c9] at H
    have c9b0 := decide_eq_true c9
    clear c9
    by_cases c10 : a2 < 7
    ·rw [if_pos c10] at H
     have c10b0 := decide_eq_true c10
     clear c10
     by_cases c11 : 0 ≤ a3
     ·rw [if_pos c11] at H
      have c11b0 := decide_eq_true c11
      clear c11
      by_cases c12 : a3 < 7
      ·rw [if_pos c12] at H
       have c12b0 := decide_eq_true c12
       clear c12
       by_cases c13 : 0 ≤ a4
       ·rw [if_pos c13] at H
        have c13b0 := decide_eq_true c13
        clear c13
        by_cases c14 : a4 < 7
        ·rw [if_pos c14] at H
         have c14b0 := decide_eq_true c14
         clear c14
         by_cases c15 : 0 ≤ a5
         ·rw [if_pos c15] at H
          have c15b0 := decide_eq_true c15
          clear c15
          by_cases c16 : a5 < 7
          ·rw [if_pos c16] at H
           have c16b0 := decide_eq_true c16
           clear c16
           by_cases c17 : (wrap64 ((rd3 l0 a1 a2 a3) * (rd3 l0 a1 a4 a5))) = (wrap64 ((rd3 l0 a1 a2 a5) * (rd3 l0 a1 a3 a4)))
           ·rw [if_pos c17] at H
            have c17b0 := beq_iff_eq.mpr c17
            have c17b1 := bne_eq_false_iff_eq.mpr c17
            clear c17
            obtain rfl := Option.some.inj H
            have pz277_0 : 0 ≤ (a1 : Int) := zA
            have pz277_1 : 0 ≤ (a2 : Int) := zA
            have pz277_2 : 0 ≤ (a3 : Int) := zA
            have qz277_0 : (a1 : Int) < 7 := zA
            have qz277_1 : (a2 : Int) < 7 := zA
            have qz277_2 : (a3 : Int) < 7 := zA
            have hL277 := HC0.out
            have dp277 : decide (0 ≤ ((1 + a1 * 49 + a2 * 7 + a3) : Int)) = true := decide_eq_true (by omega)
            have dq277 : decide ((1 + a1 * 49 + a2 * 7 + a3) < (l0.length : Int)) = true := decide_eq_true (by omega)
            clear hL277
            have p277 : 0 ≤ ((1 + a1 * 49 + a2 * 7 + a3) : Int) := zA
            have q277 : (1 + a1 * 49 + a2 * 7 + a3) < (l0.length : Int) := zA
            obtain ⟨ad277, e277, hx277_0⟩ := Kd.at_int HR0.out (1 + a1 * 49 + a2 * 7 + a3) p277 q277
            obtain rfl : (⟨g0, 0, none⟩ : Addr) = ad277 := (by injection e277)
            (first | simp only [add_plain] at hx277_0 | simp only [add_at] at hx277_0 | simp only [Addr.add, Nat.zero_add] at hx277_0 | skip)
            replace p277 := eq_true p277
            replace q277 := eq_true q277
            clear dp277 dq277
            clear p277 q277
            rw [show ((1 + a1 * 49 + a2 * 7 + a3) : Int).toNat = 1 + (a1).toNat * 49 + (a2).toNat * 7 + (a3).toNat from by omega] at hx277_0
            change _ = some (Value.int .i64 (rd3 l0 a1 a2 a3)) at hx277_0
            replace pz277_0 := eq_true pz277_0
            replace pz277_1 := eq_true pz277_1
            replace pz277_2 := eq_true pz277_2
            replace qz277_0 := eq_true qz277_0
            replace qz277_1 := eq_true qz277_1
            replace qz277_2 := eq_true qz277_2
            have pz278_0 : 0 ≤ (a1 : Int) := zA
            have pz278_1 : 0 ≤ (a4 : Int) := zA
            have pz278_2 : 0 ≤ (a5 : Int) := zA
            have qz278_0 : (a1 : Int) < 7 := zA
            have qz278_1 : (a4 : Int) < 7 := zA
            have qz278_2 : (a5 : Int) < 7 := zA
            have hL278 := HC0.out
            have dp278 : decide (0 ≤ ((1 + a1 * 49 + a4 * 7 + a5) : Int)) = true := decide_eq_true (by omega)
            have dq278 : decide ((1 + a1 * 49 + a4 * 7 + a5) < (l0.length : Int)) = true := decide_eq_true (by omega)
            clear hL278
            have p278 : 0 ≤ ((1 + a1 * 49 + a4 * 7 + a5) : Int) := zA
            have q278 : (1 + a1 * 49 + a4 * 7 + a5) < (l0.length : Int) := zA
            obtain ⟨ad278, e278, hx278_0⟩ := Kd.at_int HR0.out (1 + a1 * 49 + a4 * 7 + a5) p278 q278
            obtain rfl : (⟨g0, 0, none⟩ : Addr) = ad278 := (by injection e278)
            (first | simp only [add_plain] at hx278_0 | simp only [add_at] at hx278_0 | simp only [Addr.add, Nat.zero_add] at hx278_0 | skip)
            replace p278 := eq_true p278
            replace q278 := eq_true q278
            clear dp278 dq278
            clear p278 q278
            rw [show ((1 + a1 * 49 + a4 * 7 + a5) : Int).toNat = 1 + (a1).toNat * 49 + (a4).toNat * 7 + (a5).toNat from by omega] at hx278_0
            change _ = some (Value.int .i64 (rd3 l0 a1 a4 a5)) at hx278_0
            replace pz278_0 := eq_true pz278_0
            replace pz278_1 := eq_true pz278_1
            replace pz278_2 := eq_true pz278_2
            replace qz278_0 := eq_true qz278_0
            replace qz278_1 := eq_true qz278_1
            replace qz278_2 := eq_true qz278_2
            have pz279_0 : 0 ≤ (a1 : Int) := zA
            have pz279_1 : 0 ≤ (a2 : Int) := zA
            have pz279_2 : 0 ≤ (a5 : Int) := zA
            have qz279_0 : (a1 : Int) < 7 := zA
            have qz279_1 : (a2 : Int) < 7 := zA
            have qz279_2 : (a5 : Int) < 7 := zA
            have hL279 := HC0.out
            have dp279 : decide (0 ≤ ((1 + a1 * 49 + a2 * 7 + a5) : Int)) = true := decide_eq_true (by omega)
            have dq279 : decide ((1 + a1 * 49 + a2 * 7 + a5) < (l0.length : Int)) = true := decide_eq_true (by omega)
            clear hL279
            have p279 : 0 ≤ ((1 + a1 * 49 + a2 * 7 + a5) : Int) := zA
            have q279 : (1 + a1 * 49 + a2 * 7 + a5) < (l0.length : Int) := zA
            obtain ⟨ad279, e279, hx279_0⟩ := Kd.at_int HR0.out (1 + a1 * 49 + a2 * 7 + a5) p279 q279
            obtain rfl : (⟨g0, 0, none⟩ : Addr) = ad279 := (by injection e279)
            (first | simp only [add_plain] at hx279_0 | simp only [add_at] at hx279_0 | simp only [Addr.add, Nat.zero_add] at hx279_0 | skip)
            replace p279 := eq_true p279
            replace q279 := eq_true q279
            clear dp279 dq279
            clear p279 q279
            rw [show ((1 + a1 * 49 + a2 * 7 + a5) : Int).toNat = 1 + (a1).toNat * 49 + (a2).toNat * 7 + (a5).toNat from by omega] at hx279_0
            change _ = some (Value.int .i64 (rd3 l0 a1 a2 a5)) at hx279_0
            replace pz279_0 := eq_true pz279_0
            replace pz279_1 := eq_true pz279_1
            replace pz279_2 := eq_true pz279_2
            replace qz279_0 := eq_true qz279_0
            replace qz279_1 := eq_true qz279_1
            replace qz279_2 := eq_true qz279_2
            have pz280_0 : 0 ≤ (a1 : Int) := zA
            have pz280_1 : 0 ≤ (a3 : Int) := zA
            have pz280_2 : 0 ≤ (a4 : Int) := zA
            have qz280_0 : (a1 : Int) < 7 := zA
            have qz280_1 : (a3 : Int) < 7 := zA
            have qz280_2 : (a4 : Int) < 7 := zA
            have hL280 := HC0.out
            have dp280 : decide (0 ≤ ((1 + a1 * 49 + a3 * 7 + a4) : Int)) = true := decide_eq_true (by omega)
            have dq280 : decide ((1 + a1 * 49 + a3 * 7 + a4) < (l0.length : Int)) = true := decide_eq_true (by omega)
            clear hL280
            have p280 : 0 ≤ ((1 + a1 * 49 + a3 * 7 + a4) : Int) := zA
            have q280 : (1 + a1 * 49 + a3 * 7 + a4) < (l0.length : Int) := zA
            obtain ⟨ad280, e280, hx280_0⟩ := Kd.at_int HR0.out (1 + a1 * 49 + a3 * 7 + a4) p280 q280
            obtain rfl : (⟨g0, 0, none⟩ : Addr) = ad280 := (by injection e280)
            (first | simp only [add_plain] at hx280_0 | simp only [add_at] at hx280_0 | simp only [Addr.add, Nat.zero_add] at hx280_0 | skip)
            replace p280 := eq_true p280
            replace q280 := eq_true q280
            clear dp280 dq280
            clear p280 q280
            rw [show ((1 + a1 * 49 + a3 * 7 + a4) : Int).toNat = 1 + (a1).toNat * 49 + (a3).toNat * 7 + (a4).toNat from by omega] at hx280_0
            change _ = some (Value.int .i64 (rd3 l0 a1 a3 a4)) at hx280_0
            replace pz280_0 := eq_true pz280_0
            replace pz280_1 := eq_true pz280_1
            replace pz280_2 := eq_true pz280_2
            replace qz280_0 := eq_true qz280_0
            replace qz280_1 := eq_true qz280_1
            replace qz280_2 := eq_true qz280_2
            have pz281_0 : 0 ≤ (a1 : Int) := zA
            have pz281_1 : 0 ≤ (a2 : Int) := zA
            have pz281_2 : 0 ≤ (a4 : Int) := zA
            have qz281_0 : (a1 : Int) < 7 := zA
            have qz281_1 : (a2 : Int) < 7 := zA
            have qz281_2 : (a4 : Int) < 7 := zA
            have hL281 := HC0.out
            have dp281 : decide (0 ≤ ((1 + a1 * 49 + a2 * 7 + a4) : Int)) = true := decide_eq_true (by omega)
            have dq281 : decide ((1 + a1 * 49 + a2 * 7 + a4) < (l0.length : Int)) = true := decide_eq_true (by omega)
            clear hL281
            have p281 : 0 ≤ ((1 + a1 * 49 + a2 * 7 + a4) : Int) := zA
            have q281 : (1 + a1 * 49 + a2 * 7 + a4) < (l0.length : Int) := zA
            obtain ⟨ad281, e281, hx281_0⟩ := Kd.at_int HR0.out (1 + a1 * 49 + a2 * 7 + a4) p281 q281
            obtain rfl : (⟨g0, 0, none⟩ : Addr) = ad281 := (by injection e281)
            (first | simp only [add_plain] at hx281_0 | simp only [add_at] at hx281_0 | simp only [Addr.add, Nat.zero_add] at hx281_0 | skip)
            replace p281 := eq_true p281
            replace q281 := eq_true q281
            clear dp281 dq281
            clear p281 q281
            rw [show ((1 + a1 * 49 + a2 * 7 + a4) : Int).toNat = 1 + (a1).toNat * 49 + (a2).toNat * 7 + (a4).toNat from by omega] at hx281_0
            change _ = some (Value.int .i64 (rd3 l0 a1 a2 a4)) at hx281_0
            replace pz281_0 := eq_true pz281_0
            replace pz281_1 := eq_true pz281_1
            replace pz281_2 := eq_true pz281_2
            replace qz281_0 := eq_true qz281_0
            replace qz281_1 := eq_true qz281_1
            replace qz281_2 := eq_true qz281_2
            have pz282_0 : 0 ≤ (a1 : Int) := zA
            have pz282_1 : 0 ≤ (a3 : Int) := zA
            have pz282_2 : 0 ≤ (a5 : Int) := zA
            have qz282_0 : (a1 : Int) < 7 := zA
            have qz282_1 : (a3 : Int) < 7 := zA
            have qz282_2 : (a5 : Int) < 7 := zA
            have hL282 := HC0.out
            have dp282 : decide (0 ≤ ((1 + a1 * 49 + a3 * 7 + a5) : Int)) = true := decide_eq_true (by omega)
            have dq282 : decide ((1 + a1 * 49 + a3 * 7 + a5) < (l0.length : Int)) = true := decide_eq_true (by omega)
            clear hL282
            have p282 : 0 ≤ ((1 + a1 * 49 + a3 * 7 + a5) : Int) := zA
            have q282 : (1 + a1 * 49 + a3 * 7 + a5) < (l0.length : Int) := zA
            obtain ⟨ad282, e282, hx282_0⟩ := Kd.at_int HR0.out (1 + a1 * 49 + a3 * 7 + a5) p282 q282
            obtain rfl : (⟨g0, 0, none⟩ : Addr) = ad282 := (by injection e282)
            (first | simp only [add_plain] at hx282_0 | simp only [add_at] at hx282_0 | simp only [Addr.add, Nat.zero_add] at hx282_0 | skip)
            replace p282 := eq_true p282
            replace q282 := eq_true q282
            clear dp282 dq282
            clear p282 q282
            rw [show ((1 + a1 * 49 + a3 * 7 + a5) : Int).toNat = 1 + (a1).toNat * 49 + (a3).toNat * 7 + (a5).toNat from by omega] at hx282_0
            change _ = some (Value.int .i64 (rd3 l0 a1 a3 a5)) at hx282_0
            replace pz282_0 := eq_true pz282_0
            replace pz282_1 := eq_true pz282_1
            replace pz282_2 := eq_true pz282_2
            replace qz282_0 := eq_true qz282_0
            replace qz282_1 := eq_true qz282_1
            replace qz282_2 := eq_true qz282_2
            go_enter Try.func143, Try.ntmps143
            go_wp2
            repeat (go_quiet (fail); try go_wp2)
            go_ret
            exact ⟨by first | rfl | (simp; done) | (simp [*]; done), by repeat (first | exact Drawn0.refl _ | apply Drawn0.step)⟩
           rw [if_neg c17] at H
           have c17b0 := beq_eq_false_iff_ne.mpr c17
           have c17b1 := bne_iff_ne.mpr c17
           obtain rfl := Option.some.inj H
           have pz277_0 : 0 ≤ (a1 : Int) := zA
           have pz277_1 : 0 ≤ (a2 : Int) := zA
           have pz277_2 : 0 ≤ (a3 : Int) := zA
           have qz277_0 : (a1 : Int) < 7 := zA
           have qz277_1 : (a2 : Int) < 7 := zA
           have qz277_2 : (a3 : Int) < 7 := zA
           have hL277 := HC0.out
           have dp277 : decide (0 ≤ ((1 + a1 * 49 + a2 * 7 + a3) : Int)) = true := decide_eq_true (by omega)
           have dq277 : decide ((1 + a1 * 49 + a2 * 7 + a3) < (l0.length : Int)) = true := decide_eq_true (by omega)
           clear hL277
           have p277 : 0 ≤ ((1 + a1 * 49 + a2 * 7 + a3) : Int) := zA
           have q277 : (1 + a1 * 49 + a2 * 7 + a3) < (l0.length : Int) := zA
           obtain ⟨ad277, e277, hx277_0⟩ := Kd.at_int HR0.out (1 + a1 * 49 + a2 * 7 + a3) p277 q277
           obtain rfl : (⟨g0, 0, none⟩ : Addr) = ad277 := (by injection e277)
           (first | simp only [add_plain] at hx277_0 | simp only [add_at] at hx277_0 | simp only [Addr.add, Nat.zero_add] at hx277_0 | skip)
           replace p277 := eq_true p277
           replace q277 := eq_true q277
           clear dp277 dq277
           clear p277 q277
           rw [show ((1 + a1 * 49 + a2 * 7 + a3) : Int).toNat = 1 + (a1).toNat * 49 + (a2).toNat * 7 + (a3).toNat from by omega] at hx277_0
           change _ = some (Value.int .i64 (rd3 l0 a1 a2 a3)) at hx277_0
           replace pz277_0 := eq_true pz277_0
           replace pz277_1 := eq_true pz277_1
           replace pz277_2 := eq_true pz277_2
           replace qz277_0 := eq_true qz277_0
           replace qz277_1 := eq_true qz277_1
           replace qz277_2 := eq_true qz277_2
           have pz278_0 : 0 ≤ (a1 : Int) := zA
           have pz278_1 : 0 ≤ (a4 : Int) := zA
           have pz278_2 : 0 ≤ (a5 : Int) := zA
           have qz278_0 : (a1 : Int) < 7 := zA
           have qz278_1 : (a4 : Int) < 7 := zA
           have qz278_2 : (a5 : Int) < 7 := zA
           have hL278 := HC0.out
           have dp278 : decide (0 ≤ ((1 + a1 * 49 + a4 * 7 + a5) : Int)) = true := decide_eq_true (by omega)
           have dq278 : decide ((1 + a1 * 49 + a4 * 7 + a5) < (l0.length : Int)) = true := decide_eq_true (by omega)
           clear hL278
           have p278 : 0 ≤ ((1 + a1 * 49 + a4 * 7 + a5) : Int) := zA
           have q278 : (1 + a1 * 49 + a4 * 7 + a5) < (l0.length : Int) := zA
           obtain ⟨ad278, e278, hx278_0⟩ := Kd.at_int HR0.out (1 + a1 * 49 + a4 * 7 + a5) p278 q278
           obtain rfl : (⟨g0, 0, none⟩ : Addr) = ad278 := (by injection e278)
           (first | simp only [add_plain] at hx278_0 | simp only [add_at] at hx278_0 | simp only [Addr.add, Nat.zero_add] at hx278_0 | skip)
           replace p278 := eq_true p278
           replace q278 := eq_true q278
           clear dp278 dq278
           clear p278 q278
           rw [show ((1 + a1 * 49 + a4 * 7 + a5) : Int).toNat = 1 + (a1).toNat * 49 + (a4).toNat * 7 + (a5).toNat from by omega] at hx278_0
           change _ = some (Value.int .i64 (rd3 l0 a1 a4 a5)) at hx278_0
           replace pz278_0 := eq_true pz278_0
           replace pz278_1 := eq_true pz278_1
           replace pz278_2 := eq_true pz278_2
           replace qz278_0 := eq_true qz278_0
           replace qz278_1 := eq_true qz278_1
           replace qz278_2 := eq_true qz278_2
           have pz279_0 : 0 ≤ (a1 : Int) := zA
           have pz279_1 : 0 ≤ (a2 : Int) := zA
           have pz279_2 : 0 ≤ (a5 : Int) := zA
           have qz279_0 : (a1 : Int) < 7 := zA
           have qz279_1 : (a2 : Int) < 7 := zA
           have qz279_2 : (a5 : Int) < 7 := zA
           have hL279 := HC0.out
           have dp279 : decide (0 ≤ ((1 + a1 * 49 + a2 * 7 + a5) : Int)) = true := decide_eq_true (by omega)
           have dq279 : decide ((1 + a1 * 49 + a2 * 7 + a5) < (l0.length : Int)) = true := decide_eq_true (by omega)
           clear hL279
           have p279 : 0 ≤ ((1 + a1 * 49 + a2 * 7 + a5) : Int) := zA
           have q279 : (1 + a1 * 49 + a2 * 7 + a5) < (l0.length : Int) := zA
           obtain ⟨ad279, e279, hx279_0⟩ := Kd.at_int HR0.out (1 + a1 * 49 + a2 * 7 + a5) p279 q279
           obtain rfl : (⟨g0, 0, none⟩ : Addr) = ad279 := (by injection e279)
           (first | simp only [add_plain] at hx279_0 | simp only [add_at] at hx279_0 | simp only [Addr.add, Nat.zero_add] at hx279_0 | skip)
           replace p279 := eq_true p279
           replace q279 := eq_true q279
           clear dp279 dq279
           clear p279 q279
           rw [show ((1 + a1 * 49 + a2 * 7 + a5) : Int).toNat = 1 + (a1).toNat * 49 + (a2).toNat * 7 + (a5).toNat from by omega] at hx279_0
           change _ = some (Value.int .i64 (rd3 l0 a1 a2 a5)) at hx279_0
           replace pz279_0 := eq_true pz279_0
           replace pz279_1 := eq_true pz279_1
           replace pz279_2 := eq_true pz279_2
           replace qz279_0 := eq_true qz279_0
           replace qz279_1 := eq_true qz279_1
           replace qz279_2 := eq_true qz279_2
           have pz280_0 : 0 ≤ (a1 : Int) := zA
           have pz280_1 : 0 ≤ (a3 : Int) := zA
           have pz280_2 : 0 ≤ (a4 : Int) := zA
           have qz280_0 : (a1 : Int) < 7 := zA
           have qz280_1 : (a3 : Int) < 7 := zA
           have qz280_2 : (a4 : Int) < 7 := zA
           have hL280 := HC0.out
           have dp280 : decide (0 ≤ ((1 + a1 * 49 + a3 * 7 + a4) : Int)) = true := decide_eq_true (by omega)
           have dq280 : decide ((1 + a1 * 49 + a3 * 7 + a4) < (l0.length : Int)) = true := decide_eq_true (by omega)
           clear hL280
           have p280 : 0 ≤ ((1 + a1 * 49 + a3 * 7 + a4) : Int) := zA
           have q280 : (1 + a1 * 49 + a3 * 7 + a4) < (l0.length : Int) := zA
           obtain ⟨ad280, e280, hx280_0⟩ := Kd.at_int HR0.out (1 + a1 * 49 + a3 * 7 + a4) p280 q280
           obtain rfl : (⟨g0, 0, none⟩ : Addr) = ad280 := (by injection e280)
           (first | simp only [add_plain] at hx280_0 | simp only [add_at] at hx280_0 | simp only [Addr.add, Nat.zero_add] at hx280_0 | skip)
           replace p280 := eq_true p280
           replace q280 := eq_true q280
           clear dp280 dq280
           clear p280 q280
           rw [show ((1 + a1 * 49 + a3 * 7 + a4) : Int).toNat = 1 + (a1).toNat * 49 + (a3).toNat * 7 + (a4).toNat from by omega] at hx280_0
           change _ = some (Value.int .i64 (rd3 l0 a1 a3 a4)) at hx280_0
           replace pz280_0 := eq_true pz280_0
           replace pz280_1 := eq_true pz280_1
           replace pz280_2 := eq_true pz280_2
           replace qz280_0 := eq_true qz280_0
           replace qz280_1 := eq_true qz280_1
           replace qz280_2 := eq_true qz280_2
           have pz281_0 : 0 ≤ (a1 : Int) := zA
           have pz281_1 : 0 ≤ (a2 : Int) := zA
           have pz281_2 : 0 ≤ (a4 : Int) := zA
           have qz281_0 : (a1 : Int) < 7 := zA
           have qz281_1 : (a2 : Int) < 7 := zA
           have qz281_2 : (a4 : Int) < 7 := zA
           have hL281 := HC0.out
           have dp281 : decide (0 ≤ ((1 + a1 * 49 + a2 * 7 + a4) : Int)) = true := decide_eq_true (by omega)
           have dq281 : decide ((1 + a1 * 49 + a2 * 7 + a4) < (l0.length : Int)) = true := decide_eq_true (by omega)
           clear hL281
           have p281 : 0 ≤ ((1 + a1 * 49 + a2 * 7 + a4) : Int) := zA
           have q281 : (1 + a1 * 49 + a2 * 7 + a4) < (l0.length : Int) := zA
           obtain ⟨ad281, e281, hx281_0⟩ := Kd.at_int HR0.out (1 + a1 * 49 + a2 * 7 + a4) p281 q281
           obtain rfl : (⟨g0, 0, none⟩ : Addr) = ad281 := (by injection e281)
           (first | simp only [add_plain] at hx281_0 | simp only [add_at] at hx281_0 | simp only [Addr.add, Nat.zero_add] at hx281_0 | skip)
           replace p281 := eq_true p281
           replace q281 := eq_true q281
           clear dp281 dq281
           clear p281 q281
           rw [show ((1 + a1 * 49 + a2 * 7 + a4) : Int).toNat = 1 + (a1).toNat * 49 + (a2).toNat * 7 + (a4).toNat from by omega] at hx281_0
           change _ = some (Value.int .i64 (rd3 l0 a1 a2 a4)) at hx281_0
           replace pz281_0 := eq_true pz281_0
           replace pz281_1 := eq_true pz281_1
           replace pz281_2 := eq_true pz281_2
           replace qz281_0 := eq_true qz281_0
           replace qz281_1 := eq_true qz281_1
           replace qz281_2 := eq_true qz281_2
           have pz282_0 : 0 ≤ (a1 : Int) := zA
           have pz282_1 : 0 ≤ (a3 : Int) := zA
           have pz282_2 : 0 ≤ (a5 : Int) := zA
           have qz282_0 : (a1 : Int) < 7 := zA
           have qz282_1 : (a3 : Int) < 7 := zA
           have qz282_2 : (a5 : Int) < 7 := zA
           have hL282 := HC0.out
           have dp282 : decide (0 ≤ ((1 + a1 * 49 + a3 * 7 + a5) : Int)) = true := decide_eq_true (by omega)
           have dq282 : decide ((1 + a1 * 49 + a3 * 7 + a5) < (l0.length : Int)) = true := decide_eq_true (by omega)
           clear hL282
           have p282 : 0 ≤ ((1 + a1 * 49 + a3 * 7 + a5) : Int) := zA
           have q282 : (1 + a1 * 49 + a3 * 7 + a5) < (l0.length : Int) := zA
           obtain ⟨ad282, e282, hx282_0⟩ := Kd.at_int HR0.out (1 + a1 * 49 + a3 * 7 + a5) p282 q282
           obtain rfl : (⟨g0, 0, none⟩ : Addr) = ad282 := (by injection e282)
           (first | simp only [add_plain] at hx282_0 | simp only [add_at] at hx282_0 | simp only [Addr.add, Nat.zero_add] at hx282_0 | skip)
           replace p282 := eq_true p282
           replace q282 := eq_true q282
           clear dp282 dq282
           clear p282 q282
           rw [show ((1 + a1 * 49 + a3 * 7 + a5) : Int).toNat = 1 + (a1).toNat * 49 + (a3).toNat * 7 + (a5).toNat from by omega] at hx282_0
           change _ = some (Value.int .i64 (rd3 l0 a1 a3 a5)) at hx282_0
           replace pz282_0 := eq_true pz282_0
           replace pz282_1 := eq_true pz282_1
           replace pz282_2 := eq_true pz282_2
           replace qz282_0 := eq_true qz282_0
           replace qz282_1 := eq_true qz282_1
           replace qz282_2 := eq_true qz282_2
           go_enter Try.func143, Try.ntmps143
           go_wp2
           repeat (go_quiet (fail); try go_wp2)
           go_ret
           exact ⟨by first | rfl | (simp; done) | (simp [*]; done), by repeat (first | exact Drawn0.refl _ | apply Drawn0.step)⟩
          rw [if_neg c16] at H
          exact absurd H (by simp)
         rw [if_neg c15] at H
         exact absurd H (by simp)
        rw [if_neg c14] at H
        exact absurd H (by simp)
       rw [if_neg c13] at H
       exact absurd H (by simp)
      rw [if_neg c12] at H
      exact absurd H (by simp)
     rw [if_neg c11] at H
     exact absurd H (by simp)
    rw [if_neg c10] at H
    exact absurd H (by simp)
   rw [if_neg c9] at H
   exact absurd H (by simp)
  rw [if_neg c8] at H
  exact absurd H (by simp)
 rw [if_neg c7] at H
 exact absurd H (by simp)
/-! ### impl_chi_firstBreak: function 84 -/
mutual
def impl_chi_firstBreak.l0 : Nat → List Int → Int → Option (List Int)
 | 0, _, _ => none
 | k + 1, x0, x3 => if x3 < (rd x0 0) then ((impl_quadsOf.f k (rd x0 0)).bind fun t285 => (impl_chi_firstBreak.l1 k x0 x3 t285 (t285.length : Int) 0)) else (some ([] : List Int))
def impl_chi_firstBreak.l1 : Nat → List Int → Int → List (S91) → Int → Int → Option (List Int)
 | 0, _, _, _, _, _ => none
 | k + 1, x0, x3, x18, x19, x20 => if x20 < x19 then (if 0 ≤ x20 then (if x20 < (x18.length : Int) then (if ((rd_T91 x18 x20).f0) = x3 then (impl_chi_firstBreak.l1 k x0 x3 x18 x19 (wrap64 (x20 + 1))) else (if ((rd_T91 x18 x20).f1) = x3 then (impl_chi_firstBreak.l1 k x0 x3 x18 x19 (wrap64 (x20 + 1))) else (if ((rd_T91 x18 x20).f2) = x3 then (impl_chi_firstBreak.l1 k x0 x3 x18 x19 (wrap64 (x20 + 1))) else (if ((rd_T91 x18 x20).f3) = x3 then (impl_chi_firstBreak.l1 k x0 x3 x18 x19 (wrap64 (x20 + 1))) else ((impl_chi_breaks.f x0 x3 ((rd_T91 x18 x20).f0) ((rd_T91 x18 x20).f1) ((rd_T91 x18 x20).f2) ((rd_T91 x18 x20).f3)).bind fun t290 => (if t290 = true then (some (([x3, (rd_T91 x18 x20).f0, (rd_T91 x18 x20).f1, (rd_T91 x18 x20).f2, (rd_T91 x18 x20).f3] : List Int))) else (impl_chi_firstBreak.l1 k x0 x3 x18 x19 (wrap64 (x20 + 1))))))))) else (none)) else (none)) else (impl_chi_firstBreak.l0 k x0 (wrap64 (x3 + 1)))
end
def impl_chi_firstBreak.f (k : Nat) (l0 : List Int) : Option (List Int) := impl_chi_firstBreak.l0 k l0 0
/-! ### impl_FirstBreak: function 9 -/
def impl_FirstBreak.f (k : Nat) (a0_0 : Int) (a0_1 : ByteArray) : Option (List Int) := (impl_AreSigns.f k a0_0 a0_1).bind fun t295 => (if t295 = true then ((impl_tableOf.f k a0_0 a0_1).bind fun t296 => (if t296.length = 344 then ((impl_chi_firstBreak.f k t296).bind fun t299 => (some t299)) else (none))) else (some ([] : List Int)))
end Go.Proofs.Ytckkfjdkaimmhaa.PX
namespace Go.Proofs.Ytckkfjdkaimmhaa.PX
open Go.RowKit Go.Proofs.Ytckkfjdkaimmhaa.G Go.Proofs.YtckkfjdkaimmhaaW.PrintWords Go.Proofs.YtckkfjdkaimmhaaW.PrintLast Go.Proofs.YtckkfjdkaimmhaaW.PrintMore
attribute [local go_sem] max2_int min2_int max_two min_two max_three min_three max_four min_four   -- for this text's walks alone
set_option linter.unusedVariables false
set_option linter.unusedSimpArgs false
set_option maxHeartbeats 8000000 in
set_option maxRecDepth 100000 in
theorem impl_chi_firstBreak.callsN (k : Nat) (g0 : Nat) (l0 : List Int) (r : List Int) (w : World) (hr0 : Kd.C (Kd.int .i64) w (some ⟨g0, 0, none⟩) l0.length l0) (hc0 : l0.length = 344) (h : impl_chi_firstBreak.f k l0 = some r) :
  Calls Try.prog 84 #[.pointer (some ⟨g0, 0, none⟩)] w fun e w' => ∃ v0_ : Value, e = .returned (v0_) ∧ (Kd.R (Kd.int .i64) 3 w' w.heap.size (fun _ => True) v0_ r ∧ (r = [] → v0_ = .slice none 0 0)) ∧ Below w.heap.size w w' := by
 have hu91 := Try.underlying91
 have hu115 := Try.underlying115
 have HR0 := Aside0.mk hr0
 have HC0 := Aside0.mk hc0
 clear hr0 hc0
 have HB := Aside0.mk (Below.refl w.heap.size w)
 have H : (impl_chi_firstBreak.l0 k l0 0) = some r := h
 clear h
 have H' := Aside0.mk H; clear H
 go_enter Try.func84, Try.ntmps84
 go_wp2
 go_loopg [3] k (fun kq v3 w' => ∃ (x3_1 : Int), v3 = .int .i64 x3_1 ∧ Aside0 (impl_chi_firstBreak.l0 kq l0 x3_1 = some r) ∧ Aside0 (kq ≤ k) ∧ Aside0 (Below w.heap.size w w'))
 case atStart => exact ⟨(0), zF, H', ⟨Nat.le_refl _⟩, ⟨zB⟩⟩
 case round =>
 clear H'
 obtain ⟨x3_1, rfl, HA, HK1, HB⟩ := hrel
 cases gk with
 | zero => exact absurd HA.out (by simp [impl_chi_firstBreak.l0])
 | succ k1 =>
 have H := HA.out
 clear HA
 simp only [impl_chi_firstBreak.l0] at H
 by_cases c2 : x3_1 < (rd l0 0)
 ·rw [if_pos c2] at H
  have c2b0 := decide_eq_true c2
  clear c2
  obtain ⟨t285, A3, H⟩ := zO H
  have H' := Aside0.mk H; clear H
  have hL283 := HC0.out
  have dq283 : decide (0 < (l0.length : Int)) = true := decide_eq_true (by omega)
  clear hL283
  have p283 : 0 ≤ (0 : Int) := (by omega)
  have q283 : 0 < (l0.length : Int) := zA
  obtain ⟨ad283, e283, hx283_0⟩ := Kd.at_int HR0.out 0 p283 q283
  obtain rfl : (⟨g0, 0, none⟩ : Addr) = ad283 := (by injection e283)
  (first | simp only [add_plain] at hx283_0 | simp only [add_at] at hx283_0 | simp only [Addr.add, Nat.zero_add] at hx283_0 | skip)
  have qi283 : (0 < l0.length) = True := eq_true (by omega)
  (try rw [show ((0 : Int)).toNat = 0 from rfl] at hx283_0)
  (try rw [Addr.add_zero'] at hx283_0)
  replace hx283_0 := (HB.out.cell (World.block_lt_of_cell? w _ hx283_0)).trans hx283_0
  replace p283 := eq_true p283
  replace q283 := eq_true q283
  clear dq283
  have hL284 := HC0.out
  have dq284 : decide (0 < (l0.length : Int)) = true := decide_eq_true (by omega)
  clear hL284
  have p284 : 0 ≤ (0 : Int) := (by omega)
  have q284 : 0 < (l0.length : Int) := zA
  obtain ⟨ad284, e284, hx284_0⟩ := Kd.at_int HR0.out 0 p284 q284
  obtain rfl : (⟨g0, 0, none⟩ : Addr) = ad284 := (by injection e284)
  (first | simp only [add_plain] at hx284_0 | simp only [add_at] at hx284_0 | simp only [Addr.add, Nat.zero_add] at hx284_0 | skip)
  have qi284 : (0 < l0.length) = True := eq_true (by omega)
  (try rw [show ((0 : Int)).toNat = 0 from rfl] at hx284_0)
  (try rw [Addr.add_zero'] at hx284_0)
  replace hx284_0 := (HB.out.cell (World.block_lt_of_cell? w _ hx284_0)).trans hx284_0
  replace p284 := eq_true p284
  replace q284 := eq_true q284
  clear dq284
  go_wp2_with (first | ((with_reducible refine gate_callee (f := 110) rfl ?_); refine zD (some 18) Try.func110 #[.int .i64 (rd l0 0)] ?_; (with_reducible refine (impl_quadsOf.calls k1 (rd l0 0) t285 _ A3.out).mono ?_); rintro e w4 ⟨v286, rfl, ho0, hb⟩; refine ⟨_, rfl, ?_⟩; have HO287 := Aside0.mk (Kd.R_lower ho0 (below_size zB)); replace HB := zX hb; (try clear hb); (try clear ho0); obtain ⟨Ao5, co5, eo5⟩ := Kd.R_slice HO287.out; subst eo5))
  go_loopg [20] k1 (fun kq v20 w' => ∃ (x20_2 : Int), v20 = .int .i64 x20_2 ∧ Aside0 (impl_chi_firstBreak.l1 kq l0 x3_1 t285 (t285.length : Int) x20_2 = some r) ∧ Aside0 (kq ≤ k1) ∧ Aside0 (Kd.R k91 91 w' w.heap.size (fun _ => True) (.slice Ao5 t285.length co5) t285) ∧ Aside0 (Below w.heap.size w w'))
  case atStart => exact ⟨(0), zF, H', ⟨Nat.le_refl _⟩, ⟨zR HO287.out⟩, ⟨zB⟩⟩
  case round =>
  clear H'
  try clear c2
  try clear c2b0
  try clear hx283_0
  try clear hx284_0
  try clear p283
  try clear p284
  try clear q283
  try clear q284
  obtain ⟨x20_2, rfl, HA, HK2, HO_18, HB⟩ := hrel
  cases gk with
  | zero => exact absurd HA.out (by simp [impl_chi_firstBreak.l1])
  | succ k2 =>
  have H := HA.out
  clear HA
  simp only [impl_chi_firstBreak.l1] at H
  by_cases c6 : x20_2 < (t285.length : Int)
  ·rw [if_pos c6] at H
   have c6b0 := decide_eq_true c6
   clear c6
   by_cases c7 : 0 ≤ x20_2
   ·rw [if_pos c7] at H
    have c7b0 := decide_eq_true c7
    clear c7
    by_cases c8 : x20_2 < (t285.length : Int)
    ·rw [if_pos c8] at H
     have c8b0 := decide_eq_true c8
     clear c8
     by_cases c9 : ((rd_T91 t285 x20_2).f0) = x3_1
     ·rw [if_pos c9] at H
      have c9b0 := beq_iff_eq.mpr c9
      have c9b1 := bne_eq_false_iff_eq.mpr c9
      clear c9
      have H' := Aside0.mk H; clear H
      have p288 : 0 ≤ (x20_2 : Int) := zA
      have q288 : x20_2 < (t285.length : Int) := zA
      obtain ⟨ad288, e288, hx288_0, hx288_1, hx288_2, hx288_3⟩ := at_T91 (Kd.R_reads' HO_18.out).2.2 x20_2 p288 q288
      cases e288
      replace p288 := eq_true p288
      replace q288 := eq_true q288
      go_wp2_with (first | ((with_reducible refine gate_dst (N := 5) rfl ?_); refine zBx (N := 5) #[.int .i64 0, .int .i64 0, .int .i64 0, .int .i64 0] 91 ?_; intro gb289 hg w10 hbox hb; replace HO_18 := Aside0.mk (Kd.R_below (Kd.R_elderB (zR HO_18.out) gb289 (Nat.le_of_eq hg.symm)) hb); have BK289 := Aside0.mk (hbox); have GW289 := zS hg; have GE289 := zS hg; replace HB := zX hb; clear hb hbox hg; obtain ⟨hcz11_0, hcz11_1, hcz11_2, hcz11_3, hfz11_0, hfz11_1, hfz11_2, hfz11_3⟩ := zq4 BK289.out))
      go_roundg k2
      case measure => have := HK1.out; have := HK2.out; omega
      case rel => exact ⟨(wrap64 (x20_2 + 1)), zF, H', ⟨by have := HK1.out; have := HK2.out; omega⟩, ⟨by (with_reducible repeat (first | apply Kd.R_alloc | apply Kd.R_drewN | apply Kd.R_drew)); exact Kd.R_mono (Kd.R_far (p := ⟨gb289, 3, none⟩) (Kd.R_far (p := ⟨gb289, 2, none⟩) (Kd.R_far (p := ⟨gb289, 1, none⟩) (Kd.R_far (p := ⟨gb289, 0, none⟩) (Kd.R_mono HO_18.out (fun k_ hk => (⟨hk, hk.2⟩ : _ ∧ k_ ≠ gb289))) (fun _ hk => hk.2) (.int .i64 ((rd_T91 t285 x20_2).f0))) (fun _ hk => hk.2) (.int .i64 ((rd_T91 t285 x20_2).f1))) (fun _ hk => hk.2) (.int .i64 ((rd_T91 t285 x20_2).f2))) (fun _ hk => hk.2) (.int .i64 ((rd_T91 t285 x20_2).f3))) (fun _ hk => trivial)⟩, ⟨zG GE289.out⟩⟩
     rw [if_neg c9] at H
     have c9b0 := beq_eq_false_iff_ne.mpr c9
     have c9b1 := bne_iff_ne.mpr c9
     by_cases c12 : ((rd_T91 t285 x20_2).f1) = x3_1
     ·rw [if_pos c12] at H
      have c12b0 := beq_iff_eq.mpr c12
      have c12b1 := bne_eq_false_iff_eq.mpr c12
      clear c12
      have H' := Aside0.mk H; clear H
      have p288 : 0 ≤ (x20_2 : Int) := zA
      have q288 : x20_2 < (t285.length : Int) := zA
      obtain ⟨ad288, e288, hx288_0, hx288_1, hx288_2, hx288_3⟩ := at_T91 (Kd.R_reads' HO_18.out).2.2 x20_2 p288 q288
      cases e288
      replace p288 := eq_true p288
      replace q288 := eq_true q288
      go_wp2_with (first | ((with_reducible refine gate_dst (N := 5) rfl ?_); refine zBx (N := 5) #[.int .i64 0, .int .i64 0, .int .i64 0, .int .i64 0] 91 ?_; intro gb289 hg w13 hbox hb; replace HO_18 := Aside0.mk (Kd.R_below (Kd.R_elderB (zR HO_18.out) gb289 (Nat.le_of_eq hg.symm)) hb); have BK289 := Aside0.mk (hbox); have GW289 := zS hg; have GE289 := zS hg; replace HB := zX hb; clear hb hbox hg; obtain ⟨hcz14_0, hcz14_1, hcz14_2, hcz14_3, hfz14_0, hfz14_1, hfz14_2, hfz14_3⟩ := zq4 BK289.out))
      go_roundg k2
      case measure => have := HK1.out; have := HK2.out; omega
      case rel => exact ⟨(wrap64 (x20_2 + 1)), zF, H', ⟨by have := HK1.out; have := HK2.out; omega⟩, ⟨by (with_reducible repeat (first | apply Kd.R_alloc | apply Kd.R_drewN | apply Kd.R_drew)); exact Kd.R_mono (Kd.R_far (p := ⟨gb289, 3, none⟩) (Kd.R_far (p := ⟨gb289, 2, none⟩) (Kd.R_far (p := ⟨gb289, 1, none⟩) (Kd.R_far (p := ⟨gb289, 0, none⟩) (Kd.R_mono HO_18.out (fun k_ hk => (⟨hk, hk.2⟩ : _ ∧ k_ ≠ gb289))) (fun _ hk => hk.2) (.int .i64 ((rd_T91 t285 x20_2).f0))) (fun _ hk => hk.2) (.int .i64 ((rd_T91 t285 x20_2).f1))) (fun _ hk => hk.2) (.int .i64 ((rd_T91 t285 x20_2).f2))) (fun _ hk => hk.2) (.int .i64 ((rd_T91 t285 x20_2).f3))) (fun _ hk => trivial)⟩, ⟨zG GE289.out⟩⟩
     rw [if_neg c12] at H
     have c12b0 := beq_eq_false_iff_ne.mpr c12
     have c12b1 := bne_iff_ne.mpr c12
     by_cases c15 : ((rd_T91 t285 x20_2).f2) = x3_1
     ·rw [if_pos c15] at H
      have c15b0 := beq_iff_eq.mpr c15
      have c15b1 := bne_eq_false_iff_eq.mpr c15
      clear c15
      have H' := Aside0.mk H; clear H
      have p288 : 0 ≤ (x20_2 : Int) := zA
      have q288 : x20_2 < (t285.length : Int) := zA
      obtain ⟨ad288, e288, hx288_0, hx288_1, hx288_2, hx288_3⟩ := at_T91 (Kd.R_reads' HO_18.out).2.2 x20_2 p288 q288
      cases e288
      replace p288 := eq_true p288
      replace q288 := eq_true q288
      go_wp2_with (first | ((with_reducible refine gate_dst (N := 5) rfl ?_); refine zBx (N := 5) #[.int .i64 0, .int .i64 0, .int .i64 0, .int .i64 0] 91 ?_; intro gb289 hg w16 hbox hb; replace HO_18 := Aside0.mk (Kd.R_below (Kd.R_elderB (zR HO_18.out) gb289 (Nat.le_of_eq hg.symm)) hb); have BK289 := Aside0.mk (hbox); have GW289 := zS hg; have GE289 := zS hg; replace HB := zX hb; clear hb hbox hg; obtain ⟨hcz17_0, hcz17_1, hcz17_2, hcz17_3, hfz17_0, hfz17_1, hfz17_2, hfz17_3⟩ := zq4 BK289.out))
      go_roundg k2
      case measure => have := HK1.out; have := HK2.out; omega
      case rel => exact ⟨(wrap64 (x20_2 + 1)), zF, H', ⟨by have := HK1.out; have := HK2.out; omega⟩, ⟨by (with_reducible repeat (first | apply Kd.R_alloc | apply Kd.R_drewN | apply Kd.R_drew)); exact Kd.R_mono (Kd.R_far (p := ⟨gb289, 3, none⟩) (Kd.R_far (p := ⟨gb289, 2, none⟩) (Kd.R_far (p := ⟨gb289, 1, none⟩) (Kd.R_far (p := ⟨gb289, 0, none⟩) (Kd.R_mono HO_18.out (fun k_ hk => (⟨hk, hk.2⟩ : _ ∧ k_ ≠ gb289))) (fun _ hk => hk.2) (.int .i64 ((rd_T91 t285 x20_2).f0))) (fun _ hk => hk.2) (.int .i64 ((rd_T91 t285 x20_2).f1))) (fun _ hk => hk.2) (.int .i64 ((rd_T91 t285 x20_2).f2))) (fun _ hk => hk.2) (.int .i64 ((rd_T91 t285 x20_2).f3))) (fun _ hk => trivial)⟩, ⟨zG GE289.out⟩⟩
     rw [if_neg c15] at H
     have c15b0 := beq_eq_false_iff_ne.mpr c15
     have c15b1 := bne_iff_ne.mpr c15
     by_cases c18 : ((rd_T91 t285 x20_2).f3) = x3_1
     ·rw [if_pos c18] at H
      have c18b0 := beq_iff_eq.mpr c18
      have c18b1 := bne_eq_false_iff_eq.mpr c18
      clear c18
      have H' := Aside0.mk H; clear H
      have p288 : 0 ≤ (x20_2 : Int) := zA
      have q288 : x20_2 < (t285.length : Int) := zA
      obtain ⟨ad288, e288, hx288_0, hx288_1, hx288_2, hx288_3⟩ := at_T91 (Kd.R_reads' HO_18.out).2.2 x20_2 p288 q288
      cases e288
      replace p288 := eq_true p288
      replace q288 := eq_true q288
      go_wp2_with (first | ((with_reducible refine gate_dst (N := 5) rfl ?_); refine zBx (N := 5) #[.int .i64 0, .int .i64 0, .int .i64 0, .int .i64 0] 91 ?_; intro gb289 hg w19 hbox hb; replace HO_18 := Aside0.mk (Kd.R_below (Kd.R_elderB (zR HO_18.out) gb289 (Nat.le_of_eq hg.symm)) hb); have BK289 := Aside0.mk (hbox); have GW289 := zS hg; have GE289 := zS hg; replace HB := zX hb; clear hb hbox hg; obtain ⟨hcz20_0, hcz20_1, hcz20_2, hcz20_3, hfz20_0, hfz20_1, hfz20_2, hfz20_3⟩ := zq4 BK289.out))
      go_roundg k2
      case measure => have := HK1.out; have := HK2.out; omega
      case rel => exact ⟨(wrap64 (x20_2 + 1)), zF, H', ⟨by have := HK1.out; have := HK2.out; omega⟩, ⟨by (with_reducible repeat (first | apply Kd.R_alloc | apply Kd.R_drewN | apply Kd.R_drew)); exact Kd.R_mono (Kd.R_far (p := ⟨gb289, 3, none⟩) (Kd.R_far (p := ⟨gb289, 2, none⟩) (Kd.R_far (p := ⟨gb289, 1, none⟩) (Kd.R_far (p := ⟨gb289, 0, none⟩) (Kd.R_mono HO_18.out (fun k_ hk => (⟨hk, hk.2⟩ : _ ∧ k_ ≠ gb289))) (fun _ hk => hk.2) (.int .i64 ((rd_T91 t285 x20_2).f0))) (fun _ hk => hk.2) (.int .i64 ((rd_T91 t285 x20_2).f1))) (fun _ hk => hk.2) (.int .i64 ((rd_T91 t285 x20_2).f2))) (fun _ hk => hk.2) (.int .i64 ((rd_T91 t285 x20_2).f3))) (fun _ hk => trivial)⟩, ⟨zG GE289.out⟩⟩
     rw [if_neg c18] at H
     have c18b0 := beq_eq_false_iff_ne.mpr c18
     have c18b1 := bne_iff_ne.mpr c18
     obtain ⟨t290, A21, H⟩ := zO H
     by_cases c22 : t290 = true
     ·subst c22
      replace H := (if_pos rfl).symm.trans H
      obtain ⟨y291, hy291⟩ : ∃ y_ : List Int, y_ = (([x3_1, (rd_T91 t285 x20_2).f0, (rd_T91 t285 x20_2).f1, (rd_T91 t285 x20_2).f2, (rd_T91 t285 x20_2).f3] : List Int)) := ⟨_, rfl⟩
      replace H : (some y291) = some r := by first | (rw [hy291]; with_reducible exact H) | (have H2_ := (Option.bind_some _ _).symm.trans H; rw [hy291]; with_reducible exact H2_) | (have H2_ := (Option.bind_some _ _).symm.trans H; with_reducible exact H2_) | with_reducible exact H | (rw [hy291]; exact H) | exact H
      have Ny291 := Aside0.mk hy291
      clear hy291
      obtain rfl := Option.some.inj H
      have p288 : 0 ≤ (x20_2 : Int) := zA
      have q288 : x20_2 < (t285.length : Int) := zA
      obtain ⟨ad288, e288, hx288_0, hx288_1, hx288_2, hx288_3⟩ := at_T91 (Kd.R_reads' HO_18.out).2.2 x20_2 p288 q288
      cases e288
      replace p288 := eq_true p288
      replace q288 := eq_true q288
      go_wp2_with (first | ((with_reducible refine gate_dst (N := 5) rfl ?_); refine zBx (N := 5) #[.int .i64 0, .int .i64 0, .int .i64 0, .int .i64 0] 91 ?_; intro gb289 hg w23 hbox hb; replace HO_18 := Aside0.mk (Kd.R_below (Kd.R_elderB (zR HO_18.out) gb289 (Nat.le_of_eq hg.symm)) hb); have BK289 := Aside0.mk (hbox); have GW289 := zS hg; have GE289 := zS hg; replace HB := zX hb; clear hb hbox hg; obtain ⟨hcz24_0, hcz24_1, hcz24_2, hcz24_3, hfz24_0, hfz24_1, hfz24_2, hfz24_3⟩ := zq4 BK289.out) | (go_at_call 143; (with_reducible refine (impl_chi_breaks.calls _ l0 x3_1 ((rd_T91 t285 x20_2).f0) ((rd_T91 t285 x20_2).f1) ((rd_T91 t285 x20_2).f2) ((rd_T91 t285 x20_2).f3) true _ ?side1 ?side2 A21.out).mono ?_); (case side1 => exact Kd.C_below HR0.out (zG GE289.out)); (case side2 => exact HC0.out); rintro e w' ⟨rfl, ⟨nd, rfl⟩⟩) | ((with_reducible refine gate_dst (N := 68) rfl ?_); refine Kd.R_lit (Kd.int .i64) _ 3 ?hg (N := 68) ?hd (xs := ([x3_1, (rd_T91 t285 x20_2).f0, (rd_T91 t285 x20_2).f1, (rd_T91 t285 x20_2).f2, (rd_T91 t285 x20_2).f3] : List Int)) (inner := [.int .i64 x3_1, .int .i64 ((rd_T91 t285 x20_2).f0), .int .i64 ((rd_T91 t285 x20_2).f1), .int .i64 ((rd_T91 t285 x20_2).f2), .int .i64 ((rd_T91 t285 x20_2).f3)]) (ok := fun _ => True) (okp := fun _ => True) ?hr ?hp (fun _ hk => hk) trivial (Below.refl _ _) (Nat.le_refl _) (by simp) ?_; (case hd => rfl); (case hg => rfl); (case hr => first | (go_simp; done) | (go_simp; rfl)); (case hp => exact (Reps.one (show Kd.M (Kd.int .i64) _ _ _ x3_1 [.int .i64 x3_1] from rfl) (Reps.one (show Kd.M (Kd.int .i64) _ _ _ ((rd_T91 t285 x20_2).f0) [.int .i64 ((rd_T91 t285 x20_2).f0)] from rfl) (Reps.one (show Kd.M (Kd.int .i64) _ _ _ ((rd_T91 t285 x20_2).f1) [.int .i64 ((rd_T91 t285 x20_2).f1)] from rfl) (Reps.one (show Kd.M (Kd.int .i64) _ _ _ ((rd_T91 t285 x20_2).f2) [.int .i64 ((rd_T91 t285 x20_2).f2)] from rfl) (Reps.one (show Kd.M (Kd.int .i64) _ _ _ ((rd_T91 t285 x20_2).f3) [.int .i64 ((rd_T91 t285 x20_2).f3)] from rfl) (Reps.none _ _))))))); intro v292 w25 ho26 hb hg_ hnew_; clear hg_ hnew_; (first | rw [← Ny291.out] at ho26 | (simp only [Int.reduceToNat] at ho26; rw [← Ny291.out] at ho26)); replace HO_18 := Aside0.mk (Kd.R_below (by (with_reducible repeat (first | apply Kd.R_alloc | apply Kd.R_drewN | apply Kd.R_drew)); exact (Kd.R_mono (Kd.R_far (p := ⟨gb289, 3, none⟩) (Kd.R_far (p := ⟨gb289, 2, none⟩) (Kd.R_far (p := ⟨gb289, 1, none⟩) (Kd.R_far (p := ⟨gb289, 0, none⟩) (Kd.R_mono HO_18.out (fun k_ hk => (⟨hk, hk.2⟩ : _ ∧ k_ ≠ gb289))) (fun _ hk => hk.2) (.int .i64 ((rd_T91 t285 x20_2).f0))) (fun _ hk => hk.2) (.int .i64 ((rd_T91 t285 x20_2).f1))) (fun _ hk => hk.2) (.int .i64 ((rd_T91 t285 x20_2).f2))) (fun _ hk => hk.2) (.int .i64 ((rd_T91 t285 x20_2).f3))) (fun _ h_ => h_.1))) hb); have HO293 := Aside0.mk (Kd.R_lower ho26 (below_size (zG GE289.out))); replace BK289 := Aside0.mk (blk_below (g := gb289) (o := .cells #[.int .i64 ((rd_T91 t285 x20_2).f0), .int .i64 ((rd_T91 t285 x20_2).f1), .int .i64 ((rd_T91 t285 x20_2).f2), .int .i64 ((rd_T91 t285 x20_2).f3)] 91 (0, 0)) (zk0 BK289.out) hb); replace HB := zX1 GE289.out hb; clear hb ho26))
      go_ret
      exact ⟨_, zE, ⟨zR HO293.out, fun h_ => by rw [Ny291.out] at h_; simp at h_⟩, zG GE289.out⟩
     replace c22 := Bool.eq_false_iff.mpr c22
     subst c22
     replace H := (if_neg zFf).symm.trans H
     have H' := Aside0.mk H; clear H
     have p288 : 0 ≤ (x20_2 : Int) := zA
     have q288 : x20_2 < (t285.length : Int) := zA
     obtain ⟨ad288, e288, hx288_0, hx288_1, hx288_2, hx288_3⟩ := at_T91 (Kd.R_reads' HO_18.out).2.2 x20_2 p288 q288
     cases e288
     replace p288 := eq_true p288
     replace q288 := eq_true q288
     go_wp2_with (first | ((with_reducible refine gate_dst (N := 5) rfl ?_); refine zBx (N := 5) #[.int .i64 0, .int .i64 0, .int .i64 0, .int .i64 0] 91 ?_; intro gb289 hg w27 hbox hb; replace HO_18 := Aside0.mk (Kd.R_below (Kd.R_elderB (zR HO_18.out) gb289 (Nat.le_of_eq hg.symm)) hb); have BK289 := Aside0.mk (hbox); have GW289 := zS hg; have GE289 := zS hg; replace HB := zX hb; clear hb hbox hg; obtain ⟨hcz28_0, hcz28_1, hcz28_2, hcz28_3, hfz28_0, hfz28_1, hfz28_2, hfz28_3⟩ := zq4 BK289.out) | (go_at_call 143; (with_reducible refine (impl_chi_breaks.calls _ l0 x3_1 ((rd_T91 t285 x20_2).f0) ((rd_T91 t285 x20_2).f1) ((rd_T91 t285 x20_2).f2) ((rd_T91 t285 x20_2).f3) false _ ?side1 ?side2 A21.out).mono ?_); (case side1 => exact Kd.C_below HR0.out (zG GE289.out)); (case side2 => exact HC0.out); rintro e w' ⟨rfl, ⟨nd, rfl⟩⟩))
     go_roundg k2
     case measure => have := HK1.out; have := HK2.out; omega
     case rel => exact ⟨(wrap64 (x20_2 + 1)), zF, H', ⟨by have := HK1.out; have := HK2.out; omega⟩, ⟨by (with_reducible repeat (first | apply Kd.R_alloc | apply Kd.R_drewN | apply Kd.R_drew)); exact Kd.R_mono (Kd.R_far (p := ⟨gb289, 3, none⟩) (Kd.R_far (p := ⟨gb289, 2, none⟩) (Kd.R_far (p := ⟨gb289, 1, none⟩) (Kd.R_far (p := ⟨gb289, 0, none⟩) (Kd.R_mono HO_18.out (fun k_ hk => (⟨hk, hk.2⟩ : _ ∧ k_ ≠ gb289))) (fun _ hk => hk.2) (.int .i64 ((rd_T91 t285 x20_2).f0))) (fun _ hk => hk.2) (.int .i64 ((rd_T91 t285 x20_2).f1))) (fun _ hk => hk.2) (.int .i64 ((rd_T91 t285 x20_2).f2))) (fun _ hk => hk.2) (.int .i64 ((rd_T91 t285 x20_2).f3))) (fun _ hk => trivial)⟩, ⟨zG GE289.out⟩⟩
    rw [if_neg c8] at H
    exact absurd H (by simp)
   rw [if_neg c7] at H
   exact absurd H (by simp)
  rw [if_neg c6] at H
  have c6b0 := decide_eq_false c6
  clear c6
  have H' := Aside0.mk H; clear H
  go_wp2
  go_roundg k2
  case measure => have := HK1.out; have := HK2.out; omega
  case rel => exact ⟨(wrap64 (x3_1 + 1)), zF, H', ⟨by have := HK1.out; have := HK2.out; omega⟩, ⟨zB⟩⟩
 rw [if_neg c2] at H
 have c2b0 := decide_eq_false c2
 clear c2
 obtain rfl := Option.some.inj H
 have hL283 := HC0.out
 have dq283 : decide (0 < (l0.length : Int)) = true := decide_eq_true (by omega)
 clear hL283
 have p283 : 0 ≤ (0 : Int) := (by omega)
 have q283 : 0 < (l0.length : Int) := zA
 obtain ⟨ad283, e283, hx283_0⟩ := Kd.at_int HR0.out 0 p283 q283
 obtain rfl : (⟨g0, 0, none⟩ : Addr) = ad283 := (by injection e283)
 (first | simp only [add_plain] at hx283_0 | simp only [add_at] at hx283_0 | simp only [Addr.add, Nat.zero_add] at hx283_0 | skip)
 have qi283 : (0 < l0.length) = True := eq_true (by omega)
 (try rw [show ((0 : Int)).toNat = 0 from rfl] at hx283_0)
 (try rw [Addr.add_zero'] at hx283_0)
 replace hx283_0 := (HB.out.cell (World.block_lt_of_cell? w _ hx283_0)).trans hx283_0
 replace p283 := eq_true p283
 replace q283 := eq_true q283
 clear dq283
 go_wp2
 go_ret
 exact ⟨_, zE, ⟨by first | exact Kd.R_nil _ _ _ _ _ | exact Kd.N_nil _ _ _ _ _ | exact Kd.V_nil _ _ _ _ _ | exact Kd.Q_nil _ _ _ _ _ | exact Kd.S_nil _ _ _ _ _, by first | rfl | exact fun _ => rfl⟩, zB⟩
set_option maxHeartbeats 8000000 in
set_option maxRecDepth 100000 in
theorem impl_FirstBreak.callsN (k : Nat) (a0_0 : Int) (a0_1 : ByteArray) (r : List Int) (w : World) (h : impl_FirstBreak.f k a0_0 a0_1 = some r) :
  Calls Try.prog 9 #[.agg #[.int .i64 a0_0, .string a0_1]] w fun e w' => ∃ v0_ : Value, e = .returned (v0_) ∧ (Kd.R (Kd.int .i64) 3 w' w.heap.size (fun _ => True) v0_ r ∧ (r = [] → v0_ = .slice none 0 0)) ∧ Below w.heap.size w w' := by
 have hu25 := Try.underlying25
 have HB := Aside0.mk (Below.refl w.heap.size w)
 have H : ((impl_AreSigns.f k a0_0 a0_1).bind fun t295 => (if t295 = true then ((impl_tableOf.f k a0_0 a0_1).bind fun t296 => (if t296.length = 344 then ((impl_chi_firstBreak.f k t296).bind fun t299 => (some t299)) else (none))) else (some ([] : List Int)))) = some r := h
 clear h
 obtain ⟨t295, A2, H⟩ := zO H
 by_cases c3 : t295 = true
 ·subst c3
  replace H := (if_pos rfl).symm.trans H
  obtain ⟨t296, A4, H⟩ := zO H
  by_cases c5 : t296.length = 344
  ·rw [if_pos c5] at H
   have c5b0 := eq_true c5
   have c5b1 := decide_eq_true c5
   clear c5
   obtain ⟨t299, A6, H⟩ := zO H
   obtain rfl := Option.some.inj H
   go_enter Try.func9, Try.ntmps9
   go_wp2_with (first | ((with_reducible refine gate_dst (N := 1) rfl ?_); refine zBx (N := 1) #[.int .i64 a0_0, .string a0_1] 25 ?_; intro gb294 hg w7 hbox hb; have BK294 := Aside0.mk (hbox); have GW294 := zS hg; have GE294 := zS hg; replace HB := zX hb; clear hb hbox hg; obtain ⟨hcz8_0, hcz8_1, hfz8_0, hfz8_1⟩ := zq2 BK294.out) | ((with_reducible refine gate_callee (f := 82) rfl ?_); refine zD (some 4) Try.func82 #[.agg #[.int .i64 a0_0, .string a0_1]] ?_; (with_reducible refine (impl_AreSigns.calls k a0_0 a0_1 true _ A2.out).mono ?_); rintro e w9 ⟨rfl, hb⟩; refine ⟨_, rfl, ?_⟩; replace BK294 := zV BK294.out hb; replace HB := zX1 GE294.out hb; (try clear hb); obtain ⟨hcz10_0, hcz10_1, hfz10_0, hfz10_1⟩ := zq2 BK294.out) | ((with_reducible refine gate_callee (f := 83) rfl ?_); refine zD (some 7) Try.func83 #[.agg #[.int .i64 a0_0, .string a0_1]] ?_; (with_reducible refine (impl_tableOf.calls k a0_0 a0_1 t296 _ A4.out).mono ?_); rintro e w11 ⟨v297, rfl, ho0, hb⟩; refine ⟨_, rfl, ?_⟩; have HO298 := Aside0.mk (Kd.R_lower ho0 (below_size (zG GE294.out))); replace BK294 := zV BK294.out hb; replace HB := zX1 GE294.out hb; (try clear hb); (try clear ho0); obtain ⟨go12, co12, eo12, gb12, gl12, cl12, HG12⟩ := Kd.R_form HO298.out (by have hl_ := Nat.le_of_eq (Eq.symm (zA : t296.length = 344)); omega); (first | cases eo12 | (injection eo12 with ea_ en_ ec_; (first | subst ea_ | (injection ea_ with ea_; subst ea_)); subst ec_; clear en_)); have GB12 := Aside0.mk gb12; have GG12 := Aside0.mk HG12; clear gb12 gl12 HG12) | ((with_reducible refine gate_callee (f := 84) rfl ?_); refine zD (some 8) Try.func84 #[.pointer (some ⟨go12, 0, none⟩)] ?_; (with_reducible refine (impl_chi_firstBreak.callsN k _ t296 t299 _ ?side1 ?side2 A6.out).mono ?_); (case side1 => repeat (first | exact (Kd.R_reads' HO298.out).2.2 | (with_reducible refine Kd.C_alloc ?_ _) | (with_reducible refine Kd.C_drewN ?_ _) | (with_reducible refine Kd.C_drew ?_))); (case side2 => exact (zA : t296.length = 344)); rintro e w13 ⟨v300, rfl, ⟨ho0, hn0⟩, hb⟩; have HN_ := Aside0.mk hn0; clear hn0; refine ⟨_, rfl, ?_⟩; replace HO298 := zW HO298.out hb; have HO301 := Aside0.mk (Kd.R_lower ho0 (below_size (zG GE294.out))); replace BK294 := zV BK294.out hb; replace HB := zX1 GE294.out hb; (try clear hb); (try clear hb2); (try clear hk); (try clear hi); (try clear ho0)))
   go_ret
   exact ⟨_, zE, ⟨zR HO301.out, HN_.out⟩, zG GE294.out⟩
  rw [if_neg c5] at H
  exact absurd H (by simp)
 replace c3 := Bool.eq_false_iff.mpr c3
 subst c3
 replace H := (if_neg zFf).symm.trans H
 obtain rfl := Option.some.inj H
 go_enter Try.func9, Try.ntmps9
 go_wp2_with (first | ((with_reducible refine gate_dst (N := 1) rfl ?_); refine zBx (N := 1) #[.int .i64 a0_0, .string a0_1] 25 ?_; intro gb294 hg w14 hbox hb; have BK294 := Aside0.mk (hbox); have GW294 := zS hg; have GE294 := zS hg; replace HB := zX hb; clear hb hbox hg; obtain ⟨hcz15_0, hcz15_1, hfz15_0, hfz15_1⟩ := zq2 BK294.out) | ((with_reducible refine gate_callee (f := 82) rfl ?_); refine zD (some 4) Try.func82 #[.agg #[.int .i64 a0_0, .string a0_1]] ?_; (with_reducible refine (impl_AreSigns.calls k a0_0 a0_1 false _ A2.out).mono ?_); rintro e w16 ⟨rfl, hb⟩; refine ⟨_, rfl, ?_⟩; replace BK294 := zV BK294.out hb; replace HB := zX1 GE294.out hb; (try clear hb)))
 go_ret
 exact ⟨_, zE, ⟨by first | exact Kd.R_nil _ _ _ _ _ | exact Kd.N_nil _ _ _ _ _ | exact Kd.V_nil _ _ _ _ _ | exact Kd.Q_nil _ _ _ _ _ | exact Kd.S_nil _ _ _ _ _, by first | rfl | exact fun _ => rfl⟩, zG GE294.out⟩
end Go.Proofs.Ytckkfjdkaimmhaa.PX
namespace Go.Proofs.Ytckkfjdkaimmhaa.M
open Go.RowKit Go.Proofs.YtckkfjdkaimmhaaW.PrintWords
section
variable {α β : Type} {r : α} {r' : β}
theorem ev_pos {c : Prop} [Decidable c] {a b : Nat → Option α} (h : c) (k : Ev a r) : Ev (fun n => if c then a n else b n) r := Ev.congr (fun _ => if_pos h) k
theorem ev_neg {c : Prop} [Decidable c] {a b : Nat → Option α} (h : ¬ c) (k : Ev b r) : Ev (fun n => if c then a n else b n) r := Ev.congr (fun _ => if_neg h) k
theorem ev_call {x : Option α} {a : α} {f : Nat → α → Option β} (h : x = some a) (k : Ev (fun n => f n a) r') : Ev (fun n => x.bind (f n)) r' := Ev.congr (fun n => by rw [h]; rfl) k
theorem ev_cast {g : Nat → Option α} {a b : α} (h : Ev g a) (e : a = b) : Ev g b := e ▸ h
theorem ev_step {g : Nat → Option α} (k : Ev (fun n => g (n + 1)) r) : Ev g r := Ev.step (fun _ => rfl) k
end
theorem wrap_id {x : Int} (h0 : -9223372036854775808 ≤ x) (h1 : x ≤ 9223372036854775807) : wrap64 x = x := by unfold wrap64; omega
theorem size_list (t : ByteArray) : t.size = t.data.toList.length := rfl
theorem bt_nat {t : ByteArray} {i : Nat} (h : i < t.data.toList.length) : bt t (i : Int) = ((t.data.toList[i]).toNat : Int) := by
 have h' : i < t.size := h
 unfold bt
 simp only [Int.toNat_natCast, h', dite_true]
 rfl
def isSg (c : UInt8) : Bool := c = 43 || c = 45
def cntW (n : Int) : Int := wrap64 (Int.tdiv (wrap64 ((wrap64 (n * (wrap64 (n - 1)))) * (wrap64 (n - 2)))) 6)
theorem cntW_3 : cntW 3 = 1 := by decide +kernel
theorem cntW_4 : cntW 4 = 4 := by decide +kernel
theorem cntW_5 : cntW 5 = 10 := by decide +kernel
theorem cntW_6 : cntW 6 = 20 := by decide +kernel
theorem cntW_7 : cntW 7 = 35 := by decide +kernel
def areOk (n : Int) (t : ByteArray) : Bool := decide (3 ≤ n) && decide (n ≤ 7) && decide ((t.size : Int) = cntW n) && t.data.toList.all isSg
theorem u8_43 (c : UInt8) : ((c.toNat : Int) = 43) ↔ c = 43 := by
 constructor
 ·intro h; apply UInt8.toNat_inj.1; show c.toNat = 43; omega
 ·rintro rfl; rfl
theorem u8_45 (c : UInt8) : ((c.toNat : Int) = 45) ↔ c = 45 := by
 constructor
 ·intro h; apply UInt8.toNat_inj.1; show c.toNat = 45; omega
 ·rintro rfl; rfl
theorem areOk_iff (n : Int) (t : ByteArray) : areOk n t = true ↔ (3 ≤ n ∧ n ≤ 7) ∧ (t.size : Int) = cntW n ∧ ∀ c ∈ t.data.toList, c = 43 ∨ c = 45 := by
 simp only [areOk, Bool.and_eq_true, decide_eq_true_eq, List.all_eq_true, isSg, Bool.or_eq_true, and_assoc]
theorem areOk_size {n : Int} {t : ByteArray} (h : areOk n t = true) : t.size ≤ 35 := by
 obtain ⟨⟨h0, h1⟩, h2, _⟩ := (areOk_iff n t).1 h
 have h3 : cntW n ≤ 35 := by
  have : n = 3 ∨ n = 4 ∨ n = 5 ∨ n = 6 ∨ n = 7 := by omega
  rcases this with rfl | rfl | rfl | rfl | rfl
  ·rw [cntW_3]; decide
  ·rw [cntW_4]; decide
  ·rw [cntW_5]; decide
  ·rw [cntW_6]; decide
  ·rw [cntW_7]; decide
 omega
end Go.Proofs.Ytckkfjdkaimmhaa.M
namespace Go.Proofs.Ytckkfjdkaimmhaa.PX
open Go.RowKit Go.Proofs.Ytckkfjdkaimmhaa.G Go.Proofs.YtckkfjdkaimmhaaW.PrintWords Go.Proofs.YtckkfjdkaimmhaaW.PrintLast Go.Proofs.YtckkfjdkaimmhaaW.PrintMore
attribute [local go_sem] max2_int min2_int max_two min_two max_three min_three max_four min_four   -- for this text's walks alone
set_option linter.unusedVariables false
set_option linter.unusedSimpArgs false
/-! ### spec_l1In: function 89 -/
def spec_l1In.f (a0 : Int) (a1 : Int) (a2 : Int) : Option (Bool) := if a0 ≥ a1 then (some (decide (a0 ≤ a2))) else (some false)
set_option maxHeartbeats 8000000 in
set_option maxRecDepth 100000 in
theorem spec_l1In.calls (a0 : Int) (a1 : Int) (a2 : Int) (r : Bool) (w : World) (h : spec_l1In.f a0 a1 a2 = some r) :
  Calls Try.prog 89 #[.int .i64 a0, .int .i64 a1, .int .i64 a2] w fun e w' => e = .returned (.bool r) ∧ Drawn0 w w' := by
 have H : (if a0 ≥ a1 then (some (decide (a0 ≤ a2))) else (some false)) = some r := h
 clear h
 by_cases c4 : a0 ≥ a1
 ·rw [if_pos c4] at H
  have c4b0 : decide (a1 ≤ a0) = true := decide_eq_true c4
  clear c4
  obtain rfl := Option.some.inj H
  go_enter Try.func89, Try.ntmps89
  go_wp2
  go_ret
  exact ⟨by first | rfl | (simp; done) | (simp [*]; done), by repeat (first | exact Drawn0.refl _ | apply Drawn0.step)⟩
 rw [if_neg c4] at H
 have c4b0 : decide (a1 ≤ a0) = false := decide_eq_false c4
 clear c4
 obtain rfl := Option.some.inj H
 go_enter Try.func89, Try.ntmps89
 go_wp2
 go_ret
 exact ⟨by first | rfl | (simp; done) | (simp [*]; done), by repeat (first | exact Drawn0.refl _ | apply Drawn0.step)⟩
/-! ### spec_AreSigns: function 25 -/
mutual
def spec_AreSigns.j0 : Nat → Bool → Int → ByteArray → Option (Bool)
 | 0, _, _, _ => none
 | k + 1, x24, x102000, x102001 => if x24 = true then (some false) else (spec_AreSigns.l0 k 0 x102000 x102001)
def spec_AreSigns.l0 : Nat → Int → Int → ByteArray → Option (Bool)
 | 0, _, _, _ => none
 | k + 1, x3, x102000, x102001 => if x3 < (x102001.size : Int) then (if 0 ≤ x3 then (if (bt x102001 x3) = 43 then (spec_AreSigns.l0 k (wrap64 (x3 + 1)) x102000 x102001) else (if (bt x102001 x3) = 45 then (spec_AreSigns.l0 k (wrap64 (x3 + 1)) x102000 x102001) else (some false))) else (none)) else (some true)
end
def spec_AreSigns.f (k : Nat) (a0_0 : Int) (a0_1 : ByteArray) : Option (Bool) := (spec_l1In.f a0_0 3 7).bind fun t102 => (if t102 = true then (spec_AreSigns.j0 k ((a0_1.size : Int) != (wrap64 (Int.tdiv (wrap64 ((wrap64 (a0_0 * (wrap64 (a0_0 - 1)))) * (wrap64 (a0_0 - 2)))) 6))) a0_0 a0_1) else (spec_AreSigns.j0 k true a0_0 a0_1))
set_option maxHeartbeats 8000000 in
set_option maxRecDepth 100000 in
theorem spec_AreSigns.calls (k : Nat) (a0_0 : Int) (a0_1 : ByteArray) (r : Bool) (w : World) (h : spec_AreSigns.f k a0_0 a0_1 = some r) :
  Calls Try.prog 25 #[.agg #[.int .i64 a0_0, .string a0_1]] w fun e w' => e = .returned (.bool r) ∧ Below w.heap.size w w' := by
 have hu25 := Try.underlying25
 have HB := Aside0.mk (Below.refl w.heap.size w)
 have H : ((spec_l1In.f a0_0 3 7).bind fun t102 => (if t102 = true then (spec_AreSigns.j0 k ((a0_1.size : Int) != (wrap64 (Int.tdiv (wrap64 ((wrap64 (a0_0 * (wrap64 (a0_0 - 1)))) * (wrap64 (a0_0 - 2)))) 6))) a0_0 a0_1) else (spec_AreSigns.j0 k true a0_0 a0_1))) = some r := h
 clear h
 have HC2 := Aside0.mk H
 clear H
 go_enter Try.func25, Try.ntmps25
 go_upto_region 1 with (first | ((with_reducible refine gate_dst (N := 1) rfl ?_); (try (refine gate_guard (by rfl) ?_; dsimp only)); refine zBx (N := 1) #[.int .i64 a0_0, .string a0_1] 25 ?_; intro gb101 hg w3 hbox hb; have BK101 := Aside0.mk (hbox); have GW101 := zS hg; have GE101 := zS hg; replace HB := zX hb; clear hb hbox hg))
 (try simp only [Act.put, List.setIfInBounds_toArray, List.set_cons_zero, List.set_cons_succ])
 go_cut [24] (fun v24 wc => ∃ (kq : Nat) (x24_1 : Bool), v24 = .bool x24_1 ∧ Aside0 (spec_AreSigns.j0 kq x24_1 a0_0 a0_1 = some r) ∧ Aside0 (kq ≤ k) ∧ Aside0 (wc.heap[gb101]? = some (.cells #[.int .i64 a0_0, .string a0_1] 25 (0, 0))) ∧ Aside0 (Below w.heap.size w wc))
 case first =>
  have H := HC2.out
  clear HC2
  obtain ⟨t102, A4, H⟩ := zO H
  by_cases c5 : t102 = true
  ·subst c5
   replace H := (if_pos rfl).symm.trans H
   have H' := Aside0.mk H; clear H
   obtain ⟨hcz6_0, hcz6_1, hfz6_0, hfz6_1⟩ := zq2 BK101.out
   go_wp2_with (first | ((with_reducible refine gate_callee (f := 89) rfl ?_); refine zD (some 6) Try.func89 #[.int .i64 a0_0, .int .i64 3, .int .i64 7] ?_; (with_reducible refine (spec_l1In.calls a0_0 3 7 true _ A4.out).mono ?_); rintro e w' ⟨rfl, ⟨nd, rfl⟩⟩; refine ⟨_, rfl, ?_⟩))
   go_meet
   case rel => exact ⟨_, (((a0_1.size : Int) != (wrap64 (Int.tdiv (wrap64 ((wrap64 (a0_0 * (wrap64 (a0_0 - 1)))) * (wrap64 (a0_0 - 2)))) 6)))), zF, H', ⟨by first | omega | exact Nat.le_refl _⟩, ⟨zK BK101.out⟩, ⟨zG GE101.out⟩⟩
  replace c5 := Bool.eq_false_iff.mpr c5
  subst c5
  replace H := (if_neg zFf).symm.trans H
  have H' := Aside0.mk H; clear H
  obtain ⟨hcz7_0, hcz7_1, hfz7_0, hfz7_1⟩ := zq2 BK101.out
  go_wp2_with (first | ((with_reducible refine gate_callee (f := 89) rfl ?_); refine zD (some 6) Try.func89 #[.int .i64 a0_0, .int .i64 3, .int .i64 7] ?_; (with_reducible refine (spec_l1In.calls a0_0 3 7 false _ A4.out).mono ?_); rintro e w' ⟨rfl, ⟨nd, rfl⟩⟩; refine ⟨_, rfl, ?_⟩))
  go_meet
  case rel => exact ⟨_, (true), zF, H', ⟨by first | omega | exact Nat.le_refl _⟩, ⟨zK BK101.out⟩, ⟨zG GE101.out⟩⟩
 case rest =>
 clear HC2
 obtain ⟨kq, x24_1, rfl, HA, HJ1, BK101, HB⟩ := hcut
 cases kq with
 | zero => exact absurd HA.out (by simp [spec_AreSigns.j0])
 | succ kj1 =>
 have H := HA.out
 clear HA
 simp only [spec_AreSigns.j0] at H
 by_cases c8 : x24_1 = true
 ·subst c8
  replace H := (if_pos rfl).symm.trans H
  obtain rfl := Option.some.inj H
  go_wp2
  go_ret
  exact ⟨zE, zG GE101.out⟩
 replace c8 := Bool.eq_false_iff.mpr c8
 subst c8
 replace H := (if_neg zFf).symm.trans H
 have H' := Aside0.mk H; clear H
 go_wp2
 go_loopg [3] kj1 (fun kq v3 w' => ∃ (x3_2 : Int), v3 = .int .i64 x3_2 ∧ Aside0 (spec_AreSigns.l0 kq x3_2 a0_0 a0_1 = some r) ∧ Aside0 (kq ≤ kj1) ∧ Aside0 (w'.heap[gb101]? = some (.cells #[.int .i64 a0_0, .string a0_1] 25 (0, 0))) ∧ Aside0 (Below w.heap.size w w'))
 case atStart => exact ⟨(0), zF, H', ⟨Nat.le_refl _⟩, ⟨zK BK101.out⟩, ⟨zG GE101.out⟩⟩
 case round =>
 clear H'
 try clear c8
 obtain ⟨x3_2, rfl, HA, HK2, BK101, HB⟩ := hrel
 cases gk with
 | zero => exact absurd HA.out (by simp [spec_AreSigns.l0])
 | succ k2 =>
 have H := HA.out
 clear HA
 simp only [spec_AreSigns.l0] at H
 by_cases c9 : x3_2 < (a0_1.size : Int)
 ·rw [if_pos c9] at H
  have c9b0 := decide_eq_true c9
  clear c9
  by_cases c10 : 0 ≤ x3_2
  ·rw [if_pos c10] at H
   have c10b0 := decide_eq_true c10
   clear c10
   by_cases c12 : (bt a0_1 x3_2) = 43
   ·rw [if_pos c12] at H
    have c12b0 := beq_iff_eq.mpr c12
    have c12b1 := bne_eq_false_iff_eq.mpr c12
    clear c12
    have H' := Aside0.mk H; clear H
    obtain ⟨hcz13_0, hcz13_1, hfz13_0, hfz13_1⟩ := zq2 BK101.out
    have p11 : 0 ≤ (x3_2 : Int) := zA
    have q11 : x3_2 < (a0_1.size : Int) := zA
    have hx11 := bt_at a0_1 x3_2
    replace p11 := eq_true p11
    replace q11 := eq_true q11
    go_wp2
    go_roundg k2
    case measure => have := HJ1.out; have := HK2.out; omega
    case rel => exact ⟨(wrap64 (x3_2 + 1)), zF, H', ⟨by have := HJ1.out; have := HK2.out; omega⟩, ⟨zK BK101.out⟩, ⟨zG GE101.out⟩⟩
   rw [if_neg c12] at H
   have c12b0 := beq_eq_false_iff_ne.mpr c12
   have c12b1 := bne_iff_ne.mpr c12
   by_cases c15 : (bt a0_1 x3_2) = 45
   ·rw [if_pos c15] at H
    have c15b0 := beq_iff_eq.mpr c15
    have c15b1 := bne_eq_false_iff_eq.mpr c15
    clear c15
    have H' := Aside0.mk H; clear H
    obtain ⟨hcz16_0, hcz16_1, hfz16_0, hfz16_1⟩ := zq2 BK101.out
    have p11 : 0 ≤ (x3_2 : Int) := zA
    have q11 : x3_2 < (a0_1.size : Int) := zA
    have hx11 := bt_at a0_1 x3_2
    replace p11 := eq_true p11
    replace q11 := eq_true q11
    have p14 : 0 ≤ (x3_2 : Int) := zA
    have q14 : x3_2 < (a0_1.size : Int) := zA
    have hx14 := bt_at a0_1 x3_2
    replace p14 := eq_true p14
    replace q14 := eq_true q14
    go_wp2
    go_roundg k2
    case measure => have := HJ1.out; have := HK2.out; omega
    case rel => exact ⟨(wrap64 (x3_2 + 1)), zF, H', ⟨by have := HJ1.out; have := HK2.out; omega⟩, ⟨zK BK101.out⟩, ⟨zG GE101.out⟩⟩
   rw [if_neg c15] at H
   have c15b0 := beq_eq_false_iff_ne.mpr c15
   have c15b1 := bne_iff_ne.mpr c15
   obtain rfl := Option.some.inj H
   obtain ⟨hcz17_0, hcz17_1, hfz17_0, hfz17_1⟩ := zq2 BK101.out
   have p11 : 0 ≤ (x3_2 : Int) := zA
   have q11 : x3_2 < (a0_1.size : Int) := zA
   have hx11 := bt_at a0_1 x3_2
   replace p11 := eq_true p11
   replace q11 := eq_true q11
   have p14 : 0 ≤ (x3_2 : Int) := zA
   have q14 : x3_2 < (a0_1.size : Int) := zA
   have hx14 := bt_at a0_1 x3_2
   replace p14 := eq_true p14
   replace q14 := eq_true q14
   go_wp2
   go_ret
   exact ⟨zE, zG GE101.out⟩
  rw [if_neg c10] at H
  exact absurd H (by simp)
 rw [if_neg c9] at H
 have c9b0 := decide_eq_false c9
 clear c9
 obtain rfl := Option.some.inj H
 obtain ⟨hcz18_0, hcz18_1, hfz18_0, hfz18_1⟩ := zq2 BK101.out
 go_wp2
 go_ret
 exact ⟨zE, zG GE101.out⟩
end Go.Proofs.Ytckkfjdkaimmhaa.PX
namespace Go.Proofs.Ytckkfjdkaimmhaa.M
open Go.RowKit Go.Proofs.YtckkfjdkaimmhaaW.PrintWords Go.Proofs.Ytckkfjdkaimmhaa.PX
theorem impl_are_loop (n : Int) (t : ByteArray) (hs : t.data.toList.length ≤ 9223372036854775807) (d : Nat) : ∀ i : Nat, i + d = t.data.toList.length → Ev (fun k => impl_AreSigns.l0 k (i : Int) n t) ((t.data.toList.drop i).all isSg) := by
 induction d with
 | zero =>
  intro i hi
  rw [List.drop_of_length_le (by omega)]
  refine ev_step ?_
  simp only [impl_AreSigns.l0]
  exact ev_neg (by rw [size_list]; omega) (Ev.now _)
 | succ d ih =>
  intro i hi
  have hlt : i < t.data.toList.length := by omega
  rw [List.drop_eq_getElem_cons hlt, List.all_cons]
  refine ev_step ?_
  simp only [impl_AreSigns.l0]
  refine ev_pos (by rw [size_list]; omega) (ev_pos (by omega) ?_)
  rw [bt_nat hlt, wrap_id (by omega) (by omega)]
  have hn := ih (i + 1) (by omega)
  by_cases h1 : t.data.toList[i] = 43
  ·refine ev_pos ((u8_43 _).2 h1) ?_
   rw [show isSg t.data.toList[i] = true by simp [isSg, h1], Bool.true_and]
   exact hn
  ·refine ev_neg (fun h => h1 ((u8_43 _).1 h)) ?_
   by_cases h2 : t.data.toList[i] = 45
   ·refine ev_pos ((u8_45 _).2 h2) ?_
    rw [show isSg t.data.toList[i] = true by simp [isSg, h2], Bool.true_and]
    exact hn
   ·refine ev_neg (fun h => h2 ((u8_45 _).1 h)) ?_
    rw [show isSg t.data.toList[i] = false by unfold isSg; rw [decide_eq_false h1, decide_eq_false h2]; rfl, Bool.false_and]
    exact Ev.now _
theorem impl_are (n : Int) (t : ByteArray) (hs : t.size ≤ 9223372036854775807) : Ev (fun k => impl_AreSigns.f k n t) (areOk n t) := by
 rw [size_list] at hs
 unfold impl_AreSigns.f areOk
 have hj : ∀ r, Ev (fun k => impl_AreSigns.j0 k true n t) r ↔ r = false := fun r => by
  constructor
  ·rintro ⟨K, hK⟩
   have := hK (K + 1) (by omega)
   simp only [impl_AreSigns.j0, if_true] at this
   exact (Option.some.inj this).symm
  ·rintro rfl
   refine ev_step ?_
   simp only [impl_AreSigns.j0]
   exact ev_pos (by trivial) (Ev.now _)
 by_cases h0 : n < 3
 ·refine ev_pos h0 ((hj _).2 ?_)
  simp; omega
 ·refine ev_neg h0 ?_
  by_cases h1 : n > 7
  ·refine ev_pos h1 ((hj _).2 ?_)
   simp; omega
  ·refine ev_neg h1 ?_
   refine ev_step ?_
   simp only [impl_AreSigns.j0]
   rw [show decide (3 ≤ n) = true from decide_eq_true (by omega), show decide (n ≤ 7) = true from decide_eq_true (by omega), Bool.true_and, Bool.true_and]
   by_cases h2 : (t.size : Int) = cntW n
   ·refine ev_neg (by simp only [bne_iff_ne, ne_eq, Decidable.not_not]; exact h2) ?_
    rw [decide_eq_true h2, Bool.true_and]
    exact impl_are_loop n t hs t.data.toList.length 0 (by omega)
   ·refine ev_pos (by simp only [bne_iff_ne, ne_eq]; exact h2) ?_
    rw [decide_eq_false h2, Bool.false_and]
    exact Ev.now _
theorem spec_are_loop (n : Int) (t : ByteArray) (hs : t.data.toList.length ≤ 9223372036854775807) (d : Nat) : ∀ i : Nat, i + d = t.data.toList.length → Ev (fun k => spec_AreSigns.l0 k (i : Int) n t) ((t.data.toList.drop i).all isSg) := by
 induction d with
 | zero =>
  intro i hi
  rw [List.drop_of_length_le (by omega)]
  refine ev_step ?_
  simp only [spec_AreSigns.l0]
  exact ev_neg (by rw [size_list]; omega) (Ev.now _)
 | succ d ih =>
  intro i hi
  have hlt : i < t.data.toList.length := by omega
  rw [List.drop_eq_getElem_cons hlt, List.all_cons]
  refine ev_step ?_
  simp only [spec_AreSigns.l0]
  refine ev_pos (by rw [size_list]; omega) (ev_pos (by omega) ?_)
  rw [bt_nat hlt, wrap_id (by omega) (by omega)]
  have hn := ih (i + 1) (by omega)
  by_cases h1 : t.data.toList[i] = 43
  ·refine ev_pos ((u8_43 _).2 h1) ?_
   rw [show isSg t.data.toList[i] = true by simp [isSg, h1], Bool.true_and]
   exact hn
  ·refine ev_neg (fun h => h1 ((u8_43 _).1 h)) ?_
   by_cases h2 : t.data.toList[i] = 45
   ·refine ev_pos ((u8_45 _).2 h2) ?_
    rw [show isSg t.data.toList[i] = true by simp [isSg, h2], Bool.true_and]
    exact hn
   ·refine ev_neg (fun h => h2 ((u8_45 _).1 h)) ?_
    rw [show isSg t.data.toList[i] = false by unfold isSg; rw [decide_eq_false h1, decide_eq_false h2]; rfl, Bool.false_and]
    exact Ev.now _
theorem spec_in (x lo hi : Int) : spec_l1In.f x lo hi = some (decide (lo ≤ x) && decide (x ≤ hi)) := by
 unfold spec_l1In.f
 by_cases h : x ≥ lo
 ·rw [if_pos h, show decide (lo ≤ x) = true from decide_eq_true h, Bool.true_and]
 ·rw [if_neg h, show decide (lo ≤ x) = false from decide_eq_false h, Bool.false_and]
theorem spec_are (n : Int) (t : ByteArray) (hs : t.size ≤ 9223372036854775807) : Ev (fun k => spec_AreSigns.f k n t) (areOk n t) := by
 rw [size_list] at hs
 unfold spec_AreSigns.f areOk
 refine ev_call (spec_in n 3 7) ?_
 by_cases h0 : (decide (3 ≤ n) && decide (n ≤ 7)) = true
 ·refine ev_pos h0 ?_
  rw [h0, Bool.true_and]
  refine ev_step ?_
  simp only [spec_AreSigns.j0]
  by_cases h2 : (t.size : Int) = cntW n
  ·refine ev_neg (by simp only [bne_iff_ne, ne_eq, Decidable.not_not]; exact h2) ?_
   rw [decide_eq_true h2, Bool.true_and]
   exact spec_are_loop n t hs t.data.toList.length 0 (by omega)
  ·refine ev_pos (by simp only [bne_iff_ne, ne_eq]; exact h2) ?_
   rw [decide_eq_false h2, Bool.false_and]
   exact Ev.now _
 ·refine ev_neg h0 ?_
  rw [Bool.eq_false_iff.mpr h0, Bool.false_and, Bool.false_and]
  refine ev_step ?_
  simp only [spec_AreSigns.j0]
  exact ev_pos (by trivial) (Ev.now _)
end Go.Proofs.Ytckkfjdkaimmhaa.M
namespace Go.Proofs.Ytckkfjdkaimmhaa.M
open Go.RowKit Go.Proofs.YtckkfjdkaimmhaaW.PrintWords Go.Proofs.Ytckkfjdkaimmhaa.PX Go.Proofs.Ytckkfjdkaimmhaa.G
def sgB (t : ByteArray) (m : Nat) : Int := if bt t (m : Int) = 45 then -1 else 1
theorem sgB_cases (t : ByteArray) (m : Nat) : sgB t m = 1 ∨ sgB t m = -1 := by unfold sgB; split <;> simp
def tripN (n : Nat) : List S99 := (List.range n).flatMap fun (i : Nat) => (List.range n).flatMap fun (j : Nat) => (List.range n).flatMap fun (k : Nat) => if i < j ∧ j < k then [(⟨(i : Int), (j : Int), (k : Int)⟩ : S99)] else []
theorem triples_closed : (impl_triplesOf.f 200 3 = some (tripN 3) ∧ impl_triplesOf.f 200 4 = some (tripN 4) ∧ impl_triplesOf.f 200 5 = some (tripN 5)) ∧ impl_triplesOf.f 200 6 = some (tripN 6) ∧ impl_triplesOf.f 200 7 = some (tripN 7) := by
 refine ⟨⟨?_, ?_, ?_⟩, ?_, ?_⟩ <;> kernel_rfl
theorem five {n : Nat} (h0 : 3 ≤ n) (h1 : n ≤ 7) {p : Nat → Prop} (a : p 3) (b : p 4) (c : p 5) (d : p 6) (e : p 7) : p n := by
 have : n = 3 ∨ n = 4 ∨ n = 5 ∨ n = 6 ∨ n = 7 := by omega
 rcases this with rfl | rfl | rfl | rfl | rfl <;> assumption
theorem triples_ev {n : Nat} (h0 : 3 ≤ n) (h1 : n ≤ 7) : Ev (fun k => impl_triplesOf.f k (n : Int)) (tripN n) := by
 obtain ⟨⟨h3, h4, h5⟩, h6, h7⟩ := triples_closed
 refine five (p := fun n => Ev (fun k => impl_triplesOf.f k (n : Int)) (tripN n)) h0 h1 ?_ ?_ ?_ ?_ ?_
 ·exact Ev.of (impl_triplesOf.mono 3) h3
 ·exact Ev.of (impl_triplesOf.mono 4) h4
 ·exact Ev.of (impl_triplesOf.mono 5) h5
 ·exact Ev.of (impl_triplesOf.mono 6) h6
 ·exact Ev.of (impl_triplesOf.mono 7) h7
def six (i j k m x : Nat) : Option (Bool × Nat) :=
 if x = ix3 j i k then some (true, m) else if x = ix3 k j i then some (true, m) else if x = ix3 i k j then some (true, m)
 else if x = ix3 k i j then some (false, m) else if x = ix3 j k i then some (false, m) else if x = ix3 i j k then some (false, m) else none
def lookT : List S99 → Nat → Nat → Option (Bool × Nat)
 | [], _, _ => none
 | y :: r, m, x => match lookT r (m + 1) x with
  | some z => some z
  | none => six y.f0.toNat y.f1.toNat y.f2.toNat m x
def sgv (neg : Bool) (s : Int) : Int := if neg then -s else s
def foldTbl (t : ByteArray) : List Int → List S99 → Nat → List Int
 | l, [], _ => l
 | l, y :: r, m => foldTbl t (set6 l y.f0.toNat y.f1.toNat y.f2.toNat (sgB t m)) r (m + 1)
theorem set_getD (l : List Int) (m x : Nat) (v : Int) (hx : x < l.length) : (l.set m v).getD x 0 = if x = m then v else l.getD x 0 := by
 simp only [List.getD_eq_getElem?_getD, List.getElem?_set]
 by_cases h : m = x
 ·subst h; simp [hx]
 ·rw [if_neg h, if_neg (fun e => h e.symm)]
theorem set6_getD (l : List Int) (i j k m x : Nat) (s : Int) (hx : x < l.length) :
  (set6 l i j k s).getD x 0 = match six i j k m x with | some z => sgv z.1 s | none => l.getD x 0 := by
 unfold set6 six
 rw [set_getD _ _ _ _ (by simp only [List.length_set]; exact hx), set_getD _ _ _ _ (by simp only [List.length_set]; exact hx), set_getD _ _ _ _ (by simp only [List.length_set]; exact hx),
  set_getD _ _ _ _ (by simp only [List.length_set]; exact hx), set_getD _ _ _ _ (by simp only [List.length_set]; exact hx), set_getD _ _ _ _ hx]
 split
 ·rfl
 split
 ·rfl
 split
 ·rfl
 split
 ·rfl
 split
 ·rfl
 split <;> rfl
theorem six_snd {i j k m x : Nat} {z : Bool × Nat} (h : six i j k m x = some z) : z.2 = m := by
 unfold six at h
 (repeat' split at h) <;> first | (cases h; rfl) | cases h
theorem foldTbl_length (t : ByteArray) : ∀ (ts : List S99) (l : List Int) (m : Nat), (foldTbl t l ts m).length = l.length
 | [], _, _ => rfl
 | y :: r, l, m => by rw [foldTbl, foldTbl_length t r, set6_length]
theorem foldTbl_getD (t : ByteArray) (x : Nat) : ∀ (ts : List S99) (l : List Int) (m : Nat), x < l.length →
  (foldTbl t l ts m).getD x 0 = match lookT ts m x with | some z => sgv z.1 (sgB t z.2) | none => l.getD x 0
 | [], _, _, _ => rfl
 | y :: r, l, m, hx => by
  rw [foldTbl, foldTbl_getD t x r _ _ (by rw [set6_length]; exact hx), lookT]
  cases lookT r (m + 1) x with
  | some z => rfl
  | none =>
   simp only []
   rw [set6_getD _ _ _ _ m _ _ hx]
   cases hz : six y.f0.toNat y.f1.toNat y.f2.toNat m x with
   | none => rfl
   | some z => rw [← six_snd hz]
def tblL (n : Nat) (t : ByteArray) : List Int := foldTbl t ((n : Int) :: List.replicate 343 (0 : Int)) (tripN n) 0
theorem tblL_length (n : Nat) (t : ByteArray) : (tblL n t).length = 344 := by
 unfold tblL
 rw [foldTbl_length, List.length_cons, List.length_replicate]
def chi (n : Nat) (t : ByteArray) (i j k : Nat) : Int := match lookT (tripN n) 0 (ix3 i j k) with | some z => sgv z.1 (sgB t z.2) | none => 0
theorem tbl_rd (n : Nat) (t : ByteArray) (i j k : Nat) (hi : i < 7) (hj : j < 7) (hk : k < 7) : rd3 (tblL n t) (i : Int) (j : Int) (k : Int) = chi n t i j k := by
 have hx : ix3 i j k < 344 := by unfold ix3; omega
 have e : rd3 (tblL n t) (i : Int) (j : Int) (k : Int) = (tblL n t).getD (ix3 i j k) 0 := by
  unfold rd3 rd
  have : (1 + (i : Int) * 49 + (j : Int) * 7 + (k : Int)).toNat = ix3 i j k := by unfold ix3; omega
  rw [this]
 rw [e]
 unfold tblL chi
 rw [foldTbl_getD t _ _ _ _ (by rw [List.length_cons, List.length_replicate]; exact hx)]
 have h0 : ((n : Int) :: List.replicate 343 (0 : Int)).getD (ix3 i j k) 0 = 0 := by
  have : ix3 i j k = (i * 49 + j * 7 + k) + 1 := by unfold ix3; omega
  rw [this, List.getD_cons_succ, List.getD_eq_getElem?_getD, List.getElem?_replicate]
  split <;> rfl
 rw [h0]
theorem tbl_n (n : Nat) (t : ByteArray) : rd (tblL n t) 0 = n := by
 have e : rd (tblL n t) 0 = (tblL n t).getD 0 0 := rfl
 rw [e]
 unfold tblL
 rw [foldTbl_getD t 0 _ _ _ (by rw [List.length_cons]; omega)]
 have h : ∀ (ts : List S99) (m : Nat), lookT ts m 0 = none := by
  intro ts
  induction ts with
  | nil => intro m; rfl
  | cons y r ih =>
   intro m
   rw [lookT, ih]
   have hp : ∀ a b c : Nat, ¬ 0 = ix3 a b c := fun a b c => by unfold ix3; omega
   simp only [six]
   rw [if_neg (hp _ _ _), if_neg (hp _ _ _), if_neg (hp _ _ _), if_neg (hp _ _ _), if_neg (hp _ _ _), if_neg (hp _ _ _)]
 rw [h]
 rfl
def smallT (ts : List S99) : Bool := ts.all fun y => decide (0 ≤ y.f0) && decide (y.f0 < 7) && decide (0 ≤ y.f1) && decide (y.f1 < 7) && decide (0 ≤ y.f2) && decide (y.f2 < 7)
theorem set_some (l : List Int) (a b c s : Int) (hl : l.length = 344) (ha : 0 ≤ a ∧ a < 7) (hb : 0 ≤ b ∧ b < 7) (hc : 0 ≤ c ∧ c < 7) (hs : s = 1 ∨ s = -1) : impl_chi_set.f l a b c s = some (set6 l a.toNat b.toNat c.toNat s) := by
 unfold impl_chi_set.f
 rw [if_pos ⟨hl, ha, hb, hc, by omega, by omega⟩]
theorem tableOf_loop (n : Int) (t : ByteArray) (ts : List S99) (hts : smallT ts = true) (hn : ts.length ≤ 100) (htt : ts.length ≤ t.size) (d : Nat) : ∀ (i : Nat) (l : List Int), i + d = ts.length → l.length = 344 →
  Ev (fun k => impl_tableOf.l0 k l ts (ts.length : Int) (i : Int) n t) (foldTbl t l (ts.drop i) i) := by
 induction d with
 | zero =>
  intro i l hi hl
  rw [List.drop_of_length_le (by omega)]
  refine ev_step ?_
  simp only [impl_tableOf.l0]
  exact ev_neg (by omega) (Ev.now _)
 | succ d ih =>
  intro i l hi hl
  have hlt : i < ts.length := by omega
  rw [List.drop_eq_getElem_cons hlt, foldTbl]
  have hy := List.all_eq_true.1 hts ts[i] (List.getElem_mem hlt)
  simp only [Bool.and_eq_true, decide_eq_true_eq] at hy
  obtain ⟨⟨⟨⟨⟨a0, a1⟩, b0⟩, b1⟩, c0⟩, c1⟩ := hy
  have hr : rd_T99 ts (i : Int) = ts[i] := by
   unfold rd_T99
   rw [Int.toNat_natCast, List.getD_eq_getElem?_getD, List.getElem?_eq_getElem hlt]
   rfl
  refine ev_step ?_
  simp only [impl_tableOf.l0, hr]
  refine ev_pos (by omega) (ev_pos (by omega) (ev_pos (by omega) (ev_pos (by omega) ?_)))
  rw [wrap_id (by omega) (by omega)]
  have hn := fun s => ih (i + 1) (set6 l ts[i].f0.toNat ts[i].f1.toNat ts[i].f2.toNat s) (by omega) (by rw [set6_length]; exact hl)
  by_cases h : bt t (i : Int) = 45
  ·have hsg : sgB t i = -1 := by unfold sgB; rw [if_pos h]
   rw [hsg]
   exact ev_pos h (ev_pos hl (ev_call (set_some l _ _ _ (-1) hl ⟨a0, a1⟩ ⟨b0, b1⟩ ⟨c0, c1⟩ (Or.inr rfl)) (hn _)))
  ·have hsg : sgB t i = 1 := by unfold sgB; rw [if_neg h]
   rw [hsg]
   exact ev_neg h (ev_pos hl (ev_call (set_some l _ _ _ 1 hl ⟨a0, a1⟩ ⟨b0, b1⟩ ⟨c0, c1⟩ (Or.inl rfl)) (hn _)))
def smallC (n : Nat) : Bool := smallT (tripN n) && decide (((tripN n).length : Int) = cntW n)
theorem trip_small {n : Nat} (h0 : 3 ≤ n) (h1 : n ≤ 7) : smallT (tripN n) = true ∧ ((tripN n).length : Int) = cntW n := by
 have h : smallC n = true := by refine five (p := fun n => smallC n = true) h0 h1 ?_ ?_ ?_ ?_ ?_ <;> decide +kernel
 simpa [smallC] using h
theorem tableOf_ev {n : Nat} {t : ByteArray} (h : areOk n t = true) : Ev (fun k => impl_tableOf.f k (n : Int) t) (tblL n t) := by
 obtain ⟨⟨h0, h1⟩, h2, _⟩ := (areOk_iff _ _).1 h
 have h0 : 3 ≤ n := by omega
 have h1 : n ≤ 7 := by omega
 obtain ⟨hs, hc⟩ := trip_small h0 h1
 have hz := areOk_size h
 unfold impl_tableOf.f tblL
 refine Ev.bind (triples_ev h0 h1) ?_
 have := tableOf_loop n t (tripN n) hs (by omega) (by omega) (tripN n).length 0 ((n : Int) :: List.replicate 343 (0 : Int)) (by omega) (by rw [List.length_cons, List.length_replicate])
 exact this
end Go.Proofs.Ytckkfjdkaimmhaa.M
namespace Go.Proofs.Ytckkfjdkaimmhaa.M
open Go.RowKit Go.Proofs.YtckkfjdkaimmhaaW.PrintWords Go.Proofs.Ytckkfjdkaimmhaa.G
def negT (z : Option (Bool × Nat)) : Option (Bool × Nat) := z.map fun z => (!z.1, z.2)
def chkS (n a b c : Nat) : Bool := decide (lookT (tripN n) 0 (ix3 b a c) = negT (lookT (tripN n) 0 (ix3 a b c))) && decide (lookT (tripN n) 0 (ix3 a c b) = negT (lookT (tripN n) 0 (ix3 a b c))) && (!(decide (a < n) && decide (b < n) && decide (c < n) && decide (a ≠ b) && decide (b ≠ c) && decide (a ≠ c)) || (lookT (tripN n) 0 (ix3 a b c)).isSome)
def chkSN (n : Nat) : Bool := (List.range 7).all fun a => (List.range 7).all fun b => (List.range 7).all fun c => chkS n a b c
theorem chkSN_all {n : Nat} (h0 : 3 ≤ n) (h1 : n ≤ 7) : chkSN n = true := by
 refine five (p := fun n => chkSN n = true) h0 h1 ?_ ?_ ?_ ?_ ?_ <;> decide +kernel
theorem chkS_at {n a b c : Nat} (h0 : 3 ≤ n) (h1 : n ≤ 7) (ha : a < 7) (hb : b < 7) (hc : c < 7) : chkS n a b c = true := by
 have h := chkSN_all h0 h1
 have h := List.all_eq_true.1 h a (List.mem_range.2 ha)
 have h := List.all_eq_true.1 h b (List.mem_range.2 hb)
 exact List.all_eq_true.1 h c (List.mem_range.2 hc)
theorem chi_neg {n a b c a' b' c' : Nat} (t : ByteArray) (h : lookT (tripN n) 0 (ix3 a' b' c') = negT (lookT (tripN n) 0 (ix3 a b c))) : chi n t a' b' c' = -chi n t a b c := by
 unfold chi
 rw [h]
 cases lookT (tripN n) 0 (ix3 a b c) with
 | none => rfl
 | some z =>
  obtain ⟨b, m⟩ := z
  cases b
  ·rfl
  ·show sgB t m = - -sgB t m
   omega
theorem chi_swap1 {n a b c : Nat} (t : ByteArray) (h0 : 3 ≤ n) (h1 : n ≤ 7) (ha : a < 7) (hb : b < 7) (hc : c < 7) : chi n t b a c = -chi n t a b c := by
 have h := chkS_at h0 h1 ha hb hc
 simp only [chkS, Bool.and_eq_true, decide_eq_true_eq] at h
 exact chi_neg t h.1.1
theorem chi_swap2 {n a b c : Nat} (t : ByteArray) (h0 : 3 ≤ n) (h1 : n ≤ 7) (ha : a < 7) (hb : b < 7) (hc : c < 7) : chi n t a c b = -chi n t a b c := by
 have h := chkS_at h0 h1 ha hb hc
 simp only [chkS, Bool.and_eq_true, decide_eq_true_eq] at h
 exact chi_neg t h.1.2
theorem chi_pm {n a b c : Nat} (t : ByteArray) (h0 : 3 ≤ n) (h1 : n ≤ 7) (ha : a < n) (hb : b < n) (hc : c < n) (hab : a ≠ b) (hbc : b ≠ c) (hac : a ≠ c) : chi n t a b c = 1 ∨ chi n t a b c = -1 := by
 have h := chkS_at (n := n) (a := a) (b := b) (c := c) h0 h1 (by omega) (by omega) (by omega)
 simp only [chkS, Bool.and_eq_true] at h
 have h := h.2
 rw [decide_eq_true ha, decide_eq_true hb, decide_eq_true hc, decide_eq_true hab, decide_eq_true hbc, decide_eq_true hac] at h
 simp only [Bool.and_self, Bool.not_true, Bool.false_or] at h
 unfold chi
 cases hl : lookT (tripN n) 0 (ix3 a b c) with
 | none => rw [hl] at h; cases h
 | some z =>
  obtain ⟨b, m⟩ := z
  rcases sgB_cases t m with e | e <;> cases b <;> simp [sgv, e]
theorem chi_three (n : Nat) (t : ByteArray) (a b c : Nat) : chi n t a b c = 1 ∨ chi n t a b c = -1 ∨ chi n t a b c = 0 := by
 unfold chi
 cases lookT (tripN n) 0 (ix3 a b c) with
 | none => exact Or.inr (Or.inr rfl)
 | some z =>
  obtain ⟨b, m⟩ := z
  rcases sgB_cases t m with e | e <;> cases b <;> simp [sgv, e]
end Go.Proofs.Ytckkfjdkaimmhaa.M
namespace Go.Proofs.Ytckkfjdkaimmhaa.PX
open Go.RowKit Go.Proofs.Ytckkfjdkaimmhaa.G Go.Proofs.YtckkfjdkaimmhaaW.PrintWords Go.Proofs.YtckkfjdkaimmhaaW.PrintLast Go.Proofs.YtckkfjdkaimmhaaW.PrintMore
attribute [local go_sem] max2_int min2_int max_two min_two max_three min_three max_four min_four   -- for this text's walks alone
set_option linter.unusedVariables false
set_option linter.unusedSimpArgs false
/-! ### spec_l3Index: function 156 -/
mutual
def spec_l3Index.l0 : Nat → Int → Int → Int → Int → Int → Int → Option (Int)
 | 0, _, _, _, _, _, _ => none
 | k + 1, x0, x1, x2, x3, x9, x10 => if x10 < x1 then (spec_l3Index.l0 k x0 x1 x2 x3 (wrap64 (x9 + (wrap64 (Int.tdiv (wrap64 ((wrap64 ((wrap64 (x0 - 1)) - x10)) * (wrap64 ((wrap64 (x0 - 2)) - x10)))) 2)))) (wrap64 (x10 + 1))) else (spec_l3Index.l1 k x0 x2 x3 x9 (wrap64 (x1 + 1)))
def spec_l3Index.l1 : Nat → Int → Int → Int → Int → Int → Option (Int)
 | 0, _, _, _, _, _ => none
 | k + 1, x0, x2, x3, x9, x11 => if x11 < x2 then (spec_l3Index.l1 k x0 x2 x3 (wrap64 ((wrap64 ((wrap64 (x9 + x0)) - 1)) - x11)) (wrap64 (x11 + 1))) else (some (wrap64 ((wrap64 ((wrap64 (x9 + x3)) - x2)) - 1)))
end
def spec_l3Index.f (k : Nat) (a0 : Int) (a1 : Int) (a2 : Int) (a3 : Int) : Option (Int) := spec_l3Index.l0 k a0 a1 a2 a3 0 0
theorem spec_l3Index.mono_l : ∀ k, (∀ y0 y1 y2 y3 y4 y5, LeO (spec_l3Index.l0 k y0 y1 y2 y3 y4 y5) (spec_l3Index.l0 (k + 1) y0 y1 y2 y3 y4 y5)) ∧ (∀ y0 y1 y2 y3 y4, LeO (spec_l3Index.l1 k y0 y1 y2 y3 y4) (spec_l3Index.l1 (k + 1) y0 y1 y2 y3 y4))
 | 0 => ⟨fun _ _ _ _ _ _ r h => by simp [spec_l3Index.l0] at h, fun _ _ _ _ _ r h => by simp [spec_l3Index.l1] at h⟩
 | k + 1 => by
  obtain ⟨ih0, ih1⟩ := spec_l3Index.mono_l k
  refine ⟨?_, ?_⟩ <;> intros <;> (first | unfold spec_l3Index.l0 | unfold spec_l3Index.l1) <;> repeat' first
  | (with_reducible first | exact ih0 .. | exact ih1 .. | exact LeO.refl _ | exact LeO.none _ | refine LeO.ite ?_ ?_ | refine LeO.bind ?_ (fun _ => ?_))
  | exact ih0 .. | exact ih1 .. | exact LeO.none _ | refine LeO.ite ?_ ?_ | refine LeO.bind ?_ (fun _ => ?_)
theorem spec_l3Index.mono : ∀ a0 a1 a2 a3 k, LeO (spec_l3Index.f k a0 a1 a2 a3) (spec_l3Index.f (k + 1) a0 a1 a2 a3) := by
 intro a0 a1 a2 a3 k
 obtain ⟨ih0, ih1⟩ := spec_l3Index.mono_l k
 unfold spec_l3Index.f
 repeat' first
   | (with_reducible first | exact ih0 .. | exact ih1 .. | exact LeO.refl _ | exact LeO.none _ | refine LeO.ite ?_ ?_ | refine LeO.bind ?_ (fun _ => ?_))
   | exact ih0 .. | exact ih1 .. | exact LeO.none _ | refine LeO.ite ?_ ?_ | refine LeO.bind ?_ (fun _ => ?_)
set_option maxHeartbeats 8000000 in
set_option maxRecDepth 100000 in
theorem spec_l3Index.calls (k : Nat) (a0 : Int) (a1 : Int) (a2 : Int) (a3 : Int) (r : Int) (w : World) (h : spec_l3Index.f k a0 a1 a2 a3 = some r) :
  Calls Try.prog 156 #[.int .i64 a0, .int .i64 a1, .int .i64 a2, .int .i64 a3] w fun e w' => e = .returned (.int .i64 r) ∧ Drawn0 w w' := by
 have H : (spec_l3Index.l0 k a0 a1 a2 a3 0 0) = some r := h
 clear h
 have H' := Aside0.mk H; clear H
 go_enter Try.func156, Try.ntmps156
 go_wp2
 go_loopg [9, 10] k (fun kq v9 v10 w' => ∃ (x9_1 : Int) (x10_1 : Int), v9 = .int .i64 x9_1 ∧ v10 = .int .i64 x10_1 ∧ Aside0 (spec_l3Index.l0 kq a0 a1 a2 a3 x9_1 x10_1 = some r) ∧ Aside0 (kq ≤ k) ∧ Drawn0 w w')
 case atStart => exact ⟨(0), (0), zF, zF, H', ⟨Nat.le_refl _⟩, by repeat (first | exact Drawn0.refl _ | apply Drawn0.step)⟩
 case round =>
 clear H'
 obtain ⟨x9_1, x10_1, rfl, rfl, HA, HK1, ⟨m1, rfl⟩⟩ := hrel
 cases gk with
 | zero => exact absurd HA.out (by simp [spec_l3Index.l0])
 | succ k1 =>
 have H := HA.out
 clear HA
 simp only [spec_l3Index.l0] at H
 by_cases c5 : x10_1 < a1
 ·rw [if_pos c5] at H
  have c5b0 := decide_eq_true c5
  clear c5
  have H' := Aside0.mk H; clear H
  go_wp2
  go_roundg k1
  case measure => have := HK1.out; omega
  case rel => exact ⟨(wrap64 (x9_1 + (wrap64 (Int.tdiv (wrap64 ((wrap64 ((wrap64 (a0 - 1)) - x10_1)) * (wrap64 ((wrap64 (a0 - 2)) - x10_1)))) 2)))), (wrap64 (x10_1 + 1)), zF, zF, H', ⟨by have := HK1.out; omega⟩, by repeat (first | exact Drawn0.refl _ | apply Drawn0.step)⟩
 rw [if_neg c5] at H
 have c5b0 := decide_eq_false c5
 clear c5
 have H' := Aside0.mk H; clear H
 go_wp2
 go_loopg [9, 11] k1 (fun kq v9 v11 w' => ∃ (x9_2 : Int) (x11_2 : Int), v9 = .int .i64 x9_2 ∧ v11 = .int .i64 x11_2 ∧ Aside0 (spec_l3Index.l1 kq a0 a2 a3 x9_2 x11_2 = some r) ∧ Aside0 (kq ≤ k1) ∧ Drawn0 w w')
 case atStart => exact ⟨(x9_1), (wrap64 (a1 + 1)), zF, zF, H', ⟨Nat.le_refl _⟩, by repeat (first | exact Drawn0.refl _ | apply Drawn0.step)⟩
 case round =>
 clear H'
 try clear c5
 try clear c5b0
 obtain ⟨x9_2, x11_2, rfl, rfl, HA, HK2, ⟨m2, rfl⟩⟩ := hrel
 cases gk with
 | zero => exact absurd HA.out (by simp [spec_l3Index.l1])
 | succ k2 =>
 have H := HA.out
 clear HA
 simp only [spec_l3Index.l1] at H
 by_cases c6 : x11_2 < a2
 ·rw [if_pos c6] at H
  have c6b0 := decide_eq_true c6
  clear c6
  have H' := Aside0.mk H; clear H
  go_wp2
  go_roundg k2
  case measure => have := HK1.out; have := HK2.out; omega
  case rel => exact ⟨(wrap64 ((wrap64 ((wrap64 (x9_2 + a0)) - 1)) - x11_2)), (wrap64 (x11_2 + 1)), zF, zF, H', ⟨by have := HK1.out; have := HK2.out; omega⟩, by repeat (first | exact Drawn0.refl _ | apply Drawn0.step)⟩
 rw [if_neg c6] at H
 have c6b0 := decide_eq_false c6
 clear c6
 obtain rfl := Option.some.inj H
 go_wp2
 go_ret
 exact ⟨by first | rfl | (simp; done) | (simp [*]; done), by repeat (first | exact Drawn0.refl _ | apply Drawn0.step)⟩
/-! ### spec_l3At: function 144 -/
mutual
def spec_l3At.j0 : Nat → Int → Int → Int → Int → Int → ByteArray → Option (Int)
 | 0, _, _, _, _, _, _ => none
 | k + 1, x1, x2, x3, x9, x104000, x104001 => if x2 > x3 then (spec_l3At.j1 k x1 x3 x2 (wrap64 (-x9)) x104000 x104001) else (spec_l3At.j1 k x1 x2 x3 x9 x104000 x104001)
def spec_l3At.j1 : Nat → Int → Int → Int → Int → Int → ByteArray → Option (Int)
 | 0, _, _, _, _, _, _ => none
 | k + 1, x1, x2, x3, x9, x104000, x104001 => if x1 > x2 then ((spec_l3Index.f k x104000 x2 x1 x3).bind fun t104 => (if 0 ≤ t104 then (if t104 < (x104001.size : Int) then (if (bt x104001 t104) = 45 then (some (wrap64 (-(wrap64 (-x9))))) else (some (wrap64 (-x9)))) else (none)) else (none))) else ((spec_l3Index.f k x104000 x1 x2 x3).bind fun t105 => (if 0 ≤ t105 then (if t105 < (x104001.size : Int) then (if (bt x104001 t105) = 45 then (some (wrap64 (-x9))) else (some x9)) else (none)) else (none)))
end
def spec_l3At.f (k : Nat) (a0_0 : Int) (a0_1 : ByteArray) (a1 : Int) (a2 : Int) (a3 : Int) : Option (Int) := if a1 > a2 then (spec_l3At.j0 k a2 a1 a3 (-1) a0_0 a0_1) else (spec_l3At.j0 k a1 a2 a3 1 a0_0 a0_1)
set_option maxHeartbeats 8000000 in
set_option maxRecDepth 100000 in
theorem spec_l3At.calls (k : Nat) (a0_0 : Int) (a0_1 : ByteArray) (a1 : Int) (a2 : Int) (a3 : Int) (r : Int) (w : World) (h : spec_l3At.f k a0_0 a0_1 a1 a2 a3 = some r) :
  Calls Try.prog 144 #[.agg #[.int .i64 a0_0, .string a0_1], .int .i64 a1, .int .i64 a2, .int .i64 a3] w fun e w' => e = .returned (.int .i64 r) ∧ Below w.heap.size w w' := by
 have hu25 := Try.underlying25
 have HB := Aside0.mk (Below.refl w.heap.size w)
 have H : (if a1 > a2 then (spec_l3At.j0 k a2 a1 a3 (-1) a0_0 a0_1) else (spec_l3At.j0 k a1 a2 a3 1 a0_0 a0_1)) = some r := h
 clear h
 have HC5 := Aside0.mk H
 clear H
 go_enter Try.func144, Try.ntmps144
 go_upto_if 15 with (first | ((with_reducible refine gate_dst (N := 4) rfl ?_); refine zBx (N := 4) #[.int .i64 a0_0, .string a0_1] 25 ?_; intro gb103 hg w6 hbox hb; have BK103 := Aside0.mk (hbox); have GW103 := zS hg; have GE103 := zS hg; replace HB := zX hb; clear hb hbox hg))
 repeat (go_quiet (first | ((with_reducible refine gate_dst (N := 4) rfl ?_); refine zBx (N := 4) #[.int .i64 a0_0, .string a0_1] 25 ?_; intro gb103 hg w6 hbox hb; have BK103 := Aside0.mk (hbox); have GW103 := zS hg; have GE103 := zS hg; replace HB := zX hb; clear hb hbox hg)); go_upto_if 15 with (first | ((with_reducible refine gate_dst (N := 4) rfl ?_); refine zBx (N := 4) #[.int .i64 a0_0, .string a0_1] 25 ?_; intro gb103 hg w6 hbox hb; have BK103 := Aside0.mk (hbox); have GW103 := zS hg; have GE103 := zS hg; replace HB := zX hb; clear hb hbox hg)))
 (try simp only [Act.put, List.setIfInBounds_toArray, List.set_cons_zero, List.set_cons_succ])
 go_cut [1, 2, 9] (fun v1 v2 v9 wc => ∃ (kq : Nat) (x1_4 : Int) (x2_4 : Int) (x9_4 : Int), v1 = .int .i64 x1_4 ∧ v2 = .int .i64 x2_4 ∧ v9 = .int .i64 x9_4 ∧ Aside0 (spec_l3At.j0 kq x1_4 x2_4 a3 x9_4 a0_0 a0_1 = some r) ∧ Aside0 (kq ≤ k) ∧ Aside0 (wc.heap[gb103]? = some (.cells #[.int .i64 a0_0, .string a0_1] 25 (0, 0))) ∧ Aside0 (Below w.heap.size w wc))
 case first =>
  have H := HC5.out
  clear HC5
  by_cases c7 : a1 > a2
  ·rw [if_pos c7] at H
   have c7b0 : decide (a2 < a1) = true := decide_eq_true c7
   clear c7
   (first | rw [c7b0] | (simp only [i64_w, i32_w]; rw [c7b0]) | skip)
   have H' := Aside0.mk H; clear H
   go_wp2
   repeat (go_quiet (fail); try go_wp2)
   go_meet
   case rel => exact ⟨_, (a2), (a1), (-1), zF, zF, zF, H', ⟨by first | omega | exact Nat.le_refl _⟩, ⟨zK BK103.out⟩, ⟨zG GE103.out⟩⟩
  rw [if_neg c7] at H
  have c7b0 : decide (a2 < a1) = false := decide_eq_false c7
  clear c7
  (first | rw [c7b0] | (simp only [i64_w, i32_w]; rw [c7b0]) | skip)
  have H' := Aside0.mk H; clear H
  go_wp2
  repeat (go_quiet (fail); try go_wp2)
  go_meet
  case rel => exact ⟨_, (a1), (a2), (1), zF, zF, zF, H', ⟨by first | omega | exact Nat.le_refl _⟩, ⟨zK BK103.out⟩, ⟨zG GE103.out⟩⟩
 case rest =>
 clear HC5
 obtain ⟨kq, x1_4, x2_4, x9_4, rfl, rfl, rfl, HA, HJ4, BK103, HB⟩ := hcut
 cases kq with
 | zero => exact absurd HA.out (by simp [spec_l3At.j0])
 | succ kj4 =>
 have H := HA.out
 clear HA
 simp only [spec_l3At.j0] at H
 have HC8 := Aside0.mk H
 clear H
 go_upto_if 23 with (fail)
 repeat (go_quiet (fail); go_upto_if 23 with (fail))
 go_cut [2, 3, 9] (fun v2 v3 v9 wc => ∃ (kq : Nat) (x2_7 : Int) (x3_7 : Int) (x9_7 : Int), v2 = .int .i64 x2_7 ∧ v3 = .int .i64 x3_7 ∧ v9 = .int .i64 x9_7 ∧ Aside0 (spec_l3At.j1 kq x1_4 x2_7 x3_7 x9_7 a0_0 a0_1 = some r) ∧ Aside0 (kq ≤ kj4) ∧ Aside0 (wc.heap[gb103]? = some (.cells #[.int .i64 a0_0, .string a0_1] 25 (0, 0))) ∧ Aside0 (Below w.heap.size w wc))
 case first =>
  have H := HC8.out
  clear HC8
  by_cases c9 : x2_4 > a3
  ·rw [if_pos c9] at H
   have c9b0 : decide (a3 < x2_4) = true := decide_eq_true c9
   clear c9
   (first | rw [c9b0] | (simp only [i64_w, i32_w]; rw [c9b0]) | skip)
   have H' := Aside0.mk H; clear H
   go_wp2
   repeat (go_quiet (fail); try go_wp2)
   go_meet
   case rel => exact ⟨_, (a3), (x2_4), (wrap64 (-x9_4)), zF, zF, zF, H', ⟨by have := HJ4.out; first | omega | exact Nat.le_refl _⟩, ⟨zK BK103.out⟩, ⟨zG GE103.out⟩⟩
  rw [if_neg c9] at H
  have c9b0 : decide (a3 < x2_4) = false := decide_eq_false c9
  clear c9
  (first | rw [c9b0] | (simp only [i64_w, i32_w]; rw [c9b0]) | skip)
  have H' := Aside0.mk H; clear H
  go_wp2
  repeat (go_quiet (fail); try go_wp2)
  go_meet
  case rel => exact ⟨_, (x2_4), (a3), (x9_4), zF, zF, zF, H', ⟨by have := HJ4.out; first | omega | exact Nat.le_refl _⟩, ⟨zK BK103.out⟩, ⟨zG GE103.out⟩⟩
 case rest =>
 clear HC8
 obtain ⟨kq, x2_7, x3_7, x9_7, rfl, rfl, rfl, HA, HJ7, BK103, HB⟩ := hcut
 cases kq with
 | zero => exact absurd HA.out (by simp [spec_l3At.j1])
 | succ kj7 =>
 have H := HA.out
 clear HA
 simp only [spec_l3At.j1] at H
 by_cases c10 : x1_4 > x2_7
 ·rw [if_pos c10] at H
  have c10b0 : decide (x2_7 < x1_4) = true := decide_eq_true c10
  clear c10
  obtain ⟨t104, A11, H⟩ := zO H
  by_cases c12 : 0 ≤ t104
  ·rw [if_pos c12] at H
   have c12b0 := decide_eq_true c12
   clear c12
   by_cases c13 : t104 < (a0_1.size : Int)
   ·rw [if_pos c13] at H
    have c13b0 := decide_eq_true c13
    clear c13
    by_cases c15 : (bt a0_1 t104) = 45
    ·rw [if_pos c15] at H
     have c15b0 := beq_iff_eq.mpr c15
     have c15b1 := bne_eq_false_iff_eq.mpr c15
     clear c15
     obtain rfl := Option.some.inj H
     obtain ⟨hcz16_0, hcz16_1, hfz16_0, hfz16_1⟩ := zq2 BK103.out
     go_wp2_with (first | (go_at_call 156; (with_reducible refine (spec_l3Index.calls kj7 a0_0 x2_7 x1_4 x3_7 t104 _ A11.out).mono ?_); rintro e w' ⟨rfl, ⟨nd, rfl⟩⟩; (try first | exact ⟨rfl, _, World.drewN_drewN _ _ _⟩ | exact ⟨rfl, _, Eq.trans (World.drewN_drewN _ _ _) (congrArg (World.drewN _) (Nat.add_assoc _ _ _))⟩); have p14 : 0 ≤ (t104 : Int) := zA; have q14 : t104 < (a0_1.size : Int) := zA; have hx14 := bt_at a0_1 t104; replace p14 := eq_true p14; replace q14 := eq_true q14))
     repeat (go_quiet (first | (go_at_call 156; (with_reducible refine (spec_l3Index.calls kj7 a0_0 x2_7 x1_4 x3_7 t104 _ A11.out).mono ?_); rintro e w' ⟨rfl, ⟨nd, rfl⟩⟩; (try first | exact ⟨rfl, _, World.drewN_drewN _ _ _⟩ | exact ⟨rfl, _, Eq.trans (World.drewN_drewN _ _ _) (congrArg (World.drewN _) (Nat.add_assoc _ _ _))⟩); have p14 : 0 ≤ (t104 : Int) := zA; have q14 : t104 < (a0_1.size : Int) := zA; have hx14 := bt_at a0_1 t104; replace p14 := eq_true p14; replace q14 := eq_true q14)); try go_wp2_with (first | (go_at_call 156; (with_reducible refine (spec_l3Index.calls kj7 a0_0 x2_7 x1_4 x3_7 t104 _ A11.out).mono ?_); rintro e w' ⟨rfl, ⟨nd, rfl⟩⟩; (try first | exact ⟨rfl, _, World.drewN_drewN _ _ _⟩ | exact ⟨rfl, _, Eq.trans (World.drewN_drewN _ _ _) (congrArg (World.drewN _) (Nat.add_assoc _ _ _))⟩); have p14 : 0 ≤ (t104 : Int) := zA; have q14 : t104 < (a0_1.size : Int) := zA; have hx14 := bt_at a0_1 t104; replace p14 := eq_true p14; replace q14 := eq_true q14)))
     go_ret
     exact ⟨zE, zG GE103.out⟩
    rw [if_neg c15] at H
    have c15b0 := beq_eq_false_iff_ne.mpr c15
    have c15b1 := bne_iff_ne.mpr c15
    obtain rfl := Option.some.inj H
    obtain ⟨hcz17_0, hcz17_1, hfz17_0, hfz17_1⟩ := zq2 BK103.out
    go_wp2_with (first | (go_at_call 156; (with_reducible refine (spec_l3Index.calls kj7 a0_0 x2_7 x1_4 x3_7 t104 _ A11.out).mono ?_); rintro e w' ⟨rfl, ⟨nd, rfl⟩⟩; (try first | exact ⟨rfl, _, World.drewN_drewN _ _ _⟩ | exact ⟨rfl, _, Eq.trans (World.drewN_drewN _ _ _) (congrArg (World.drewN _) (Nat.add_assoc _ _ _))⟩); have p14 : 0 ≤ (t104 : Int) := zA; have q14 : t104 < (a0_1.size : Int) := zA; have hx14 := bt_at a0_1 t104; replace p14 := eq_true p14; replace q14 := eq_true q14))
    repeat (go_quiet (first | (go_at_call 156; (with_reducible refine (spec_l3Index.calls kj7 a0_0 x2_7 x1_4 x3_7 t104 _ A11.out).mono ?_); rintro e w' ⟨rfl, ⟨nd, rfl⟩⟩; (try first | exact ⟨rfl, _, World.drewN_drewN _ _ _⟩ | exact ⟨rfl, _, Eq.trans (World.drewN_drewN _ _ _) (congrArg (World.drewN _) (Nat.add_assoc _ _ _))⟩); have p14 : 0 ≤ (t104 : Int) := zA; have q14 : t104 < (a0_1.size : Int) := zA; have hx14 := bt_at a0_1 t104; replace p14 := eq_true p14; replace q14 := eq_true q14)); try go_wp2_with (first | (go_at_call 156; (with_reducible refine (spec_l3Index.calls kj7 a0_0 x2_7 x1_4 x3_7 t104 _ A11.out).mono ?_); rintro e w' ⟨rfl, ⟨nd, rfl⟩⟩; (try first | exact ⟨rfl, _, World.drewN_drewN _ _ _⟩ | exact ⟨rfl, _, Eq.trans (World.drewN_drewN _ _ _) (congrArg (World.drewN _) (Nat.add_assoc _ _ _))⟩); have p14 : 0 ≤ (t104 : Int) := zA; have q14 : t104 < (a0_1.size : Int) := zA; have hx14 := bt_at a0_1 t104; replace p14 := eq_true p14; replace q14 := eq_true q14)))
    go_ret
    exact ⟨zE, zG GE103.out⟩
   rw [if_neg c13] at H
   exact absurd H (by simp)
  rw [if_neg c12] at H
  exact absurd H (by simp)
 rw [if_neg c10] at H
 have c10b0 : decide (x2_7 < x1_4) = false := decide_eq_false c10
 clear c10
 obtain ⟨t105, A18, H⟩ := zO H
 by_cases c19 : 0 ≤ t105
 ·rw [if_pos c19] at H
  have c19b0 := decide_eq_true c19
  clear c19
  by_cases c20 : t105 < (a0_1.size : Int)
  ·rw [if_pos c20] at H
   have c20b0 := decide_eq_true c20
   clear c20
   by_cases c22 : (bt a0_1 t105) = 45
   ·rw [if_pos c22] at H
    have c22b0 := beq_iff_eq.mpr c22
    have c22b1 := bne_eq_false_iff_eq.mpr c22
    clear c22
    obtain rfl := Option.some.inj H
    obtain ⟨hcz23_0, hcz23_1, hfz23_0, hfz23_1⟩ := zq2 BK103.out
    go_wp2_with (first | (go_at_call 156; (with_reducible refine (spec_l3Index.calls kj7 a0_0 x1_4 x2_7 x3_7 t105 _ A18.out).mono ?_); rintro e w' ⟨rfl, ⟨nd, rfl⟩⟩; (try first | exact ⟨rfl, _, World.drewN_drewN _ _ _⟩ | exact ⟨rfl, _, Eq.trans (World.drewN_drewN _ _ _) (congrArg (World.drewN _) (Nat.add_assoc _ _ _))⟩); have p21 : 0 ≤ (t105 : Int) := zA; have q21 : t105 < (a0_1.size : Int) := zA; have hx21 := bt_at a0_1 t105; replace p21 := eq_true p21; replace q21 := eq_true q21))
    repeat (go_quiet (first | (go_at_call 156; (with_reducible refine (spec_l3Index.calls kj7 a0_0 x1_4 x2_7 x3_7 t105 _ A18.out).mono ?_); rintro e w' ⟨rfl, ⟨nd, rfl⟩⟩; (try first | exact ⟨rfl, _, World.drewN_drewN _ _ _⟩ | exact ⟨rfl, _, Eq.trans (World.drewN_drewN _ _ _) (congrArg (World.drewN _) (Nat.add_assoc _ _ _))⟩); have p21 : 0 ≤ (t105 : Int) := zA; have q21 : t105 < (a0_1.size : Int) := zA; have hx21 := bt_at a0_1 t105; replace p21 := eq_true p21; replace q21 := eq_true q21)); try go_wp2_with (first | (go_at_call 156; (with_reducible refine (spec_l3Index.calls kj7 a0_0 x1_4 x2_7 x3_7 t105 _ A18.out).mono ?_); rintro e w' ⟨rfl, ⟨nd, rfl⟩⟩; (try first | exact ⟨rfl, _, World.drewN_drewN _ _ _⟩ | exact ⟨rfl, _, Eq.trans (World.drewN_drewN _ _ _) (congrArg (World.drewN _) (Nat.add_assoc _ _ _))⟩); have p21 : 0 ≤ (t105 : Int) := zA; have q21 : t105 < (a0_1.size : Int) := zA; have hx21 := bt_at a0_1 t105; replace p21 := eq_true p21; replace q21 := eq_true q21)))
    go_ret
    exact ⟨zE, zG GE103.out⟩
   rw [if_neg c22] at H
   have c22b0 := beq_eq_false_iff_ne.mpr c22
   have c22b1 := bne_iff_ne.mpr c22
   obtain rfl := Option.some.inj H
   obtain ⟨hcz24_0, hcz24_1, hfz24_0, hfz24_1⟩ := zq2 BK103.out
   go_wp2_with (first | (go_at_call 156; (with_reducible refine (spec_l3Index.calls kj7 a0_0 x1_4 x2_7 x3_7 t105 _ A18.out).mono ?_); rintro e w' ⟨rfl, ⟨nd, rfl⟩⟩; (try first | exact ⟨rfl, _, World.drewN_drewN _ _ _⟩ | exact ⟨rfl, _, Eq.trans (World.drewN_drewN _ _ _) (congrArg (World.drewN _) (Nat.add_assoc _ _ _))⟩); have p21 : 0 ≤ (t105 : Int) := zA; have q21 : t105 < (a0_1.size : Int) := zA; have hx21 := bt_at a0_1 t105; replace p21 := eq_true p21; replace q21 := eq_true q21))
   repeat (go_quiet (first | (go_at_call 156; (with_reducible refine (spec_l3Index.calls kj7 a0_0 x1_4 x2_7 x3_7 t105 _ A18.out).mono ?_); rintro e w' ⟨rfl, ⟨nd, rfl⟩⟩; (try first | exact ⟨rfl, _, World.drewN_drewN _ _ _⟩ | exact ⟨rfl, _, Eq.trans (World.drewN_drewN _ _ _) (congrArg (World.drewN _) (Nat.add_assoc _ _ _))⟩); have p21 : 0 ≤ (t105 : Int) := zA; have q21 : t105 < (a0_1.size : Int) := zA; have hx21 := bt_at a0_1 t105; replace p21 := eq_true p21; replace q21 := eq_true q21)); try go_wp2_with (first | (go_at_call 156; (with_reducible refine (spec_l3Index.calls kj7 a0_0 x1_4 x2_7 x3_7 t105 _ A18.out).mono ?_); rintro e w' ⟨rfl, ⟨nd, rfl⟩⟩; (try first | exact ⟨rfl, _, World.drewN_drewN _ _ _⟩ | exact ⟨rfl, _, Eq.trans (World.drewN_drewN _ _ _) (congrArg (World.drewN _) (Nat.add_assoc _ _ _))⟩); have p21 : 0 ≤ (t105 : Int) := zA; have q21 : t105 < (a0_1.size : Int) := zA; have hx21 := bt_at a0_1 t105; replace p21 := eq_true p21; replace q21 := eq_true q21)))
   go_ret
   exact ⟨zE, zG GE103.out⟩
  rw [if_neg c20] at H
  exact absurd H (by simp)
 rw [if_neg c19] at H
 exact absurd H (by simp)
end Go.Proofs.Ytckkfjdkaimmhaa.PX
namespace Go.Proofs.Ytckkfjdkaimmhaa.M
open Go.RowKit Go.Proofs.YtckkfjdkaimmhaaW.PrintWords Go.Proofs.Ytckkfjdkaimmhaa.PX Go.Proofs.Ytckkfjdkaimmhaa.G
def chkT (n a b c : Nat) : Bool :=
 match lookT (tripN n) 0 (ix3 a b c) with
 | some (false, p) => decide (p < (tripN n).length) && (spec_l3Index.f 60 (n : Int) (a : Int) (b : Int) (c : Int) == some (p : Int)) &&
   (lookT (tripN n) 0 (ix3 b c a) == some (false, p)) && (lookT (tripN n) 0 (ix3 c a b) == some (false, p)) &&
   (lookT (tripN n) 0 (ix3 a c b) == some (true, p)) && (lookT (tripN n) 0 (ix3 c b a) == some (true, p)) && (lookT (tripN n) 0 (ix3 b a c) == some (true, p))
 | _ => false
def chkN (n : Nat) : Bool := (List.range n).all fun a => (List.range n).all fun b => (List.range n).all fun c => !(decide (a < b) && decide (b < c)) || chkT n a b c
theorem chkN_all {n : Nat} (h0 : 3 ≤ n) (h1 : n ≤ 7) : chkN n = true := by
 refine five (p := fun n => chkN n = true) h0 h1 ?_ ?_ ?_ ?_ ?_ <;> decide +kernel
theorem chi_all {n a b c : Nat} (t : ByteArray) (h0 : 3 ≤ n) (h1 : n ≤ 7) (hab : a < b) (hbc : b < c) (hc : c < n) :
  ∃ p, p < (tripN n).length ∧ Ev (fun k => spec_l3Index.f k (n : Int) (a : Int) (b : Int) (c : Int)) (p : Int) ∧ chi n t a b c = sgB t p ∧ chi n t b c a = sgB t p ∧ chi n t c a b = sgB t p ∧
   chi n t a c b = -sgB t p ∧ chi n t c b a = -sgB t p ∧ chi n t b a c = -sgB t p := by
 have h := chkN_all h0 h1
 have h := List.all_eq_true.1 h a (List.mem_range.2 (by omega))
 have h := List.all_eq_true.1 h b (List.mem_range.2 (by omega))
 have h := List.all_eq_true.1 h c (List.mem_range.2 hc)
 rw [decide_eq_true hab, decide_eq_true hbc] at h
 simp only [Bool.and_self, Bool.not_true, Bool.false_or] at h
 unfold chkT at h
 split at h
 ·rename_i p hp
  simp only [Bool.and_eq_true, decide_eq_true_eq, beq_iff_eq] at h
  obtain ⟨⟨⟨⟨⟨⟨g0, g1⟩, g2⟩, g3⟩, g4⟩, g5⟩, g6⟩ := h
  refine ⟨p, g0, Ev.of (spec_l3Index.mono _ _ _ _) g1, ?_⟩
  unfold chi
  rw [hp, g2, g3, g4, g5, g6]
  exact ⟨rfl, rfl, rfl, rfl, rfl, rfl⟩
 ·cases h
def chkZ (n : Nat) : Bool := (List.range 7).all fun a => (List.range 7).all fun b => (lookT (tripN n) 0 (ix3 a a b) == none) && (lookT (tripN n) 0 (ix3 a b a) == none) && (lookT (tripN n) 0 (ix3 b a a) == none)
theorem chkZ_all {n : Nat} (h0 : 3 ≤ n) (h1 : n ≤ 7) : chkZ n = true := by
 refine five (p := fun n => chkZ n = true) h0 h1 ?_ ?_ ?_ ?_ ?_ <;> decide +kernel
theorem chi_zero {n a b : Nat} (t : ByteArray) (h0 : 3 ≤ n) (h1 : n ≤ 7) (ha : a < 7) (hb : b < 7) : chi n t a a b = 0 ∧ chi n t a b a = 0 ∧ chi n t b a a = 0 := by
 have h := chkZ_all h0 h1
 have h := List.all_eq_true.1 h a (List.mem_range.2 ha)
 have h := List.all_eq_true.1 h b (List.mem_range.2 hb)
 simp only [Bool.and_eq_true, beq_iff_eq] at h
 obtain ⟨⟨g0, g1⟩, g2⟩ := h
 unfold chi
 rw [g0, g1, g2]
 exact ⟨rfl, rfl, rfl⟩
theorem wrap_neg_neg : wrap64 (- -1) = 1 := by decide +kernel
theorem wrap_one_ : wrap64 (-(1 : Int)) = -1 := by decide +kernel
theorem at_end {n : Nat} {t : ByteArray} (h : areOk n t = true) {a b c : Nat} {p : Nat} (hp : p < (tripN n).length) (he : Ev (fun k => spec_l3Index.f k (n : Int) (a : Int) (b : Int) (c : Int)) (p : Int)) (x y : Int) :
  Ev (fun k => (spec_l3Index.f k (n : Int) (a : Int) (b : Int) (c : Int)).bind fun z => if 0 ≤ z then (if z < (t.size : Int) then (if bt t z = 45 then some y else some x) else none) else none) (if bt t (p : Int) = 45 then y else x) := by
 obtain ⟨⟨h0, h1⟩, h2, _⟩ := (areOk_iff _ _).1 h
 have hc := (trip_small (n := n) (by omega) (by omega)).2
 refine Ev.bind he (ev_pos (by omega) (ev_pos (by omega) ?_))
 split <;> exact Ev.now _
theorem l3At_ev {n : Nat} {t : ByteArray} (h : areOk n t = true) {i j k : Nat} (hi : i < n) (hj : j < n) (hk : k < n) (hij : i ≠ j) (hjk : j ≠ k) (hik : i ≠ k) :
  Ev (fun q => spec_l3At.f q (n : Int) t (i : Int) (j : Int) (k : Int)) (chi n t i j k) := by
 obtain ⟨⟨h0, h1⟩, _, _⟩ := (areOk_iff _ _).1 h
 have h0 : 3 ≤ n := by omega
 have h1 : n ≤ 7 := by omega
 unfold spec_l3At.f
 rcases Nat.lt_or_gt_of_ne hij with ij | ij
 ·refine ev_neg (by omega) (ev_step ?_)
  simp only [spec_l3At.j0]
  rcases Nat.lt_or_gt_of_ne hjk with jk | jk
  ·refine ev_neg (by omega) (ev_step ?_)
   simp only [spec_l3At.j1]
   refine ev_neg (by omega) ?_
   obtain ⟨p, hp, he, e1, _⟩ := chi_all t h0 h1 ij jk hk
   refine ev_cast (at_end h hp he _ _) ?_
   rw [e1, wrap_one_]; rfl
  ·refine ev_pos (by omega) (ev_step ?_)
   simp only [spec_l3At.j1]
   rcases Nat.lt_or_gt_of_ne hik with ik | ik
   ·refine ev_neg (by omega) ?_
    obtain ⟨p, hp, he, _, _, _, e1, _⟩ := chi_all t h0 h1 ik jk hj
    refine ev_cast (at_end h hp he _ _) ?_
    rw [e1, wrap_one_, wrap_neg_neg]; unfold sgB; split <;> rfl
   ·refine ev_pos (by omega) ?_
    obtain ⟨p, hp, he, _, e1, _⟩ := chi_all t h0 h1 ik ij hj
    refine ev_cast (at_end h hp he _ _) ?_
    rw [e1, wrap_one_, wrap_neg_neg, wrap_one_]; rfl
 ·refine ev_pos (by omega) (ev_step ?_)
  simp only [spec_l3At.j0]
  rcases Nat.lt_or_gt_of_ne hik with ik | ik
  ·refine ev_neg (by omega) (ev_step ?_)
   simp only [spec_l3At.j1]
   refine ev_neg (by omega) ?_
   obtain ⟨p, hp, he, _, _, _, _, _, e1⟩ := chi_all t h0 h1 ij ik hk
   refine ev_cast (at_end h hp he _ _) ?_
   rw [e1, wrap_neg_neg]; unfold sgB; split <;> rfl
  ·refine ev_pos (by omega) (ev_step ?_)
   simp only [spec_l3At.j1]
   rcases Nat.lt_or_gt_of_ne hjk with jk | jk
   ·refine ev_neg (by omega) ?_
    obtain ⟨p, hp, he, _, _, e1, _⟩ := chi_all t h0 h1 jk ik hi
    refine ev_cast (at_end h hp he _ _) ?_
    rw [e1, wrap_neg_neg, wrap_one_]; rfl
   ·refine ev_pos (by omega) ?_
    obtain ⟨p, hp, he, _, _, _, _, e1, _⟩ := chi_all t h0 h1 jk ij hi
    refine ev_cast (at_end h hp he _ _) ?_
    rw [e1, wrap_neg_neg, wrap_one_, wrap_neg_neg]; unfold sgB; split <;> rfl
end Go.Proofs.Ytckkfjdkaimmhaa.M
namespace Go.Proofs.Ytckkfjdkaimmhaa.PX
open Go.RowKit Go.Proofs.Ytckkfjdkaimmhaa.G Go.Proofs.YtckkfjdkaimmhaaW.PrintWords Go.Proofs.YtckkfjdkaimmhaaW.PrintLast Go.Proofs.YtckkfjdkaimmhaaW.PrintMore
attribute [local go_sem] max2_int min2_int max_two min_two max_three min_three max_four min_four   -- for this text's walks alone
set_option linter.unusedVariables false
set_option linter.unusedSimpArgs false
/-! ### spec_l3Others: function 93 -/
def spec_l3Others.l0 : Nat → Int → Int → List Int → Int → Option (List Int)
 | 0, _, _, _, _ => none
 | k + 1, x0, x1, x5, x6 => if x6 < x0 then (if x6 = x1 then (spec_l3Others.l0 k x0 x1 x5 (wrap64 (x6 + 1))) else (if x5.length < 17592186044416 then (spec_l3Others.l0 k x0 x1 (x5 ++ [x6]) (wrap64 (x6 + 1))) else (none))) else (some x5)
def spec_l3Others.f (k : Nat) (a0 : Int) (a1 : Int) : Option (List Int) := spec_l3Others.l0 k a0 a1 (([] : List Int)) 0
theorem spec_l3Others.mono_l : ∀ k, (∀ y0 y1 y2 y3, LeO (spec_l3Others.l0 k y0 y1 y2 y3) (spec_l3Others.l0 (k + 1) y0 y1 y2 y3))
 | 0 => fun _ _ _ _ r h => by simp [spec_l3Others.l0] at h
 | k + 1 => by
  have ih0 := spec_l3Others.mono_l k
  ·intro y0 y1 y2 y3
   unfold spec_l3Others.l0
   repeat' first
   | (with_reducible first | exact ih0 .. | exact LeO.refl _ | exact LeO.none _ | refine LeO.ite ?_ ?_ | refine LeO.bind ?_ (fun _ => ?_))
   | exact ih0 .. | exact LeO.none _ | refine LeO.ite ?_ ?_ | refine LeO.bind ?_ (fun _ => ?_)
theorem spec_l3Others.mono : ∀ a0 a1 k, LeO (spec_l3Others.f k a0 a1) (spec_l3Others.f (k + 1) a0 a1) := by
 intro a0 a1 k
 have ih0 := spec_l3Others.mono_l k
 unfold spec_l3Others.f
 repeat' first
   | (with_reducible first | exact ih0 .. | exact LeO.refl _ | exact LeO.none _ | refine LeO.ite ?_ ?_ | refine LeO.bind ?_ (fun _ => ?_))
   | exact ih0 .. | exact LeO.none _ | refine LeO.ite ?_ ?_ | refine LeO.bind ?_ (fun _ => ?_)
set_option maxHeartbeats 8000000 in
set_option maxRecDepth 100000 in
theorem spec_l3Others.calls (k : Nat) (a0 : Int) (a1 : Int) (r : List Int) (w : World) (h : spec_l3Others.f k a0 a1 = some r) :
  Calls Try.prog 93 #[.int .i64 a0, .int .i64 a1] w fun e w' => ∃ v0_ : Value, e = .returned (v0_) ∧ Kd.R (Kd.int .i64) 3 w' w.heap.size (fun _ => True) v0_ r ∧ Below w.heap.size w w' := by
 have HB := Aside0.mk (Below.refl w.heap.size w)
 have H : (spec_l3Others.l0 k a0 a1 (([] : List Int)) 0) = some r := h
 clear h
 obtain ⟨y477, hy477⟩ : ∃ y_ : List Int, y_ = (([] : List Int)) := ⟨_, rfl⟩
 replace H : (spec_l3Others.l0 k a0 a1 y477 0) = some r := by first | (rw [hy477]; with_reducible exact H) | (have H2_ := (Option.bind_some _ _).symm.trans H; rw [hy477]; with_reducible exact H2_) | (have H2_ := (Option.bind_some _ _).symm.trans H; with_reducible exact H2_) | with_reducible exact H | (rw [hy477]; exact H) | exact H
 have Ny477 := Aside0.mk hy477
 clear hy477
 have H' := Aside0.mk H; clear H
 go_enter Try.func93, Try.ntmps93
 go_wp2_with (first | ((with_reducible refine gate_dst (N := 7) rfl ?_); refine Kd.R_lit (Kd.int .i64) _ 3 ?hg (N := 7) ?hd (xs := ([] : List Int)) (inner := []) (ok := fun _ => True) (okp := fun _ => True) ?hr ?hp (fun _ hk => hk) trivial (Below.refl _ _) (Nat.le_refl _) (by simp) ?_; (case hd => rfl); (case hg => rfl); (case hr => first | (go_simp; done) | (go_simp; rfl)); (case hp => exact (Reps.none _ _)); intro v478 w3 ho4 hb hg_ hnew_; clear hg_ hnew_; (first | rw [← Ny477.out] at ho4 | (simp only [Int.reduceToNat] at ho4; rw [← Ny477.out] at ho4)); have HO479 := Aside0.mk (Kd.R_lower ho4 (below_size zB)); replace HB := zX hb; clear hb ho4))
 go_loopg [5, 6] k (fun kq v5 v6 w' => ∃ (x5_1 : List Int) (x6_1 : Int), v6 = .int .i64 x6_1 ∧ Aside0 (spec_l3Others.l0 kq a0 a1 x5_1 x6_1 = some r) ∧ Aside0 (kq ≤ k) ∧ Aside0 (Kd.R (Kd.int .i64) 3 w' w.heap.size (fun _ => True) v5 x5_1) ∧ Aside0 (Below w.heap.size w w'))
 case atStart => exact ⟨(y477), (0), zF, H', ⟨Nat.le_refl _⟩, ⟨zR HO479.out⟩, ⟨zB⟩⟩
 case round =>
 clear H'
 obtain ⟨x5_1, x6_1, rfl, HA, HK1, HO_5, HB⟩ := hrel
 cases gk with
 | zero => exact absurd HA.out (by simp [spec_l3Others.l0])
 | succ k1 =>
 have H := HA.out
 clear HA
 simp only [spec_l3Others.l0] at H
 by_cases c5 : x6_1 < a0
 ·rw [if_pos c5] at H
  have c5b0 := decide_eq_true c5
  clear c5
  by_cases c6 : x6_1 = a1
  ·rw [if_pos c6] at H
   have c6b0 := beq_iff_eq.mpr c6
   have c6b1 := bne_eq_false_iff_eq.mpr c6
   clear c6
   have H' := Aside0.mk H; clear H
   go_wp2
   go_roundg k1
   case measure => have := HK1.out; omega
   case rel => exact ⟨(x5_1), (wrap64 (x6_1 + 1)), zF, H', ⟨by have := HK1.out; omega⟩, ⟨zR HO_5.out⟩, ⟨zB⟩⟩
  rw [if_neg c6] at H
  have c6b0 := beq_eq_false_iff_ne.mpr c6
  have c6b1 := bne_iff_ne.mpr c6
  by_cases c7 : x5_1.length < 17592186044416
  ·rw [if_pos c7] at H
   have LMc7 := Aside0.mk c7
   clear c7
   obtain ⟨y480, hy480⟩ : ∃ y_ : List Int, y_ = (x5_1 ++ [x6_1]) := ⟨_, rfl⟩
   replace H : (spec_l3Others.l0 k1 a0 a1 y480 (wrap64 (x6_1 + 1))) = some r := by first | (rw [hy480]; with_reducible exact H) | (have H2_ := (Option.bind_some _ _).symm.trans H; rw [hy480]; with_reducible exact H2_) | (have H2_ := (Option.bind_some _ _).symm.trans H; with_reducible exact H2_) | with_reducible exact H | (rw [hy480]; exact H) | exact H
   have Ny480 := Aside0.mk hy480
   clear hy480
   have H' := Aside0.mk H; clear H
   go_wp2_with (first | ((with_reducible refine gate_builtin (b := .append) (xs := #[.tmp 16, .tmp 18]) rfl ?_); at_builtin; refine Kd.R_append (Kd.int .i64) (w0 := w) w.heap.size rfl (.tmp 16) (.tmp 18) 27 3 (.int .i64 0) 8 rfl Try.underlying27 info3 rfl (by decide) (by omega) u5 x5_1 x6_1 [.int .i64 x6_1] (fun _ => True) (fun _ => False) rfl rfl ?aP (fun _ hk => hk.elim) ?aF ?aO ?aB ?aS ?aL ?_; (case aP => exact rfl); (case aB => exact zB); (case aF => exact (fun _ _ => trivial)); (case aO => exact (zR HO_5.out)); (case aS => exact (below_size zB)); (case aL => have := LMc7.out; omega); intro v481 w8 ho hb hg hat; rw [← Ny480.out] at ho; have n0_ := Aside0.mk (hb); have n1_ := Aside0.mk (ho); clear HB; clear HO_5; have HB := n0_; have HO482 := n1_; clear n0_ n1_; clear ho hb hg hat))
   go_roundg k1
   case measure => have := HK1.out; omega
   case rel => exact ⟨(y480), (wrap64 (x6_1 + 1)), zF, H', ⟨by have := HK1.out; omega⟩, ⟨zR HO482.out⟩, ⟨zB⟩⟩
  rw [if_neg c7] at H
  exact absurd H (by simp)
 rw [if_neg c5] at H
 have c5b0 := decide_eq_false c5
 clear c5
 obtain rfl := Option.some.inj H
 go_wp2
 go_ret
 exact ⟨_, zE, zR HO_5.out, zB⟩
end Go.Proofs.Ytckkfjdkaimmhaa.PX
namespace Go.Proofs.Ytckkfjdkaimmhaa.M
open Go.RowKit Go.Proofs.YtckkfjdkaimmhaaW.PrintWords Go.Proofs.Ytckkfjdkaimmhaa.PX
def up (l : List Nat) : List Int := l.map fun (x : Nat) => (x : Int)
theorem up_length (l : List Nat) : (up l).length = l.length := List.length_map ..
theorem rd_up {l : List Nat} {i : Nat} (h : i < l.length) : rd (up l) (i : Int) = ((l.getD i 0 : Nat) : Int) := by
 unfold rd up
 rw [Int.toNat_natCast, List.getD_eq_getElem?_getD, List.getD_eq_getElem?_getD, List.getElem?_map, List.getElem?_eq_getElem h]
 rfl
def othersN (n x : Nat) : List Nat := (List.range n).filter (fun y => y != x)
def othersChk : Bool := (List.range 8).all fun n => (List.range 8).all fun x => decide (spec_l3Others.f 30 (n : Int) (x : Int) = some (up (othersN n x)))
theorem othersChk_ok : othersChk = true := by decide +kernel
theorem others_ev {n x : Nat} (hn : n ≤ 7) (hx : x ≤ 7) : Ev (fun k => spec_l3Others.f k (n : Int) (x : Int)) (up (othersN n x)) := by
 have h := othersChk_ok
 have h := List.all_eq_true.1 h n (List.mem_range.2 (by omega))
 have h := List.all_eq_true.1 h x (List.mem_range.2 (by omega))
 exact Ev.of (spec_l3Others.mono _ _) (of_decide_eq_true h)
def chkW (n : Nat) : Bool := (List.range n).all fun x => decide ((othersN n x).length = n - 1) && decide ((othersN n x).Nodup) && (othersN n x).all fun y => decide (y < n)
theorem chkW_ok {n : Nat} (h0 : 3 ≤ n) (h1 : n ≤ 7) : chkW n = true := by
 refine five (p := fun n => chkW n = true) h0 h1 ?_ ?_ ?_ ?_ ?_ <;> decide +kernel
theorem others_facts {n x : Nat} (h0 : 3 ≤ n) (h1 : n ≤ 7) (hx : x < n) : (othersN n x).length = n - 1 ∧ (othersN n x).Nodup ∧ ∀ y ∈ othersN n x, y < n := by
 have h := List.all_eq_true.1 (chkW_ok h0 h1) x (List.mem_range.2 hx)
 simp only [Bool.and_eq_true, decide_eq_true_eq, List.all_eq_true] at h
 exact ⟨h.1.1, h.1.2, h.2⟩
end Go.Proofs.Ytckkfjdkaimmhaa.M
namespace Go.Proofs.Ytckkfjdkaimmhaa.PX
open Go.RowKit Go.Proofs.Ytckkfjdkaimmhaa.G Go.Proofs.YtckkfjdkaimmhaaW.PrintWords Go.Proofs.YtckkfjdkaimmhaaW.PrintLast Go.Proofs.YtckkfjdkaimmhaaW.PrintMore
attribute [local go_sem] max2_int min2_int max_two min_two max_three min_three max_four min_four   -- for this text's walks alone
set_option linter.unusedVariables false
set_option linter.unusedSimpArgs false
/-! ### spec_l4Breaks: function 94 -/
def spec_l4Breaks.f (k : Nat) (a0_0 : Int) (a0_1 : ByteArray) (a1 : Int) (a2 : Int) (a3 : Int) (a4 : Int) (a5 : Int) : Option (Bool) := (spec_l3At.f k a0_0 a0_1 a1 a2 a3).bind fun t484 => ((spec_l3At.f k a0_0 a0_1 a1 a4 a5).bind fun t485 => ((spec_l3At.f k a0_0 a0_1 a1 a2 a5).bind fun t486 => ((spec_l3At.f k a0_0 a0_1 a1 a3 a4).bind fun t487 => ((spec_l3At.f k a0_0 a0_1 a1 a2 a4).bind fun t488 => ((spec_l3At.f k a0_0 a0_1 a1 a3 a5).bind fun t489 => (if (wrap64 (t484 * t485)) = (wrap64 (t486 * t487)) then (some ((wrap64 (t486 * t487)) == (wrap64 ((wrap64 (-t488)) * t489)))) else (some false)))))))
def spec_l4Breaks.T1 : Bool × List (List Nat × List Nat) := (true, [([], []), ([], []), ([], []), ([], []), ([0, 1, 2, 3], [0, 1, 2, 3]), ([], []), ([], []), ([], []), ([], []), ([5, 6, 7, 8, 4], [5, 6, 7, 8]), ([4, 9], [4, 9]), ([10, 9, 0, 1, 2, 3, 4, 5, 6, 7, 8, 9, 10], [10])])
def spec_l4Breaks.B1 : List Nat := [0, 0, 0, 0, 15, 0, 0, 0, 0, 511, 1023, 2047]
theorem spec_l4Breaks.tab1 : rtab .any (opsOf Try.f94 1) = spec_l4Breaks.T1 := by kernel_rfl
theorem spec_l4Breaks.bits1 : waitsOk spec_l4Breaks.T1.2 spec_l4Breaks.B1 = true := by kernel_rfl
def spec_l4Breaks.T2 : Bool × List (List Nat × List Nat) := (true, [([], []), ([], []), ([], []), ([], []), ([0, 1, 2, 3], [0, 1, 2, 3]), ([], []), ([], []), ([], []), ([], []), ([5, 6, 7, 8, 4], [5, 6, 7, 8]), ([4, 9], [4, 9]), ([10, 9, 0, 1, 2, 3, 4, 5, 6, 7, 8, 9, 10], [10])])
def spec_l4Breaks.B2 : List Nat := [0, 0, 0, 0, 15, 0, 0, 0, 0, 511, 1023, 2047]
theorem spec_l4Breaks.tab2 : rtab .any (opsOf Try.f94 2) = spec_l4Breaks.T2 := by kernel_rfl
theorem spec_l4Breaks.bits2 : waitsOk spec_l4Breaks.T2.2 spec_l4Breaks.B2 = true := by kernel_rfl
def spec_l4Breaks.T3 : Bool × List (List Nat × List Nat) := (true, [([], []), ([], []), ([], []), ([], []), ([0, 1, 2, 3], [0, 1, 2, 3]), ([4], [4]), ([], []), ([], []), ([], []), ([], []), ([6, 7, 8, 9, 4], [6, 7, 8, 9]), ([5, 10], [5, 10]), ([11, 10, 0, 1, 2, 3, 4, 5, 6, 7, 8, 9, 10, 11], [11])])
def spec_l4Breaks.B3 : List Nat := [0, 0, 0, 0, 15, 31, 0, 0, 0, 0, 991, 2047, 4095]
theorem spec_l4Breaks.tab3 : rtab .any (opsOf Try.f94 3) = spec_l4Breaks.T3 := by kernel_rfl
theorem spec_l4Breaks.bits3 : waitsOk spec_l4Breaks.T3.2 spec_l4Breaks.B3 = true := by kernel_rfl
set_option maxHeartbeats 8000000 in
set_option maxRecDepth 100000 in
theorem spec_l4Breaks.calls (k : Nat) (a0_0 : Int) (a0_1 : ByteArray) (a1 : Int) (a2 : Int) (a3 : Int) (a4 : Int) (a5 : Int) (r : Bool) (w : World) (h : spec_l4Breaks.f k a0_0 a0_1 a1 a2 a3 a4 a5 = some r) :
  Calls Try.prog 94 #[.agg #[.int .i64 a0_0, .string a0_1], .int .i64 a1, .int .i64 a2, .int .i64 a3, .int .i64 a4, .int .i64 a5] w fun e w' => e = .returned (.bool r) ∧ Below w.heap.size w w' := by
 have hu25 := Try.underlying25
 have HB := Aside0.mk (Below.refl w.heap.size w)
 have H : ((spec_l3At.f k a0_0 a0_1 a1 a2 a3).bind fun t484 => ((spec_l3At.f k a0_0 a0_1 a1 a4 a5).bind fun t485 => ((spec_l3At.f k a0_0 a0_1 a1 a2 a5).bind fun t486 => ((spec_l3At.f k a0_0 a0_1 a1 a3 a4).bind fun t487 => ((spec_l3At.f k a0_0 a0_1 a1 a2 a4).bind fun t488 => ((spec_l3At.f k a0_0 a0_1 a1 a3 a5).bind fun t489 => (if (wrap64 (t484 * t485)) = (wrap64 (t486 * t487)) then (some ((wrap64 (t486 * t487)) == (wrap64 ((wrap64 (-t488)) * t489)))) else (some false)))))))) = some r := h
 clear h
 obtain ⟨t484, A7, H⟩ := zO H
 obtain ⟨t485, A8, H⟩ := zO H
 obtain ⟨t486, A9, H⟩ := zO H
 obtain ⟨t487, A10, H⟩ := zO H
 obtain ⟨t488, A11, H⟩ := zO H
 obtain ⟨t489, A12, H⟩ := zO H
 by_cases c13 : (wrap64 (t484 * t485)) = (wrap64 (t486 * t487))
 ·rw [if_pos c13] at H
  have c13b0 := beq_iff_eq.mpr c13
  have c13b1 := bne_eq_false_iff_eq.mpr c13
  clear c13
  obtain rfl := Option.some.inj H
  go_enter Try.func94, Try.ntmps94
  try go_wp2_with (first | ((with_reducible refine gate_dst (N := 6) rfl ?_); refine zBx (N := 6) #[.int .i64 a0_0, .string a0_1] 25 ?_; intro gb483 hg w14 hbox hb; have BK483 := Aside0.mk (hbox); have GW483 := zS hg; have GE483 := zS hg; replace HB := zX hb; clear hb hbox hg))
  replace BK483 := Aside0.mk (blk_drew BK483.out)
  replace HB := Aside0.mk (below_drew1 HB.out)
  refine start_ (n := 12) (S := fun w' => w'.cell? ⟨gb483, 0, none⟩ = some (.int .i64 a0_0) ∧ w'.cell? ⟨gb483, 1, none⟩ = some (.string a0_1)) (ds := []) #[false, false, false, false, false, false, false, false, false, false, false, false] (by kernel_rfl) rfl rfl ⟨(blk_cell BK483.out 0).trans rfl, (blk_cell BK483.out 1).trans rfl⟩ (fun hHeld => ?_); refine with_tabW spec_l4Breaks.tab1 spec_l4Breaks.bits1 (fun HT_ HW_ => ?_)
  generalize w14.drew = w15 at BK483 HB hHeld ⊢
  refine zP 1 (some 17) rfl rfl ?_
  refine zP 2 (some 18) rfl rfl ?_
  refine zP 3 (some 19) rfl rfl ?_
  refine zP 6 (some 22) rfl rfl ?_
  refine zP 7 (some 23) rfl rfl ?_
  refine zP 8 (some 24) rfl rfl ?_
  refine zY2 0 (some 16) rfl rfl hHeld ?_
  refine zY2 5 (some 21) rfl rfl hHeld ?_
  refine zU 4 (some 20) rfl rfl (fun K hK => ?_)
  refine goes_ Try.func144 (by kernel_rfl) rfl #[.agg #[.int .i64 a0_0, .string a0_1], .int .i64 a1, .int .i64 a2, .int .i64 a3] (by rfl) rfl rfl zM ?_
  with_reducible refine (spec_l3At.calls k a0_0 a0_1 a1 a2 a3 t484 _ A7.out).mono ?_
  rintro e w16 ⟨rfl, hb⟩
  refine ⟨_, rfl, ?_⟩
  replace BK483 := zV BK483.out hb
  replace HB := zX1 GE483.out hb
  (try clear hb)
  refine hK.out _ _ (zh2 BK483.out) (fun hHeld => ?_)
  clear hK K
  refine zN ?_
  refine zU 9 (some 25) rfl rfl (fun K hK => ?_)
  refine goes_ Try.func144 (by kernel_rfl) rfl #[.agg #[.int .i64 a0_0, .string a0_1], .int .i64 a1, .int .i64 a4, .int .i64 a5] (by rfl) rfl rfl zM ?_
  with_reducible refine (spec_l3At.calls k a0_0 a0_1 a1 a4 a5 t485 _ A8.out).mono ?_
  rintro e w17 ⟨rfl, hb⟩
  refine ⟨_, rfl, ?_⟩
  replace BK483 := zV BK483.out hb
  replace HB := zX1 GE483.out hb
  (try clear hb)
  refine hK.out _ _ (zh2 BK483.out) (fun hHeld => ?_)
  clear hK K
  refine zN ?_
  refine zP 10 (some 26) rfl rfl ?_
  refine zP 11 (some 13) rfl rfl ?_
  refine done_ (done_of HT_.out (by kernel_rfl)) ?_
  try go_wp2
  replace BK483 := Aside0.mk (blk_drew BK483.out)
  replace HB := Aside0.mk (below_drew1 HB.out)
  refine start_ (n := 12) (S := fun w' => w'.cell? ⟨gb483, 0, none⟩ = some (.int .i64 a0_0) ∧ w'.cell? ⟨gb483, 1, none⟩ = some (.string a0_1)) (ds := []) #[false, false, false, false, false, false, false, false, false, false, false, false] (by kernel_rfl) rfl rfl ⟨(blk_cell BK483.out 0).trans rfl, (blk_cell BK483.out 1).trans rfl⟩ (fun hHeld => ?_); refine with_tabW spec_l4Breaks.tab2 spec_l4Breaks.bits2 (fun HT_ HW_ => ?_)
  generalize w17.drew = w18 at BK483 HB hHeld ⊢
  refine zP 1 (some 28) rfl rfl ?_
  refine zP 2 (some 29) rfl rfl ?_
  refine zP 3 (some 30) rfl rfl ?_
  refine zP 6 (some 33) rfl rfl ?_
  refine zP 7 (some 34) rfl rfl ?_
  refine zP 8 (some 35) rfl rfl ?_
  refine zY2 0 (some 27) rfl rfl hHeld ?_
  refine zY2 5 (some 32) rfl rfl hHeld ?_
  refine zU 4 (some 31) rfl rfl (fun K hK => ?_)
  refine goes_ Try.func144 (by kernel_rfl) rfl #[.agg #[.int .i64 a0_0, .string a0_1], .int .i64 a1, .int .i64 a2, .int .i64 a5] (by rfl) rfl rfl zM ?_
  with_reducible refine (spec_l3At.calls k a0_0 a0_1 a1 a2 a5 t486 _ A9.out).mono ?_
  rintro e w19 ⟨rfl, hb⟩
  refine ⟨_, rfl, ?_⟩
  replace BK483 := zV BK483.out hb
  replace HB := zX1 GE483.out hb
  (try clear hb)
  refine hK.out _ _ (zh2 BK483.out) (fun hHeld => ?_)
  clear hK K
  refine zN ?_
  refine zU 9 (some 36) rfl rfl (fun K hK => ?_)
  refine goes_ Try.func144 (by kernel_rfl) rfl #[.agg #[.int .i64 a0_0, .string a0_1], .int .i64 a1, .int .i64 a3, .int .i64 a4] (by rfl) rfl rfl zM ?_
  with_reducible refine (spec_l3At.calls k a0_0 a0_1 a1 a3 a4 t487 _ A10.out).mono ?_
  rintro e w20 ⟨rfl, hb⟩
  refine ⟨_, rfl, ?_⟩
  replace BK483 := zV BK483.out hb
  replace HB := zX1 GE483.out hb
  (try clear hb)
  refine hK.out _ _ (zh2 BK483.out) (fun hHeld => ?_)
  clear hK K
  refine zN ?_
  refine zP 10 (some 37) rfl rfl ?_
  refine zP 11 (some 14) rfl rfl ?_
  refine done_ (done_of HT_.out (by kernel_rfl)) ?_
  try go_wp2
  replace BK483 := Aside0.mk (blk_drew BK483.out)
  replace HB := Aside0.mk (below_drew1 HB.out)
  refine start_ (n := 13) (S := fun w' => w'.cell? ⟨gb483, 0, none⟩ = some (.int .i64 a0_0) ∧ w'.cell? ⟨gb483, 1, none⟩ = some (.string a0_1)) (ds := []) #[false, false, false, false, false, false, false, false, false, false, false, false, false] (by kernel_rfl) rfl rfl ⟨(blk_cell BK483.out 0).trans rfl, (blk_cell BK483.out 1).trans rfl⟩ (fun hHeld => ?_); refine with_tabW spec_l4Breaks.tab3 spec_l4Breaks.bits3 (fun HT_ HW_ => ?_)
  generalize w20.drew = w21 at BK483 HB hHeld ⊢
  refine zP 1 (some 39) rfl rfl ?_
  refine zP 2 (some 40) rfl rfl ?_
  refine zP 3 (some 41) rfl rfl ?_
  refine zP 7 (some 45) rfl rfl ?_
  refine zP 8 (some 46) rfl rfl ?_
  refine zP 9 (some 47) rfl rfl ?_
  refine zY2 0 (some 38) rfl rfl hHeld ?_
  refine zY2 6 (some 44) rfl rfl hHeld ?_
  refine zU 4 (some 42) rfl rfl (fun K hK => ?_)
  refine goes_ Try.func144 (by kernel_rfl) rfl #[.agg #[.int .i64 a0_0, .string a0_1], .int .i64 a1, .int .i64 a2, .int .i64 a4] (by rfl) rfl rfl zM ?_
  with_reducible refine (spec_l3At.calls k a0_0 a0_1 a1 a2 a4 t488 _ A11.out).mono ?_
  rintro e w22 ⟨rfl, hb⟩
  refine ⟨_, rfl, ?_⟩
  replace BK483 := zV BK483.out hb
  replace HB := zX1 GE483.out hb
  (try clear hb)
  refine hK.out _ _ (zh2 BK483.out) (fun hHeld => ?_)
  clear hK K
  refine zN ?_
  refine zP 5 (some 43) rfl rfl ?_
  refine zU 10 (some 48) rfl rfl (fun K hK => ?_)
  refine goes_ Try.func144 (by kernel_rfl) rfl #[.agg #[.int .i64 a0_0, .string a0_1], .int .i64 a1, .int .i64 a3, .int .i64 a5] (by rfl) rfl rfl zM ?_
  with_reducible refine (spec_l3At.calls k a0_0 a0_1 a1 a3 a5 t489 _ A12.out).mono ?_
  rintro e w23 ⟨rfl, hb⟩
  refine ⟨_, rfl, ?_⟩
  replace BK483 := zV BK483.out hb
  replace HB := zX1 GE483.out hb
  (try clear hb)
  refine hK.out _ _ (zh2 BK483.out) (fun hHeld => ?_)
  clear hK K
  refine zN ?_
  refine zP 11 (some 49) rfl rfl ?_
  refine zP 12 (some 15) rfl rfl ?_
  refine done_ (done_of HT_.out (by kernel_rfl)) ?_
  try go_wp2
  go_ret
  exact ⟨zE, zG GE483.out⟩
 rw [if_neg c13] at H
 have c13b0 := beq_eq_false_iff_ne.mpr c13
 have c13b1 := bne_iff_ne.mpr c13
 obtain rfl := Option.some.inj H
 go_enter Try.func94, Try.ntmps94
 try go_wp2_with (first | ((with_reducible refine gate_dst (N := 6) rfl ?_); refine zBx (N := 6) #[.int .i64 a0_0, .string a0_1] 25 ?_; intro gb483 hg w24 hbox hb; have BK483 := Aside0.mk (hbox); have GW483 := zS hg; have GE483 := zS hg; replace HB := zX hb; clear hb hbox hg))
 replace BK483 := Aside0.mk (blk_drew BK483.out)
 replace HB := Aside0.mk (below_drew1 HB.out)
 refine start_ (n := 12) (S := fun w' => w'.cell? ⟨gb483, 0, none⟩ = some (.int .i64 a0_0) ∧ w'.cell? ⟨gb483, 1, none⟩ = some (.string a0_1)) (ds := []) #[false, false, false, false, false, false, false, false, false, false, false, false] (by kernel_rfl) rfl rfl ⟨(blk_cell BK483.out 0).trans rfl, (blk_cell BK483.out 1).trans rfl⟩ (fun hHeld => ?_); refine with_tabW spec_l4Breaks.tab1 spec_l4Breaks.bits1 (fun HT_ HW_ => ?_)
 generalize w24.drew = w25 at BK483 HB hHeld ⊢
 refine zP 1 (some 17) rfl rfl ?_
 refine zP 2 (some 18) rfl rfl ?_
 refine zP 3 (some 19) rfl rfl ?_
 refine zP 6 (some 22) rfl rfl ?_
 refine zP 7 (some 23) rfl rfl ?_
 refine zP 8 (some 24) rfl rfl ?_
 refine zY2 0 (some 16) rfl rfl hHeld ?_
 refine zY2 5 (some 21) rfl rfl hHeld ?_
 refine zU 4 (some 20) rfl rfl (fun K hK => ?_)
 refine goes_ Try.func144 (by kernel_rfl) rfl #[.agg #[.int .i64 a0_0, .string a0_1], .int .i64 a1, .int .i64 a2, .int .i64 a3] (by rfl) rfl rfl zM ?_
 with_reducible refine (spec_l3At.calls k a0_0 a0_1 a1 a2 a3 t484 _ A7.out).mono ?_
 rintro e w26 ⟨rfl, hb⟩
 refine ⟨_, rfl, ?_⟩
 replace BK483 := zV BK483.out hb
 replace HB := zX1 GE483.out hb
 (try clear hb)
 refine hK.out _ _ (zh2 BK483.out) (fun hHeld => ?_)
 clear hK K
 refine zN ?_
 refine zU 9 (some 25) rfl rfl (fun K hK => ?_)
 refine goes_ Try.func144 (by kernel_rfl) rfl #[.agg #[.int .i64 a0_0, .string a0_1], .int .i64 a1, .int .i64 a4, .int .i64 a5] (by rfl) rfl rfl zM ?_
 with_reducible refine (spec_l3At.calls k a0_0 a0_1 a1 a4 a5 t485 _ A8.out).mono ?_
 rintro e w27 ⟨rfl, hb⟩
 refine ⟨_, rfl, ?_⟩
 replace BK483 := zV BK483.out hb
 replace HB := zX1 GE483.out hb
 (try clear hb)
 refine hK.out _ _ (zh2 BK483.out) (fun hHeld => ?_)
 clear hK K
 refine zN ?_
 refine zP 10 (some 26) rfl rfl ?_
 refine zP 11 (some 13) rfl rfl ?_
 refine done_ (done_of HT_.out (by kernel_rfl)) ?_
 try go_wp2
 replace BK483 := Aside0.mk (blk_drew BK483.out)
 replace HB := Aside0.mk (below_drew1 HB.out)
 refine start_ (n := 12) (S := fun w' => w'.cell? ⟨gb483, 0, none⟩ = some (.int .i64 a0_0) ∧ w'.cell? ⟨gb483, 1, none⟩ = some (.string a0_1)) (ds := []) #[false, false, false, false, false, false, false, false, false, false, false, false] (by kernel_rfl) rfl rfl ⟨(blk_cell BK483.out 0).trans rfl, (blk_cell BK483.out 1).trans rfl⟩ (fun hHeld => ?_); refine with_tabW spec_l4Breaks.tab2 spec_l4Breaks.bits2 (fun HT_ HW_ => ?_)
 generalize w27.drew = w28 at BK483 HB hHeld ⊢
 refine zP 1 (some 28) rfl rfl ?_
 refine zP 2 (some 29) rfl rfl ?_
 refine zP 3 (some 30) rfl rfl ?_
 refine zP 6 (some 33) rfl rfl ?_
 refine zP 7 (some 34) rfl rfl ?_
 refine zP 8 (some 35) rfl rfl ?_
 refine zY2 0 (some 27) rfl rfl hHeld ?_
 refine zY2 5 (some 32) rfl rfl hHeld ?_
 refine zU 4 (some 31) rfl rfl (fun K hK => ?_)
 refine goes_ Try.func144 (by kernel_rfl) rfl #[.agg #[.int .i64 a0_0, .string a0_1], .int .i64 a1, .int .i64 a2, .int .i64 a5] (by rfl) rfl rfl zM ?_
 with_reducible refine (spec_l3At.calls k a0_0 a0_1 a1 a2 a5 t486 _ A9.out).mono ?_
 rintro e w29 ⟨rfl, hb⟩
 refine ⟨_, rfl, ?_⟩
 replace BK483 := zV BK483.out hb
 replace HB := zX1 GE483.out hb
 (try clear hb)
 refine hK.out _ _ (zh2 BK483.out) (fun hHeld => ?_)
 clear hK K
 refine zN ?_
 refine zU 9 (some 36) rfl rfl (fun K hK => ?_)
 refine goes_ Try.func144 (by kernel_rfl) rfl #[.agg #[.int .i64 a0_0, .string a0_1], .int .i64 a1, .int .i64 a3, .int .i64 a4] (by rfl) rfl rfl zM ?_
 with_reducible refine (spec_l3At.calls k a0_0 a0_1 a1 a3 a4 t487 _ A10.out).mono ?_
 rintro e w30 ⟨rfl, hb⟩
 refine ⟨_, rfl, ?_⟩
 replace BK483 := zV BK483.out hb
 replace HB := zX1 GE483.out hb
 (try clear hb)
 refine hK.out _ _ (zh2 BK483.out) (fun hHeld => ?_)
 clear hK K
 refine zN ?_
 refine zP 10 (some 37) rfl rfl ?_
 refine zP 11 (some 14) rfl rfl ?_
 refine done_ (done_of HT_.out (by kernel_rfl)) ?_
 try go_wp2
 replace BK483 := Aside0.mk (blk_drew BK483.out)
 replace HB := Aside0.mk (below_drew1 HB.out)
 refine start_ (n := 13) (S := fun w' => w'.cell? ⟨gb483, 0, none⟩ = some (.int .i64 a0_0) ∧ w'.cell? ⟨gb483, 1, none⟩ = some (.string a0_1)) (ds := []) #[false, false, false, false, false, false, false, false, false, false, false, false, false] (by kernel_rfl) rfl rfl ⟨(blk_cell BK483.out 0).trans rfl, (blk_cell BK483.out 1).trans rfl⟩ (fun hHeld => ?_); refine with_tabW spec_l4Breaks.tab3 spec_l4Breaks.bits3 (fun HT_ HW_ => ?_)
 generalize w30.drew = w31 at BK483 HB hHeld ⊢
 refine zP 1 (some 39) rfl rfl ?_
 refine zP 2 (some 40) rfl rfl ?_
 refine zP 3 (some 41) rfl rfl ?_
 refine zP 7 (some 45) rfl rfl ?_
 refine zP 8 (some 46) rfl rfl ?_
 refine zP 9 (some 47) rfl rfl ?_
 refine zY2 0 (some 38) rfl rfl hHeld ?_
 refine zY2 6 (some 44) rfl rfl hHeld ?_
 refine zU 4 (some 42) rfl rfl (fun K hK => ?_)
 refine goes_ Try.func144 (by kernel_rfl) rfl #[.agg #[.int .i64 a0_0, .string a0_1], .int .i64 a1, .int .i64 a2, .int .i64 a4] (by rfl) rfl rfl zM ?_
 with_reducible refine (spec_l3At.calls k a0_0 a0_1 a1 a2 a4 t488 _ A11.out).mono ?_
 rintro e w32 ⟨rfl, hb⟩
 refine ⟨_, rfl, ?_⟩
 replace BK483 := zV BK483.out hb
 replace HB := zX1 GE483.out hb
 (try clear hb)
 refine hK.out _ _ (zh2 BK483.out) (fun hHeld => ?_)
 clear hK K
 refine zN ?_
 refine zP 5 (some 43) rfl rfl ?_
 refine zU 10 (some 48) rfl rfl (fun K hK => ?_)
 refine goes_ Try.func144 (by kernel_rfl) rfl #[.agg #[.int .i64 a0_0, .string a0_1], .int .i64 a1, .int .i64 a3, .int .i64 a5] (by rfl) rfl rfl zM ?_
 with_reducible refine (spec_l3At.calls k a0_0 a0_1 a1 a3 a5 t489 _ A12.out).mono ?_
 rintro e w33 ⟨rfl, hb⟩
 refine ⟨_, rfl, ?_⟩
 replace BK483 := zV BK483.out hb
 replace HB := zX1 GE483.out hb
 (try clear hb)
 refine hK.out _ _ (zh2 BK483.out) (fun hHeld => ?_)
 clear hK K
 refine zN ?_
 refine zP 11 (some 49) rfl rfl ?_
 refine zP 12 (some 15) rfl rfl ?_
 refine done_ (done_of HT_.out (by kernel_rfl)) ?_
 try go_wp2
 go_ret
 exact ⟨zE, zG GE483.out⟩
/-! ### spec_FirstBreak: function 17 -/
mutual
def spec_FirstBreak.l0 : Nat → Int → Int → ByteArray → Option (List Int)
 | 0, _, _, _ => none
 | k + 1, x3, x491000, x491001 => if x3 < x491000 then ((spec_AreSigns.f k x491000 x491001).bind fun t491 => (spec_FirstBreak.j1 k x3 t491 x491000 x491001)) else (spec_FirstBreak.j1 k x3 false x491000 x491001)
def spec_FirstBreak.j1 : Nat → Int → Bool → Int → ByteArray → Option (List Int)
 | 0, _, _, _, _ => none
 | k + 1, x3, x16, x491000, x491001 => if x16 = true then ((spec_l3Others.f k x491000 x3).bind fun t495 => (spec_FirstBreak.l1 k x3 t495 0 x491000 x491001)) else (some (([] : List Int)))
def spec_FirstBreak.l1 : Nat → Int → List Int → Int → Int → ByteArray → Option (List Int)
 | 0, _, _, _, _, _ => none
 | k + 1, x3, x4, x5, x491000, x491001 => if x5 < (x4.length : Int) then (spec_FirstBreak.l2 k x3 x4 x5 (wrap64 (x5 + 1)) x491000 x491001) else (spec_FirstBreak.l0 k (wrap64 (x3 + 1)) x491000 x491001)
def spec_FirstBreak.l2 : Nat → Int → List Int → Int → Int → Int → ByteArray → Option (List Int)
 | 0, _, _, _, _, _, _ => none
 | k + 1, x3, x4, x5, x6, x491000, x491001 => if x6 < (x4.length : Int) then (spec_FirstBreak.l3 k x3 x4 x5 x6 (wrap64 (x6 + 1)) x491000 x491001) else (spec_FirstBreak.l1 k x3 x4 (wrap64 (x5 + 1)) x491000 x491001)
def spec_FirstBreak.l3 : Nat → Int → List Int → Int → Int → Int → Int → ByteArray → Option (List Int)
 | 0, _, _, _, _, _, _, _ => none
 | k + 1, x3, x4, x5, x6, x7, x491000, x491001 => if x7 < (x4.length : Int) then (spec_FirstBreak.l4 k x3 x4 x5 x6 x7 (wrap64 (x7 + 1)) x491000 x491001) else (spec_FirstBreak.l2 k x3 x4 x5 (wrap64 (x6 + 1)) x491000 x491001)
def spec_FirstBreak.l4 : Nat → Int → List Int → Int → Int → Int → Int → Int → ByteArray → Option (List Int)
 | 0, _, _, _, _, _, _, _, _ => none
 | k + 1, x3, x4, x5, x6, x7, x8, x491000, x491001 => if x8 < (x4.length : Int) then (if 0 ≤ x5 then (if x5 < (x4.length : Int) then (if 0 ≤ x6 then (if x6 < (x4.length : Int) then (if 0 ≤ x7 then (if x7 < (x4.length : Int) then (if 0 ≤ x8 then ((spec_l4Breaks.f k x491000 x491001 x3 (rd x4 x5) (rd x4 x6) (rd x4 x7) (rd x4 x8)).bind fun t502 => (if t502 = true then (some (([x3, rd x4 x5, rd x4 x6, rd x4 x7, rd x4 x8] : List Int))) else (spec_FirstBreak.l4 k x3 x4 x5 x6 x7 (wrap64 (x8 + 1)) x491000 x491001))) else (none)) else (none)) else (none)) else (none)) else (none)) else (none)) else (none)) else (spec_FirstBreak.l3 k x3 x4 x5 x6 (wrap64 (x7 + 1)) x491000 x491001)
end
def spec_FirstBreak.f (k : Nat) (a0_0 : Int) (a0_1 : ByteArray) : Option (List Int) := spec_FirstBreak.l0 k 0 a0_0 a0_1
def spec_FirstBreak.T17 : Bool × List (List Nat × List Nat) := (true, [([], []), ([], []), ([], []), ([], []), ([2, 3], [2, 3]), ([4], [4]), ([], []), ([], []), ([6, 7], [6, 7]), ([8], [8]), ([], []), ([], []), ([10, 11], [10, 11]), ([12], [12]), ([], []), ([], []), ([14, 15], [14, 15]), ([16], [16]), ([0, 1, 5, 9, 13, 17], [0, 1, 5, 9, 13, 17])])
def spec_FirstBreak.B17 : List Nat := [0, 0, 0, 0, 12, 28, 0, 0, 192, 448, 0, 0, 3072, 7168, 0, 0, 49152, 114688, 262143]
theorem spec_FirstBreak.tab17 : rtab .any (opsOf Try.f17 17) = spec_FirstBreak.T17 := by kernel_rfl
theorem spec_FirstBreak.bits17 : waitsOk spec_FirstBreak.T17.2 spec_FirstBreak.B17 = true := by kernel_rfl
def spec_FirstBreak.T18 : Bool × List (List Nat × List Nat) := (true, [([], []), ([], []), ([], []), ([1, 2], [1, 2]), ([3], [3]), ([], []), ([], []), ([5, 6], [5, 6]), ([7], [7]), ([], []), ([], []), ([9, 10], [9, 10]), ([11], [11]), ([], []), ([], []), ([13, 14], [13, 14]), ([15], [15]), ([0, 4, 8, 12, 16], [0, 4, 8, 12, 16]), ([17, 0, 1, 2, 3, 4, 5, 6, 7, 8, 9, 10, 11, 12, 13, 14, 15, 16, 17], [17])])
def spec_FirstBreak.B18 : List Nat := [0, 0, 0, 6, 14, 0, 0, 96, 224, 0, 0, 1536, 3584, 0, 0, 24576, 57344, 131071, 262143]
theorem spec_FirstBreak.tab18 : rtab .any (opsOf Try.f17 18) = spec_FirstBreak.T18 := by kernel_rfl
theorem spec_FirstBreak.bits18 : waitsOk spec_FirstBreak.T18.2 spec_FirstBreak.B18 = true := by kernel_rfl
set_option maxHeartbeats 8000000 in
set_option maxRecDepth 100000 in
theorem spec_FirstBreak.calls (k : Nat) (a0_0 : Int) (a0_1 : ByteArray) (r : List Int) (w : World) (h : spec_FirstBreak.f k a0_0 a0_1 = some r) :
  Calls Try.prog 17 #[.agg #[.int .i64 a0_0, .string a0_1]] w fun e w' => ∃ v0_ : Value, e = .returned (v0_) ∧ Kd.R (Kd.int .i64) 3 w' w.heap.size (fun _ => True) v0_ r ∧ Below w.heap.size w w' := by
 have hu25 := Try.underlying25
 have HB := Aside0.mk (Below.refl w.heap.size w)
 have H : (spec_FirstBreak.l0 k 0 a0_0 a0_1) = some r := h
 clear h
 have H' := Aside0.mk H; clear H
 go_enter Try.func17, Try.ntmps17
 go_wp2_with (first | ((with_reducible refine gate_dst (N := 1) rfl ?_); refine zBx (N := 1) #[.int .i64 a0_0, .string a0_1] 25 ?_; intro gb490 hg w2 hbox hb; have BK490 := Aside0.mk (hbox); have GW490 := zS hg; have GE490 := zS hg; replace HB := zX hb; clear hb hbox hg))
 go_loopg [3] k (fun kq v3 w' => ∃ (x3_1 : Int), v3 = .int .i64 x3_1 ∧ Aside0 (spec_FirstBreak.l0 kq x3_1 a0_0 a0_1 = some r) ∧ Aside0 (kq ≤ k) ∧ Aside0 (w'.heap[gb490]? = some (.cells #[.int .i64 a0_0, .string a0_1] 25 (0, 0))) ∧ Aside0 (Below w.heap.size w w'))
 case atStart => exact ⟨(0), zF, H', ⟨Nat.le_refl _⟩, ⟨zK BK490.out⟩, ⟨zG GE490.out⟩⟩
 case round =>
 clear H'
 obtain ⟨x3_1, rfl, HA, HK1, BK490, HB⟩ := hrel
 cases gk with
 | zero => exact absurd HA.out (by simp [spec_FirstBreak.l0])
 | succ k1 =>
 have H := HA.out
 clear HA
 simp only [spec_FirstBreak.l0] at H
 have HC3 := Aside0.mk H
 clear H
 go_upto_region 2 with (fail)
 go_cut [16] (fun v16 wc => ∃ (kq : Nat) (x16_2 : Bool), v16 = .bool x16_2 ∧ Aside0 (spec_FirstBreak.j1 kq x3_1 x16_2 a0_0 a0_1 = some r) ∧ Aside0 (kq ≤ k1) ∧ Aside0 (wc.heap[gb490]? = some (.cells #[.int .i64 a0_0, .string a0_1] 25 (0, 0))) ∧ Aside0 (Below w.heap.size w wc))
 case first =>
  have H := HC3.out
  clear HC3
  by_cases c4 : x3_1 < a0_0
  ·rw [if_pos c4] at H
   have c4b0 := decide_eq_true c4
   clear c4
   (first | rw [c4b0] | (simp only [i64_w, i32_w]; rw [c4b0]) | skip)
   obtain ⟨t491, A5, H⟩ := zO H
   have H' := Aside0.mk H; clear H
   obtain ⟨hcz6_0, hcz6_1, hfz6_0, hfz6_1⟩ := zq2 BK490.out
   go_wp2_with (first | (go_at_call 25; (with_reducible refine (spec_AreSigns.calls k1 a0_0 a0_1 t491 _ A5.out).mono ?_); rintro e w7 ⟨rfl, hb⟩; replace BK490 := zV BK490.out hb; replace HB := zX1 GE490.out hb; (try clear hb); (try clear hb2); (try clear hk); (try clear hi)))
   go_meet
   case rel => exact ⟨_, (t491), zF, H', ⟨by have := HK1.out; first | omega | exact Nat.le_refl _⟩, ⟨zK BK490.out⟩, ⟨zG GE490.out⟩⟩
  rw [if_neg c4] at H
  have c4b0 := decide_eq_false c4
  clear c4
  (first | rw [c4b0] | (simp only [i64_w, i32_w]; rw [c4b0]) | skip)
  have H' := Aside0.mk H; clear H
  obtain ⟨hcz8_0, hcz8_1, hfz8_0, hfz8_1⟩ := zq2 BK490.out
  go_wp2
  go_meet
  case rel => exact ⟨_, (false), zF, H', ⟨by have := HK1.out; first | omega | exact Nat.le_refl _⟩, ⟨zK BK490.out⟩, ⟨zG GE490.out⟩⟩
 case rest =>
 clear HC3
 obtain ⟨kq, x16_2, rfl, HA, HJ2, BK490, HB⟩ := hcut
 cases kq with
 | zero => exact absurd HA.out (by simp [spec_FirstBreak.j1])
 | succ kj2 =>
 have H := HA.out
 clear HA
 simp only [spec_FirstBreak.j1] at H
 by_cases c9 : x16_2 = true
 ·subst c9
  replace H := (if_pos rfl).symm.trans H
  obtain ⟨t495, A10, H⟩ := zO H
  have H' := Aside0.mk H; clear H
  obtain ⟨hcz11_0, hcz11_1, hfz11_0, hfz11_1⟩ := zq2 BK490.out
  go_wp2_with (first | ((with_reducible refine gate_callee (f := 93) rfl ?_); refine zD (some 22) Try.func93 #[.int .i64 a0_0, .int .i64 x3_1] ?_; (with_reducible refine (spec_l3Others.calls kj2 a0_0 x3_1 t495 _ A10.out).mono ?_); rintro e w12 ⟨v496, rfl, ho0, hb⟩; refine ⟨_, rfl, ?_⟩; have HO497 := Aside0.mk (Kd.R_lower ho0 (below_size (zG GE490.out))); replace BK490 := zV BK490.out hb; replace HB := zX1 GE490.out hb; (try clear hb); (try clear ho0)))
  go_loopg [5] kj2 (fun kq v5 w' => ∃ (x5_3 : Int), v5 = .int .i64 x5_3 ∧ Aside0 (spec_FirstBreak.l1 kq x3_1 t495 x5_3 a0_0 a0_1 = some r) ∧ Aside0 (kq ≤ kj2) ∧ Aside0 (Kd.R (Kd.int .i64) 3 w' w.heap.size (fun _ => True) v496 t495) ∧ Aside0 (w'.heap[gb490]? = some (.cells #[.int .i64 a0_0, .string a0_1] 25 (0, 0))) ∧ Aside0 (Below w.heap.size w w'))
  case atStart => exact ⟨(0), zF, H', ⟨Nat.le_refl _⟩, ⟨zR HO497.out⟩, ⟨zK BK490.out⟩, ⟨zG GE490.out⟩⟩
  case round =>
  clear H'
  try clear c9
  try clear hcz11_0
  try clear hcz11_1
  try clear hfz11_0
  try clear hfz11_1
  obtain ⟨x5_3, rfl, HA, HK3, HO_4, BK490, HB⟩ := hrel
  cases gk with
  | zero => exact absurd HA.out (by simp [spec_FirstBreak.l1])
  | succ k3 =>
  have H := HA.out
  clear HA
  simp only [spec_FirstBreak.l1] at H
  by_cases c13 : x5_3 < (t495.length : Int)
  ·rw [if_pos c13] at H
   have c13b0 := decide_eq_true c13
   clear c13
   have H' := Aside0.mk H; clear H
   obtain ⟨Ao14, co14, eo14⟩ := Kd.R_slice HO_4.out
   subst eo14
   go_wp2
   go_loopg [6] k3 (fun kq v6 w' => ∃ (x6_4 : Int), v6 = .int .i64 x6_4 ∧ Aside0 (spec_FirstBreak.l2 kq x3_1 t495 x5_3 x6_4 a0_0 a0_1 = some r) ∧ Aside0 (kq ≤ k3) ∧ Aside0 (Kd.R (Kd.int .i64) 3 w' w.heap.size (fun _ => True) (.slice Ao14 t495.length co14) t495) ∧ Aside0 (w'.heap[gb490]? = some (.cells #[.int .i64 a0_0, .string a0_1] 25 (0, 0))) ∧ Aside0 (Below w.heap.size w w'))
   case atStart => exact ⟨(wrap64 (x5_3 + 1)), zF, H', ⟨Nat.le_refl _⟩, ⟨zR HO_4.out⟩, ⟨zK BK490.out⟩, ⟨zG GE490.out⟩⟩
   case round =>
   clear H'
   try clear c9
   try clear c13
   try clear c13b0
   try clear hcz11_0
   try clear hcz11_1
   try clear hfz11_0
   try clear hfz11_1
   obtain ⟨x6_4, rfl, HA, HK4, HO_4, BK490, HB⟩ := hrel
   cases gk with
   | zero => exact absurd HA.out (by simp [spec_FirstBreak.l2])
   | succ k4 =>
   have H := HA.out
   clear HA
   simp only [spec_FirstBreak.l2] at H
   by_cases c15 : x6_4 < (t495.length : Int)
   ·rw [if_pos c15] at H
    have c15b0 := decide_eq_true c15
    clear c15
    have H' := Aside0.mk H; clear H
    go_wp2
    go_loopg [7] k4 (fun kq v7 w' => ∃ (x7_5 : Int), v7 = .int .i64 x7_5 ∧ Aside0 (spec_FirstBreak.l3 kq x3_1 t495 x5_3 x6_4 x7_5 a0_0 a0_1 = some r) ∧ Aside0 (kq ≤ k4) ∧ Aside0 (Kd.R (Kd.int .i64) 3 w' w.heap.size (fun _ => True) (.slice Ao14 t495.length co14) t495) ∧ Aside0 (w'.heap[gb490]? = some (.cells #[.int .i64 a0_0, .string a0_1] 25 (0, 0))) ∧ Aside0 (Below w.heap.size w w'))
    case atStart => exact ⟨(wrap64 (x6_4 + 1)), zF, H', ⟨Nat.le_refl _⟩, ⟨zR HO_4.out⟩, ⟨zK BK490.out⟩, ⟨zG GE490.out⟩⟩
    case round =>
    clear H'
    try clear c9
    try clear c13
    try clear c13b0
    try clear c15
    try clear c15b0
    try clear hcz11_0
    try clear hcz11_1
    try clear hfz11_0
    try clear hfz11_1
    obtain ⟨x7_5, rfl, HA, HK5, HO_4, BK490, HB⟩ := hrel
    cases gk with
    | zero => exact absurd HA.out (by simp [spec_FirstBreak.l3])
    | succ k5 =>
    have H := HA.out
    clear HA
    simp only [spec_FirstBreak.l3] at H
    by_cases c16 : x7_5 < (t495.length : Int)
    ·rw [if_pos c16] at H
     have c16b0 := decide_eq_true c16
     clear c16
     have H' := Aside0.mk H; clear H
     go_wp2
     go_loopg [8] k5 (fun kq v8 w' => ∃ (x8_6 : Int), v8 = .int .i64 x8_6 ∧ Aside0 (spec_FirstBreak.l4 kq x3_1 t495 x5_3 x6_4 x7_5 x8_6 a0_0 a0_1 = some r) ∧ Aside0 (kq ≤ k5) ∧ Aside0 (Kd.R (Kd.int .i64) 3 w' w.heap.size (fun _ => True) (.slice Ao14 t495.length co14) t495) ∧ Aside0 (w'.heap[gb490]? = some (.cells #[.int .i64 a0_0, .string a0_1] 25 (0, 0))) ∧ Aside0 (Below w.heap.size w w'))
     case atStart => exact ⟨(wrap64 (x7_5 + 1)), zF, H', ⟨Nat.le_refl _⟩, ⟨zR HO_4.out⟩, ⟨zK BK490.out⟩, ⟨zG GE490.out⟩⟩
     case round =>
     clear H'
     try clear c9
     try clear c13
     try clear c13b0
     try clear c15
     try clear c15b0
     try clear c16
     try clear c16b0
     try clear hcz11_0
     try clear hcz11_1
     try clear hfz11_0
     try clear hfz11_1
     obtain ⟨x8_6, rfl, HA, HK6, HO_4, BK490, HB⟩ := hrel
     cases gk with
     | zero => exact absurd HA.out (by simp [spec_FirstBreak.l4])
     | succ k6 =>
     have H := HA.out
     clear HA
     simp only [spec_FirstBreak.l4] at H
     by_cases c17 : x8_6 < (t495.length : Int)
     ·rw [if_pos c17] at H
      have c17b0 := decide_eq_true c17
      clear c17
      by_cases c18 : 0 ≤ x5_3
      ·rw [if_pos c18] at H
       have c18b0 := decide_eq_true c18
       clear c18
       by_cases c19 : x5_3 < (t495.length : Int)
       ·rw [if_pos c19] at H
        have c19b0 := decide_eq_true c19
        clear c19
        by_cases c20 : 0 ≤ x6_4
        ·rw [if_pos c20] at H
         have c20b0 := decide_eq_true c20
         clear c20
         by_cases c21 : x6_4 < (t495.length : Int)
         ·rw [if_pos c21] at H
          have c21b0 := decide_eq_true c21
          clear c21
          by_cases c22 : 0 ≤ x7_5
          ·rw [if_pos c22] at H
           have c22b0 := decide_eq_true c22
           clear c22
           by_cases c23 : x7_5 < (t495.length : Int)
           ·rw [if_pos c23] at H
            have c23b0 := decide_eq_true c23
            clear c23
            by_cases c24 : 0 ≤ x8_6
            ·rw [if_pos c24] at H
             have c24b0 := decide_eq_true c24
             clear c24
             obtain ⟨t502, A25, H⟩ := zO H
             by_cases c26 : t502 = true
             ·subst c26
              replace H := (if_pos rfl).symm.trans H
              obtain ⟨y507, hy507⟩ : ∃ y_ : List Int, y_ = (([x3_1, rd t495 x5_3, rd t495 x6_4, rd t495 x7_5, rd t495 x8_6] : List Int)) := ⟨_, rfl⟩
              replace H : (some y507) = some r := by first | (rw [hy507]; with_reducible exact H) | (have H2_ := (Option.bind_some _ _).symm.trans H; rw [hy507]; with_reducible exact H2_) | (have H2_ := (Option.bind_some _ _).symm.trans H; with_reducible exact H2_) | with_reducible exact H | (rw [hy507]; exact H) | exact H
              have Ny507 := Aside0.mk hy507
              clear hy507
              obtain rfl := Option.some.inj H
              try go_wp2
              replace HO_4 := Aside0.mk (Kd.R_drew HO_4.out)
              replace BK490 := Aside0.mk (blk_drew BK490.out)
              replace HB := Aside0.mk (below_drew1 HB.out)
              have p498 : 0 ≤ (x5_3 : Int) := zA
              have q498 : x5_3 < (t495.length : Int) := zA
              obtain ⟨ad498, e498, hx498_0⟩ := Kd.at_int (Kd.R_reads' HO_4.out).2.2 x5_3 p498 q498
              cases e498
              replace p498 := eq_true p498
              replace q498 := eq_true q498
              have p499 : 0 ≤ (x6_4 : Int) := zA
              have q499 : x6_4 < (t495.length : Int) := zA
              obtain ⟨ad499, e499, hx499_0⟩ := Kd.at_int (Kd.R_reads' HO_4.out).2.2 x6_4 p499 q499
              obtain rfl : ad498 = ad499 := (by injection e499)
              replace p499 := eq_true p499
              replace q499 := eq_true q499
              have p500 : 0 ≤ (x7_5 : Int) := zA
              have q500 : x7_5 < (t495.length : Int) := zA
              obtain ⟨ad500, e500, hx500_0⟩ := Kd.at_int (Kd.R_reads' HO_4.out).2.2 x7_5 p500 q500
              obtain rfl : ad498 = ad500 := (by injection e500)
              replace p500 := eq_true p500
              replace q500 := eq_true q500
              have p501 : 0 ≤ (x8_6 : Int) := zA
              have q501 : x8_6 < (t495.length : Int) := zA
              obtain ⟨ad501, e501, hx501_0⟩ := Kd.at_int (Kd.R_reads' HO_4.out).2.2 x8_6 p501 q501
              obtain rfl : ad498 = ad501 := (by injection e501)
              replace p501 := eq_true p501
              replace q501 := eq_true q501
              refine start_ (n := 19) (S := fun w' => w'.cell? ⟨gb490, 0, none⟩ = some (.int .i64 a0_0) ∧ w'.cell? ⟨gb490, 1, none⟩ = some (.string a0_1) ∧ w'.cell? (ad498.add (x5_3).toNat) = some (.int .i64 (rd t495 x5_3)) ∧ w'.cell? (ad498.add (x6_4).toNat) = some (.int .i64 (rd t495 x6_4)) ∧ w'.cell? (ad498.add (x7_5).toNat) = some (.int .i64 (rd t495 x7_5)) ∧ w'.cell? (ad498.add (x8_6).toNat) = some (.int .i64 (rd t495 x8_6))) (ds := []) #[false, false, false, false, false, false, false, false, false, false, false, false, false, false, false, false, false, false, false] (by kernel_rfl) rfl rfl ⟨(blk_cell BK490.out 0).trans rfl, (blk_cell BK490.out 1).trans rfl, hx498_0, hx499_0, hx500_0, hx501_0⟩ (fun hHeld => ?_); refine with_tabW spec_FirstBreak.tab17 spec_FirstBreak.bits17 (fun HT_ HW_ => ?_)
              generalize wr.drew = w27 at HO_4 BK490 HB hx498_0 hx499_0 hx500_0 hx501_0 hHeld ⊢
              refine zP 1 (some 54) rfl rfl ?_
              refine zP 2 (some 55) rfl rfl ?_
              refine zP 3 (some 56) rfl rfl ?_
              refine zP 4 (some 57) rfl rfl ?_
              refine zP 6 (some 59) rfl rfl ?_
              refine zP 7 (some 60) rfl rfl ?_
              refine zP 8 (some 61) rfl rfl ?_
              refine zP 10 (some 63) rfl rfl ?_
              refine zP 11 (some 64) rfl rfl ?_
              refine zP 12 (some 65) rfl rfl ?_
              refine zP 14 (some 67) rfl rfl ?_
              refine zP 15 (some 68) rfl rfl ?_
              refine zP 16 (some 69) rfl rfl ?_
              refine zY6 0 (some 53) rfl rfl hHeld ?_
              refine zY6 5 (some 58) rfl rfl hHeld ?_
              refine zY6 9 (some 62) rfl rfl hHeld ?_
              refine zY6 13 (some 66) rfl rfl hHeld ?_
              refine zY6 17 (some 70) rfl rfl hHeld ?_
              refine zU 18 (some 71) rfl rfl (fun K hK => ?_)
              refine goes_ Try.func94 (by kernel_rfl) rfl #[.agg #[.int .i64 a0_0, .string a0_1], .int .i64 x3_1, .int .i64 (rd t495 x5_3), .int .i64 (rd t495 x6_4), .int .i64 (rd t495 x7_5), .int .i64 (rd t495 x8_6)] (by rfl) rfl rfl zM ?_
              with_reducible refine (spec_l4Breaks.calls k6 a0_0 a0_1 x3_1 (rd t495 x5_3) (rd t495 x6_4) (rd t495 x7_5) (rd t495 x8_6) true _ A25.out).mono ?_
              rintro e w28 ⟨rfl, hb⟩
              have HS2_ := (hb.cell (World.block_lt_of_cell? _ _ (hHeld.2.2.1))).trans (hHeld.2.2.1)
              have HS3_ := (hb.cell (World.block_lt_of_cell? _ _ (hHeld.2.2.2.1))).trans (hHeld.2.2.2.1)
              have HS4_ := (hb.cell (World.block_lt_of_cell? _ _ (hHeld.2.2.2.2.1))).trans (hHeld.2.2.2.2.1)
              have HS5_ := (hb.cell (World.block_lt_of_cell? _ _ (hHeld.2.2.2.2.2))).trans (hHeld.2.2.2.2.2)
              refine ⟨_, rfl, ?_⟩
              replace HO_4 := zW HO_4.out hb
              replace BK490 := zV BK490.out hb
              replace HB := zX1 GE490.out hb
              (try clear hb)
              refine hK.out _ _ ⟨(blk_cell BK490.out 0).trans rfl, (blk_cell BK490.out 1).trans rfl, HS2_, HS3_, HS4_, HS5_⟩ (fun hHeld => ?_)
              clear hK K
              refine zN ?_
              refine done_ (done_of HT_.out (by kernel_rfl)) ?_
              try go_wp2
              replace HO_4 := Aside0.mk (Kd.R_drew HO_4.out)
              replace BK490 := Aside0.mk (blk_drew BK490.out)
              replace HB := Aside0.mk (below_drew1 HB.out)
              have p503 : 0 ≤ (x5_3 : Int) := zA
              have q503 : x5_3 < (t495.length : Int) := zA
              obtain ⟨ad503, e503, hx503_0⟩ := Kd.at_int (Kd.R_reads' HO_4.out).2.2 x5_3 p503 q503
              obtain rfl : ad498 = ad503 := (by injection e503)
              replace p503 := eq_true p503
              replace q503 := eq_true q503
              have p504 : 0 ≤ (x6_4 : Int) := zA
              have q504 : x6_4 < (t495.length : Int) := zA
              obtain ⟨ad504, e504, hx504_0⟩ := Kd.at_int (Kd.R_reads' HO_4.out).2.2 x6_4 p504 q504
              obtain rfl : ad498 = ad504 := (by injection e504)
              replace p504 := eq_true p504
              replace q504 := eq_true q504
              have p505 : 0 ≤ (x7_5 : Int) := zA
              have q505 : x7_5 < (t495.length : Int) := zA
              obtain ⟨ad505, e505, hx505_0⟩ := Kd.at_int (Kd.R_reads' HO_4.out).2.2 x7_5 p505 q505
              obtain rfl : ad498 = ad505 := (by injection e505)
              replace p505 := eq_true p505
              replace q505 := eq_true q505
              have p506 : 0 ≤ (x8_6 : Int) := zA
              have q506 : x8_6 < (t495.length : Int) := zA
              obtain ⟨ad506, e506, hx506_0⟩ := Kd.at_int (Kd.R_reads' HO_4.out).2.2 x8_6 p506 q506
              obtain rfl : ad498 = ad506 := (by injection e506)
              replace p506 := eq_true p506
              replace q506 := eq_true q506
              refine start_ (n := 19) (S := fun w' => w'.cell? (ad498.add (x5_3).toNat) = some (.int .i64 (rd t495 x5_3)) ∧ w'.cell? (ad498.add (x6_4).toNat) = some (.int .i64 (rd t495 x6_4)) ∧ w'.cell? (ad498.add (x7_5).toNat) = some (.int .i64 (rd t495 x7_5)) ∧ w'.cell? (ad498.add (x8_6).toNat) = some (.int .i64 (rd t495 x8_6))) (ds := []) #[false, false, false, false, false, false, false, false, false, false, false, false, false, false, false, false, false, false, false] (by kernel_rfl) rfl rfl ⟨hx503_0, hx504_0, hx505_0, hx506_0⟩ (fun hHeld => ?_); refine with_tabW spec_FirstBreak.tab18 spec_FirstBreak.bits18 (fun HT_ HW_ => ?_)
              generalize w28.drew = w29 at HO_4 BK490 HB hx503_0 hx504_0 hx505_0 hx506_0 hHeld ⊢
              refine zP 0 (some 72) rfl rfl ?_
              refine zP 1 (some 73) rfl rfl ?_
              refine zP 2 (some 74) rfl rfl ?_
              refine zP 3 (some 75) rfl rfl ?_
              refine zP 5 (some 77) rfl rfl ?_
              refine zP 6 (some 78) rfl rfl ?_
              refine zP 7 (some 79) rfl rfl ?_
              refine zP 9 (some 81) rfl rfl ?_
              refine zP 10 (some 82) rfl rfl ?_
              refine zP 11 (some 83) rfl rfl ?_
              refine zP 13 (some 85) rfl rfl ?_
              refine zP 14 (some 86) rfl rfl ?_
              refine zP 15 (some 87) rfl rfl ?_
              refine zY4 4 (some 76) rfl rfl hHeld ?_
              refine zY4 8 (some 80) rfl rfl hHeld ?_
              refine zY4 12 (some 84) rfl rfl hHeld ?_
              refine zY4 16 (some 88) rfl rfl hHeld ?_
              refine zU 17 (some 89) rfl rfl (fun K hK => ?_)
              refine Kd.R_lit_step (Kd.int .i64) _ 3 ?hg (N := 89) ?hd (xs := ([x3_1, rd t495 x5_3, rd t495 x6_4, rd t495 x7_5, rd t495 x8_6] : List Int)) (inner := [.int .i64 x3_1, .int .i64 (rd t495 x5_3), .int .i64 (rd t495 x6_4), .int .i64 (rd t495 x7_5), .int .i64 (rd t495 x8_6)]) (ok := fun _ => True) (okp := fun _ => True) ?hr ?hp (fun _ hk => hk) trivial (Below.refl _ _) (Nat.le_refl _) (by simp) ?_; (case hd => rfl); (case hg => rfl); (case hr => first | (go_simp; done) | (go_simp; rfl)); (case hp => exact (Reps.one (show Kd.M (Kd.int .i64) _ _ _ x3_1 [.int .i64 x3_1] from rfl) (Reps.one (show Kd.M (Kd.int .i64) _ _ _ (rd t495 x5_3) [.int .i64 (rd t495 x5_3)] from rfl) (Reps.one (show Kd.M (Kd.int .i64) _ _ _ (rd t495 x6_4) [.int .i64 (rd t495 x6_4)] from rfl) (Reps.one (show Kd.M (Kd.int .i64) _ _ _ (rd t495 x7_5) [.int .i64 (rd t495 x7_5)] from rfl) (Reps.one (show Kd.M (Kd.int .i64) _ _ _ (rd t495 x8_6) [.int .i64 (rd t495 x8_6)] from rfl) (Reps.none _ _)))))))
              intro v508 w30 ho31 hb hg_ hnew_
              have HS0_ := (hb.cell (World.block_lt_of_cell? _ _ (hHeld.1))).trans (hHeld.1)
              have HS1_ := (hb.cell (World.block_lt_of_cell? _ _ (hHeld.2.1))).trans (hHeld.2.1)
              have HS2_ := (hb.cell (World.block_lt_of_cell? _ _ (hHeld.2.2.1))).trans (hHeld.2.2.1)
              have HS3_ := (hb.cell (World.block_lt_of_cell? _ _ (hHeld.2.2.2))).trans (hHeld.2.2.2)
              clear hg_ hnew_
              (first | rw [← Ny507.out] at ho31 | (simp only [Int.reduceToNat] at ho31; rw [← Ny507.out] at ho31))
              have HO509 := Aside0.mk (Kd.R_lower (Kd.R_new' ho31 (Kd.R_lt (zR HO_4.out))) (below_size (zG GE490.out)))
              replace HO_4 := Aside0.mk (Kd.R_elder' (zR HO_4.out) (Kd.R_base ho31) hb)
              replace BK490 := zV BK490.out hb
              replace HB := zX1 GE490.out hb
              clear hb ho31
              refine hK.out _ _ ⟨HS0_, HS1_, HS2_, HS3_⟩ (fun hHeld => ?_)
              clear hK K
              refine zN ?_
              refine zP 18 (some 2) rfl rfl ?_
              refine done_ (done_of HT_.out (by kernel_rfl)) ?_
              try go_wp2
              go_ret
              exact ⟨_, zE, by (with_reducible repeat (first | apply Kd.R_alloc | apply Kd.R_drewN | apply Kd.R_drew)); exact Kd.R_mono HO509.out (fun _ hk => trivial), zG GE490.out⟩
             replace c26 := Bool.eq_false_iff.mpr c26
             subst c26
             replace H := (if_neg zFf).symm.trans H
             have H' := Aside0.mk H; clear H
             try go_wp2
             replace HO_4 := Aside0.mk (Kd.R_drew HO_4.out)
             replace BK490 := Aside0.mk (blk_drew BK490.out)
             replace HB := Aside0.mk (below_drew1 HB.out)
             have p498 : 0 ≤ (x5_3 : Int) := zA
             have q498 : x5_3 < (t495.length : Int) := zA
             obtain ⟨ad498, e498, hx498_0⟩ := Kd.at_int (Kd.R_reads' HO_4.out).2.2 x5_3 p498 q498
             cases e498
             replace p498 := eq_true p498
             replace q498 := eq_true q498
             have p499 : 0 ≤ (x6_4 : Int) := zA
             have q499 : x6_4 < (t495.length : Int) := zA
             obtain ⟨ad499, e499, hx499_0⟩ := Kd.at_int (Kd.R_reads' HO_4.out).2.2 x6_4 p499 q499
             obtain rfl : ad498 = ad499 := (by injection e499)
             replace p499 := eq_true p499
             replace q499 := eq_true q499
             have p500 : 0 ≤ (x7_5 : Int) := zA
             have q500 : x7_5 < (t495.length : Int) := zA
             obtain ⟨ad500, e500, hx500_0⟩ := Kd.at_int (Kd.R_reads' HO_4.out).2.2 x7_5 p500 q500
             obtain rfl : ad498 = ad500 := (by injection e500)
             replace p500 := eq_true p500
             replace q500 := eq_true q500
             have p501 : 0 ≤ (x8_6 : Int) := zA
             have q501 : x8_6 < (t495.length : Int) := zA
             obtain ⟨ad501, e501, hx501_0⟩ := Kd.at_int (Kd.R_reads' HO_4.out).2.2 x8_6 p501 q501
             obtain rfl : ad498 = ad501 := (by injection e501)
             replace p501 := eq_true p501
             replace q501 := eq_true q501
             refine start_ (n := 19) (S := fun w' => w'.cell? ⟨gb490, 0, none⟩ = some (.int .i64 a0_0) ∧ w'.cell? ⟨gb490, 1, none⟩ = some (.string a0_1) ∧ w'.cell? (ad498.add (x5_3).toNat) = some (.int .i64 (rd t495 x5_3)) ∧ w'.cell? (ad498.add (x6_4).toNat) = some (.int .i64 (rd t495 x6_4)) ∧ w'.cell? (ad498.add (x7_5).toNat) = some (.int .i64 (rd t495 x7_5)) ∧ w'.cell? (ad498.add (x8_6).toNat) = some (.int .i64 (rd t495 x8_6))) (ds := []) #[false, false, false, false, false, false, false, false, false, false, false, false, false, false, false, false, false, false, false] (by kernel_rfl) rfl rfl ⟨(blk_cell BK490.out 0).trans rfl, (blk_cell BK490.out 1).trans rfl, hx498_0, hx499_0, hx500_0, hx501_0⟩ (fun hHeld => ?_); refine with_tabW spec_FirstBreak.tab17 spec_FirstBreak.bits17 (fun HT_ HW_ => ?_)
             generalize wr.drew = w32 at HO_4 BK490 HB hx498_0 hx499_0 hx500_0 hx501_0 hHeld ⊢
             refine zP 1 (some 54) rfl rfl ?_
             refine zP 2 (some 55) rfl rfl ?_
             refine zP 3 (some 56) rfl rfl ?_
             refine zP 4 (some 57) rfl rfl ?_
             refine zP 6 (some 59) rfl rfl ?_
             refine zP 7 (some 60) rfl rfl ?_
             refine zP 8 (some 61) rfl rfl ?_
             refine zP 10 (some 63) rfl rfl ?_
             refine zP 11 (some 64) rfl rfl ?_
             refine zP 12 (some 65) rfl rfl ?_
             refine zP 14 (some 67) rfl rfl ?_
             refine zP 15 (some 68) rfl rfl ?_
             refine zP 16 (some 69) rfl rfl ?_
             refine zY6 0 (some 53) rfl rfl hHeld ?_
             refine zY6 5 (some 58) rfl rfl hHeld ?_
             refine zY6 9 (some 62) rfl rfl hHeld ?_
             refine zY6 13 (some 66) rfl rfl hHeld ?_
             refine zY6 17 (some 70) rfl rfl hHeld ?_
             refine zU 18 (some 71) rfl rfl (fun K hK => ?_)
             refine goes_ Try.func94 (by kernel_rfl) rfl #[.agg #[.int .i64 a0_0, .string a0_1], .int .i64 x3_1, .int .i64 (rd t495 x5_3), .int .i64 (rd t495 x6_4), .int .i64 (rd t495 x7_5), .int .i64 (rd t495 x8_6)] (by rfl) rfl rfl zM ?_
             with_reducible refine (spec_l4Breaks.calls k6 a0_0 a0_1 x3_1 (rd t495 x5_3) (rd t495 x6_4) (rd t495 x7_5) (rd t495 x8_6) false _ A25.out).mono ?_
             rintro e w33 ⟨rfl, hb⟩
             have HS2_ := (hb.cell (World.block_lt_of_cell? _ _ (hHeld.2.2.1))).trans (hHeld.2.2.1)
             have HS3_ := (hb.cell (World.block_lt_of_cell? _ _ (hHeld.2.2.2.1))).trans (hHeld.2.2.2.1)
             have HS4_ := (hb.cell (World.block_lt_of_cell? _ _ (hHeld.2.2.2.2.1))).trans (hHeld.2.2.2.2.1)
             have HS5_ := (hb.cell (World.block_lt_of_cell? _ _ (hHeld.2.2.2.2.2))).trans (hHeld.2.2.2.2.2)
             refine ⟨_, rfl, ?_⟩
             replace HO_4 := zW HO_4.out hb
             replace BK490 := zV BK490.out hb
             replace HB := zX1 GE490.out hb
             (try clear hb)
             refine hK.out _ _ ⟨(blk_cell BK490.out 0).trans rfl, (blk_cell BK490.out 1).trans rfl, HS2_, HS3_, HS4_, HS5_⟩ (fun hHeld => ?_)
             clear hK K
             refine zN ?_
             refine done_ (done_of HT_.out (by kernel_rfl)) ?_
             try go_wp2
             go_roundg k6
             case measure => have := HK1.out; have := HJ2.out; have := HK3.out; have := HK4.out; have := HK5.out; have := HK6.out; omega
             case rel => exact ⟨(wrap64 (x8_6 + 1)), zF, H', ⟨by have := HK1.out; have := HJ2.out; have := HK3.out; have := HK4.out; have := HK5.out; have := HK6.out; omega⟩, ⟨zR HO_4.out⟩, ⟨zK BK490.out⟩, ⟨zG GE490.out⟩⟩
            rw [if_neg c24] at H
            exact absurd H (by simp)
           rw [if_neg c23] at H
           exact absurd H (by simp)
          rw [if_neg c22] at H
          exact absurd H (by simp)
         rw [if_neg c21] at H
         exact absurd H (by simp)
        rw [if_neg c20] at H
        exact absurd H (by simp)
       rw [if_neg c19] at H
       exact absurd H (by simp)
      rw [if_neg c18] at H
      exact absurd H (by simp)
     rw [if_neg c17] at H
     have c17b0 := decide_eq_false c17
     clear c17
     have H' := Aside0.mk H; clear H
     go_wp2
     go_roundg k6
     case measure => have := HK1.out; have := HJ2.out; have := HK3.out; have := HK4.out; have := HK5.out; have := HK6.out; omega
     case rel => exact ⟨(wrap64 (x7_5 + 1)), zF, H', ⟨by have := HK1.out; have := HJ2.out; have := HK3.out; have := HK4.out; have := HK5.out; have := HK6.out; omega⟩, ⟨zR HO_4.out⟩, ⟨zK BK490.out⟩, ⟨zG GE490.out⟩⟩
    rw [if_neg c16] at H
    have c16b0 := decide_eq_false c16
    clear c16
    have H' := Aside0.mk H; clear H
    go_wp2
    go_roundg k5
    case measure => have := HK1.out; have := HJ2.out; have := HK3.out; have := HK4.out; have := HK5.out; omega
    case rel => exact ⟨(wrap64 (x6_4 + 1)), zF, H', ⟨by have := HK1.out; have := HJ2.out; have := HK3.out; have := HK4.out; have := HK5.out; omega⟩, ⟨zR HO_4.out⟩, ⟨zK BK490.out⟩, ⟨zG GE490.out⟩⟩
   rw [if_neg c15] at H
   have c15b0 := decide_eq_false c15
   clear c15
   have H' := Aside0.mk H; clear H
   go_wp2
   go_roundg k4
   case measure => have := HK1.out; have := HJ2.out; have := HK3.out; have := HK4.out; omega
   case rel => exact ⟨(wrap64 (x5_3 + 1)), zF, H', ⟨by have := HK1.out; have := HJ2.out; have := HK3.out; have := HK4.out; omega⟩, ⟨zR HO_4.out⟩, ⟨zK BK490.out⟩, ⟨zG GE490.out⟩⟩
  rw [if_neg c13] at H
  have c13b0 := decide_eq_false c13
  clear c13
  have H' := Aside0.mk H; clear H
  obtain ⟨Ao34, co34, eo34⟩ := Kd.R_slice HO_4.out
  subst eo34
  go_wp2
  go_roundg k3
  case measure => have := HK1.out; have := HJ2.out; have := HK3.out; omega
  case rel => exact ⟨(wrap64 (x3_1 + 1)), zF, H', ⟨by have := HK1.out; have := HJ2.out; have := HK3.out; omega⟩, ⟨zK BK490.out⟩, ⟨zG GE490.out⟩⟩
 replace c9 := Bool.eq_false_iff.mpr c9
 subst c9
 replace H := (if_neg zFf).symm.trans H
 obtain ⟨y492, hy492⟩ : ∃ y_ : List Int, y_ = (([] : List Int)) := ⟨_, rfl⟩
 replace H : (some y492) = some r := by first | (rw [hy492]; with_reducible exact H) | (have H2_ := (Option.bind_some _ _).symm.trans H; rw [hy492]; with_reducible exact H2_) | (have H2_ := (Option.bind_some _ _).symm.trans H; with_reducible exact H2_) | with_reducible exact H | (rw [hy492]; exact H) | exact H
 have Ny492 := Aside0.mk hy492
 clear hy492
 obtain rfl := Option.some.inj H
 go_wp2_with (first | ((with_reducible refine gate_dst (N := 90) rfl ?_); refine Kd.R_lit (Kd.int .i64) _ 3 ?hg (N := 90) ?hd (xs := ([] : List Int)) (inner := []) (ok := fun _ => True) (okp := fun _ => True) ?hr ?hp (fun _ hk => hk) trivial (Below.refl _ _) (Nat.le_refl _) (by simp) ?_; (case hd => rfl); (case hg => rfl); (case hr => first | (go_simp; done) | (go_simp; rfl)); (case hp => exact (Reps.none _ _)); intro v493 w35 ho36 hb hg_ hnew_; clear hg_ hnew_; (first | rw [← Ny492.out] at ho36 | (simp only [Int.reduceToNat] at ho36; rw [← Ny492.out] at ho36)); have HO494 := Aside0.mk (Kd.R_lower ho36 (below_size (zG GE490.out))); replace BK490 := zV BK490.out hb; replace HB := zX1 GE490.out hb; clear hb ho36))
 go_ret
 exact ⟨_, zE, zR HO494.out, zG GE490.out⟩
end Go.Proofs.Ytckkfjdkaimmhaa.PX
namespace Go.Proofs.Ytckkfjdkaimmhaa.M
open Go.RowKit Go.Proofs.YtckkfjdkaimmhaaW.PrintWords Go.Proofs.Ytckkfjdkaimmhaa.PX Go.Proofs.Ytckkfjdkaimmhaa.G
def brk (n : Nat) (t : ByteArray) (x a b c d : Nat) : Bool := decide (chi n t x a b * chi n t x c d = chi n t x a d * chi n t x b c) && decide (chi n t x a d * chi n t x b c = -chi n t x a c * chi n t x b d)
theorem small_mul {x y : Int} (hx : x = 1 ∨ x = -1 ∨ x = 0) (hy : y = 1 ∨ y = -1 ∨ y = 0) : wrap64 (x * y) = x * y := by
 rcases hx with rfl | rfl | rfl <;> rcases hy with rfl | rfl | rfl <;> decide +kernel
theorem small_neg {x : Int} (hx : x = 1 ∨ x = -1 ∨ x = 0) : wrap64 (-x) = -x ∧ (-x = 1 ∨ -x = -1 ∨ -x = 0) := by
 rcases hx with rfl | rfl | rfl
 ·exact ⟨by decide +kernel, by omega⟩
 ·exact ⟨by decide +kernel, by omega⟩
 ·exact ⟨by decide +kernel, by omega⟩
theorem brk_end (n : Nat) (t : ByteArray) (x a b c d : Nat) : (if wrap64 (chi n t x a b * chi n t x c d) = wrap64 (chi n t x a d * chi n t x b c) then (some (wrap64 (chi n t x a d * chi n t x b c) == wrap64 (wrap64 (-chi n t x a c) * chi n t x b d))) else some false) = some (brk n t x a b c d) := by
 have h := chi_three n t
 rw [small_mul (h x a b) (h x c d), small_mul (h x a d) (h x b c), (small_neg (h x a c)).1, small_mul (small_neg (h x a c)).2 (h x b d)]
 unfold brk
 by_cases e : chi n t x a b * chi n t x c d = chi n t x a d * chi n t x b c
 ·rw [if_pos e, decide_eq_true e, Bool.true_and]
  rfl
 ·rw [if_neg e, decide_eq_false e, Bool.false_and]
theorem impl_breaks (n : Nat) (t : ByteArray) {x a b c d : Nat} (hx : x < 7) (ha : a < 7) (hb : b < 7) (hc : c < 7) (hd : d < 7) : impl_chi_breaks.f (tblL n t) (x : Int) (a : Int) (b : Int) (c : Int) (d : Int) = some (brk n t x a b c d) := by
 unfold impl_chi_breaks.f
 rw [if_pos (by omega), if_pos (by omega), if_pos (by omega), if_pos (by omega), if_pos (by omega), if_pos (by omega), if_pos (by omega), if_pos (by omega), if_pos (by omega), if_pos (by omega)]
 rw [tbl_rd n t x a b hx ha hb, tbl_rd n t x c d hx hc hd, tbl_rd n t x a d hx ha hd, tbl_rd n t x b c hx hb hc, tbl_rd n t x a c hx ha hc, tbl_rd n t x b d hx hb hd]
 exact brk_end n t x a b c d
theorem spec_breaks {n : Nat} {t : ByteArray} (h : areOk n t = true) {x a b c d : Nat} (hx : x < n) (ha : a < n) (hb : b < n) (hc : c < n) (hd : d < n) (e : [x, a, b, c, d].Nodup) :
  Ev (fun k => spec_l4Breaks.f k (n : Int) t (x : Int) (a : Int) (b : Int) (c : Int) (d : Int)) (brk n t x a b c d) := by
 simp only [List.nodup_cons, List.mem_cons, List.not_mem_nil, or_false, not_or, not_false_eq_true, List.nodup_nil, and_true] at e
 obtain ⟨⟨e1, e2, e3, e4⟩, ⟨e5, e6, e7⟩, ⟨e8, e9⟩, e10⟩ := e
 unfold spec_l4Breaks.f
 refine Ev.bind (l3At_ev h hx ha hb e1 e5 e2) (Ev.bind (l3At_ev h hx hc hd e3 e10 e4) (Ev.bind (l3At_ev h hx ha hd e1 e7 e4) (Ev.bind (l3At_ev h hx hb hc e2 e8 e3) (Ev.bind (l3At_ev h hx ha hc e1 e6 e3) (Ev.bind (l3At_ev h hx hb hd e2 e9 e4) ?_)))))
 have := brk_end n t x a b c d
 simp only [this]
 exact Ev.now _
abbrev Q4 := Nat × Nat × Nat × Nat
def brkQ (n : Nat) (t : ByteArray) (x : Nat) (q : Q4) : Option (List Int) := if brk n t x q.1 q.2.1 q.2.2.1 q.2.2.2 then some [(x : Int), (q.1 : Int), (q.2.1 : Int), (q.2.2.1 : Int), (q.2.2.2 : Int)] else none
def srch (n : Nat) (t : ByteArray) (x : Nat) (l : List Q4) : Option (List Int) := l.findSome? (brkQ n t x)
def After (z : Option (List Int)) (E : Prop) (r : List Int) : Prop := match z with | some v => r = v | none => E
theorem srch_append (n : Nat) (t : ByteArray) (x : Nat) (a b : List Q4) : srch n t x (a ++ b) = (srch n t x a).or (srch n t x b) := List.findSome?_append ..
theorem after_append {n : Nat} {t : ByteArray} {x : Nat} {a b : List Q4} {E : Prop} {r : List Int} (h : After (srch n t x (a ++ b)) E r) : After (srch n t x a) (After (srch n t x b) E r) r := by
 rw [srch_append] at h
 cases ha : srch n t x a with
 | some v => rw [ha] at h; exact h
 | none => rw [ha] at h; exact h
theorem after_mono {z : Option (List Int)} {E F : Prop} {r : List Int} (h : After z E r) (hEF : E → F) : After z F r := by
 cases z with
 | some v => exact h
 | none => exact hEF h
def qs4 (l : List Nat) (i j k m d : Nat) : List Q4 := (List.range' m d).map fun m => (l.getD i 0, l.getD j 0, l.getD k 0, l.getD m 0)
def qs3 (l : List Nat) (i j k d : Nat) : List Q4 := (List.range' k d).flatMap fun k => qs4 l i j k (k + 1) (l.length - (k + 1))
def qs2 (l : List Nat) (i j d : Nat) : List Q4 := (List.range' j d).flatMap fun j => qs3 l i j (j + 1) (l.length - (j + 1))
def qs1 (l : List Nat) (i d : Nat) : List Q4 := (List.range' i d).flatMap fun i => qs2 l i (i + 1) (l.length - (i + 1))
section
variable {n : Nat} {t : ByteArray} (h : areOk n t = true) {x : Nat} (hx : x < n) {l : List Nat} (hl : l.length ≤ 7) (hm : ∀ y ∈ l, y < n) (hd : (x :: l).Nodup)
include h hx hl hm hd
theorem sb4 {i j k : Nat} (hij : i < j) (hjk : j < k) (hk : k < l.length) (r : List Int) (d : Nat) : ∀ m : Nat, k < m → m + d = l.length →
  After (srch n t x (qs4 l i j k m d)) (Ev (fun q => spec_FirstBreak.l3 q (x : Int) (up l) (i : Int) (j : Int) ((k + 1 : Nat) : Int) (n : Int) t) r) r → Ev (fun q => spec_FirstBreak.l4 q (x : Int) (up l) (i : Int) (j : Int) (k : Int) (m : Int) (n : Int) t) r := by
 induction d with
 | zero =>
  intro m hm1 hmd hr
  refine ev_step ?_
  simp only [spec_FirstBreak.l4, up_length]
  refine ev_neg (by omega) ?_
  rw [wrap_id (by omega) (by omega)]
  exact hr
 | succ d ih =>
  intro m hm1 hmd hr
  refine ev_step ?_
  simp only [spec_FirstBreak.l4, up_length]
  refine ev_pos (by omega) (ev_pos (by omega) (ev_pos (by omega) (ev_pos (by omega) (ev_pos (by omega) (ev_pos (by omega) (ev_pos (by omega) (ev_pos (by omega) ?_)))))))
  rw [wrap_id (by omega) (by omega), rd_up (i := i) (by omega), rd_up (i := j) (by omega), rd_up (i := k) hk, rd_up (i := m) (by omega)]
  have gi : ∀ {z : Nat} (hz : z < l.length), l.getD z 0 = l[z] := fun hz => by rw [List.getD_eq_getElem?_getD, List.getElem?_eq_getElem hz]; rfl
  have lt : ∀ {z : Nat} (hz : z < l.length), l.getD z 0 < n := fun hz => by rw [gi hz]; exact hm _ (List.getElem_mem _)
  have ne : ∀ {a b : Nat} (ha : a < l.length) (hb : b < l.length), a < b → l.getD a 0 ≠ l.getD b 0 := fun {a b} ha hb hab => by
   rw [gi ha, gi hb]
   exact List.pairwise_iff_getElem.1 (List.nodup_cons.1 hd).2 a b ha hb hab
  have nx : ∀ {z : Nat} (hz : z < l.length), x ≠ l.getD z 0 := fun hz e => by
   rw [gi hz] at e
   exact (List.nodup_cons.1 hd).1 (e ▸ List.getElem_mem _)
  have hi' : i < l.length := by omega
  have hj' : j < l.length := by omega
  have hm' : m < l.length := by omega
  refine Ev.bind (spec_breaks h hx (lt hi') (lt hj') (lt hk) (lt hm') ?_) ?_
  ·simp only [List.nodup_cons, List.mem_cons, List.not_mem_nil, or_false, not_or, not_false_eq_true, List.nodup_nil, and_true]
   exact ⟨⟨nx hi', nx hj', nx hk, nx hm'⟩, ⟨ne hi' hj' hij, ne hi' hk (by omega), ne hi' hm' (by omega)⟩, ⟨ne hj' hk hjk, ne hj' hm' (by omega)⟩, ne hk hm' hm1⟩
  have e : qs4 l i j k m (d + 1) = [(l.getD i 0, l.getD j 0, l.getD k 0, l.getD m 0)] ++ qs4 l i j k (m + 1) d := by rw [qs4, List.range'_succ, List.map_cons]; rfl
  rw [e] at hr
  have hr := after_append hr
  have es : srch n t x [(l.getD i 0, l.getD j 0, l.getD k 0, l.getD m 0)] = brkQ n t x (l.getD i 0, l.getD j 0, l.getD k 0, l.getD m 0) := by
   unfold srch
   rw [List.findSome?_cons]
   cases brkQ n t x (l.getD i 0, l.getD j 0, l.getD k 0, l.getD m 0) <;> rfl
  rw [es, brkQ] at hr
  by_cases hb : brk n t x (l.getD i 0) (l.getD j 0) (l.getD k 0) (l.getD m 0) = true
  ·rw [if_pos hb] at hr
   exact ev_pos hb (ev_cast (Ev.now _) (Eq.symm hr))
  ·rw [if_neg hb] at hr
   exact ev_neg hb (ih (m + 1) (by omega) (by omega) hr)
theorem sb3 {i j : Nat} (hij : i < j) (hj : j < l.length) (r : List Int) (d : Nat) : ∀ k : Nat, j < k → k + d = l.length →
  After (srch n t x (qs3 l i j k d)) (Ev (fun q => spec_FirstBreak.l2 q (x : Int) (up l) (i : Int) ((j + 1 : Nat) : Int) (n : Int) t) r) r → Ev (fun q => spec_FirstBreak.l3 q (x : Int) (up l) (i : Int) (j : Int) (k : Int) (n : Int) t) r := by
 induction d with
 | zero =>
  intro k hk hkd hr
  refine ev_step ?_
  simp only [spec_FirstBreak.l3, up_length]
  refine ev_neg (by omega) ?_
  rw [wrap_id (by omega) (by omega)]
  exact hr
 | succ d ih =>
  intro k hk hkd hr
  refine ev_step ?_
  simp only [spec_FirstBreak.l3, up_length]
  refine ev_pos (by omega) ?_
  rw [wrap_id (by omega) (by omega)]
  have e : qs3 l i j k (d + 1) = qs4 l i j k (k + 1) (l.length - (k + 1)) ++ qs3 l i j (k + 1) d := by rw [qs3, List.range'_succ, List.flatMap_cons]; rfl
  rw [e] at hr
  exact sb4 h hx hl hm hd hij hk (by omega) r (l.length - (k + 1)) (k + 1) (by omega) (by omega) (after_mono (after_append hr) (ih (k + 1) (by omega) (by omega)))
theorem sb2 {i : Nat} (hi : i < l.length) (r : List Int) (d : Nat) : ∀ j : Nat, i < j → j + d = l.length →
  After (srch n t x (qs2 l i j d)) (Ev (fun q => spec_FirstBreak.l1 q (x : Int) (up l) ((i + 1 : Nat) : Int) (n : Int) t) r) r → Ev (fun q => spec_FirstBreak.l2 q (x : Int) (up l) (i : Int) (j : Int) (n : Int) t) r := by
 induction d with
 | zero =>
  intro j hj hjd hr
  refine ev_step ?_
  simp only [spec_FirstBreak.l2, up_length]
  refine ev_neg (by omega) ?_
  rw [wrap_id (by omega) (by omega)]
  exact hr
 | succ d ih =>
  intro j hj hjd hr
  refine ev_step ?_
  simp only [spec_FirstBreak.l2, up_length]
  refine ev_pos (by omega) ?_
  rw [wrap_id (by omega) (by omega)]
  have e : qs2 l i j (d + 1) = qs3 l i j (j + 1) (l.length - (j + 1)) ++ qs2 l i (j + 1) d := by rw [qs2, List.range'_succ, List.flatMap_cons]; rfl
  rw [e] at hr
  exact sb3 h hx hl hm hd hj (by omega) r (l.length - (j + 1)) (j + 1) (by omega) (by omega) (after_mono (after_append hr) (ih (j + 1) (by omega) (by omega)))
theorem sb1 (r : List Int) (d : Nat) : ∀ i : Nat, i + d = l.length →
  After (srch n t x (qs1 l i d)) (Ev (fun q => spec_FirstBreak.l0 q ((x + 1 : Nat) : Int) (n : Int) t) r) r → Ev (fun q => spec_FirstBreak.l1 q (x : Int) (up l) (i : Int) (n : Int) t) r := by
 induction d with
 | zero =>
  intro i hid hr
  have hn7 : n ≤ 7 := by obtain ⟨⟨h0, h1⟩, _, _⟩ := (areOk_iff _ _).1 h; omega
  refine ev_step ?_
  simp only [spec_FirstBreak.l1, up_length]
  refine ev_neg (by omega) ?_
  rw [wrap_id (by omega) (by omega)]
  exact hr
 | succ d ih =>
  intro i hid hr
  refine ev_step ?_
  simp only [spec_FirstBreak.l1, up_length]
  refine ev_pos (by omega) ?_
  rw [wrap_id (by omega) (by omega)]
  have e : qs1 l i (d + 1) = qs2 l i (i + 1) (l.length - (i + 1)) ++ qs1 l (i + 1) d := by rw [qs1, List.range'_succ, List.flatMap_cons]; rfl
  rw [e] at hr
  exact sb2 h hx hl hm hd (by omega) r (l.length - (i + 1)) (i + 1) (by omega) (by omega) (after_mono (after_append hr) (ih (i + 1) (by omega)))
end
def brkFrom (n : Nat) (t : ByteArray) : Nat → Nat → List Int
 | _, 0 => []
 | x, d + 1 => match srch n t x (qs1 (othersN n x) 0 (othersN n x).length) with | some v => v | none => brkFrom n t (x + 1) d
def brkA (n : Int) (t : ByteArray) : List Int := if areOk n t = true then brkFrom n.toNat t 0 n.toNat else []
theorem others_nodup {n x : Nat} (h : (othersN n x).Nodup) : (x :: othersN n x).Nodup := List.nodup_cons.2 ⟨by simp [othersN], h⟩
theorem spec_break_loop {n : Nat} {t : ByteArray} (h : areOk n t = true) (hs : t.size ≤ 9223372036854775807) (d : Nat) : ∀ x : Nat, x + d = n → Ev (fun q => spec_FirstBreak.l0 q (x : Int) (n : Int) t) (brkFrom n t x d) := by
 obtain ⟨⟨h0, h1⟩, _, _⟩ := (areOk_iff _ _).1 h
 induction d with
 | zero =>
  intro x hx
  refine ev_step ?_
  simp only [spec_FirstBreak.l0]
  refine ev_neg (by omega) (ev_step ?_)
  simp only [spec_FirstBreak.j1]
  exact ev_neg (by decide) (Ev.now _)
 | succ d ih =>
  intro x hx
  refine ev_step ?_
  simp only [spec_FirstBreak.l0]
  refine ev_pos (by omega) (Ev.bind (spec_are n t hs) (ev_step ?_))
  simp only [spec_FirstBreak.j1]
  obtain ⟨f1, f2, f3⟩ := others_facts (n := n) (x := x) (by omega) (by omega) (by omega)
  refine ev_pos h (Ev.bind (others_ev (by omega) (by omega)) ?_)
  refine sb1 (x := x) (l := othersN n x) h (by omega) (by rw [f1]; omega) f3 (others_nodup f2) _ (othersN n x).length 0 (by omega) ?_
  rw [brkFrom]
  cases srch n t x (qs1 (othersN n x) 0 (othersN n x).length) with
  | some v => exact Eq.refl v
  | none => exact ih (x + 1) (by omega)
theorem spec_break (n : Int) (t : ByteArray) (hs : t.size ≤ 9223372036854775807) : Ev (fun k => spec_FirstBreak.f k n t) (brkA n t) := by
 unfold spec_FirstBreak.f brkA
 by_cases h : areOk n t = true
 ·rw [if_pos h]
  obtain ⟨⟨h0, h1⟩, _, _⟩ := (areOk_iff _ _).1 h
  obtain ⟨N, rfl⟩ : ∃ N : Nat, n = (N : Int) := Int.eq_ofNat_of_zero_le (by omega)
  exact spec_break_loop h hs N 0 (by omega)
 ·rw [if_neg h]
  refine ev_step ?_
  simp only [spec_FirstBreak.l0]
  by_cases h0 : 0 < n
  ·refine ev_pos h0 (Ev.bind (spec_are n t hs) (ev_step ?_))
   simp only [spec_FirstBreak.j1]
   exact ev_neg h (Ev.now _)
  ·refine ev_neg h0 (ev_step ?_)
   simp only [spec_FirstBreak.j1]
   exact ev_neg (by decide) (Ev.now _)
def quadQ (n : Nat) : List Q4 := (List.range n).flatMap fun i => (List.range n).flatMap fun j => (List.range n).flatMap fun k => (List.range n).flatMap fun m => if i < j ∧ j < k ∧ k < m then [(i, j, k, m)] else []
def toS4 (q : Q4) : S91 := ⟨(q.1 : Int), (q.2.1 : Int), (q.2.2.1 : Int), (q.2.2.2 : Int)⟩
theorem quads_closed : (impl_quadsOf.f 300 3 = some ((quadQ 3).map toS4) ∧ impl_quadsOf.f 300 4 = some ((quadQ 4).map toS4) ∧ impl_quadsOf.f 300 5 = some ((quadQ 5).map toS4)) ∧ impl_quadsOf.f 300 6 = some ((quadQ 6).map toS4) ∧ impl_quadsOf.f 300 7 = some ((quadQ 7).map toS4) := by
 refine ⟨⟨?_, ?_, ?_⟩, ?_, ?_⟩ <;> kernel_rfl
theorem quads_ev {n : Nat} (h0 : 3 ≤ n) (h1 : n ≤ 7) : Ev (fun k => impl_quadsOf.f k (n : Int)) ((quadQ n).map toS4) := by
 obtain ⟨⟨h3, h4, h5⟩, h6, h7⟩ := quads_closed
 refine five (p := fun n => Ev (fun k => impl_quadsOf.f k (n : Int)) ((quadQ n).map toS4)) h0 h1 ?_ ?_ ?_ ?_ ?_
 ·exact Ev.of (impl_quadsOf.mono 3) h3
 ·exact Ev.of (impl_quadsOf.mono 4) h4
 ·exact Ev.of (impl_quadsOf.mono 5) h5
 ·exact Ev.of (impl_quadsOf.mono 6) h6
 ·exact Ev.of (impl_quadsOf.mono 7) h7
def noX (x : Nat) (q : Q4) : Bool := decide (q.1 ≠ x) && decide (q.2.1 ≠ x) && decide (q.2.2.1 ≠ x) && decide (q.2.2.2 ≠ x)
def chkQ (n : Nat) : Bool := ((List.range n).all fun x => decide ((quadQ n).filter (noX x) = qs1 (othersN n x) 0 (othersN n x).length)) && ((quadQ n).all fun q => decide (q.1 < 7) && decide (q.2.1 < 7) && decide (q.2.2.1 < 7) && decide (q.2.2.2 < 7)) && decide ((quadQ n).length ≤ 100)
theorem chkQ_ok {n : Nat} (h0 : 3 ≤ n) (h1 : n ≤ 7) : chkQ n = true := by
 refine five (p := fun n => chkQ n = true) h0 h1 ?_ ?_ ?_ ?_ ?_ <;> decide +kernel
theorem rd_toS4 {qs : List Q4} {i : Nat} (h : i < qs.length) : rd_T91 (qs.map toS4) (i : Int) = toS4 qs[i] := by
 unfold rd_T91
 rw [Int.toNat_natCast, List.getD_eq_getElem?_getD, List.getElem?_map, List.getElem?_eq_getElem h]
 rfl
theorem ib1 {n : Nat} {t : ByteArray} {x : Nat} (hx : x < 7) (qs : List Q4) (hq : ∀ q ∈ qs, q.1 < 7 ∧ q.2.1 < 7 ∧ q.2.2.1 < 7 ∧ q.2.2.2 < 7) (hl : qs.length ≤ 100) (r : List Int) (d : Nat) : ∀ i : Nat, i + d = qs.length →
  After (srch n t x ((qs.drop i).filter (noX x))) (Ev (fun q => impl_chi_firstBreak.l0 q (tblL n t) ((x + 1 : Nat) : Int)) r) r → Ev (fun q => impl_chi_firstBreak.l1 q (tblL n t) (x : Int) (qs.map toS4) ((qs.map toS4).length : Int) (i : Int)) r := by
 induction d with
 | zero =>
  intro i hi hr
  rw [List.drop_of_length_le (by omega)] at hr
  refine ev_step ?_
  simp only [impl_chi_firstBreak.l1, List.length_map]
  refine ev_neg (by omega) ?_
  rw [wrap_id (by omega) (by omega)]
  exact hr
 | succ d ih =>
  intro i hi hr
  have hlt : i < qs.length := by omega
  rw [List.drop_eq_getElem_cons hlt, List.filter_cons] at hr
  have hn := ih (i + 1) (by omega)
  obtain ⟨b0, b1, b2, b3⟩ := hq _ (List.getElem_mem hlt)
  refine ev_step ?_
  simp only [impl_chi_firstBreak.l1, rd_toS4 hlt]
  generalize qs[i] = q at *
  obtain ⟨a, b, c, e⟩ := q
  simp only [toS4] at *
  refine ev_pos (by rw [List.length_map]; omega) (ev_pos (by omega) (ev_pos (by rw [List.length_map]; omega) ?_))
  rw [wrap_id (by omega) (by omega)]
  by_cases h0 : a = x
  ·rw [if_neg (by simp [noX, h0])] at hr
   exact ev_pos (by omega) (hn hr)
  refine ev_neg (by omega) ?_
  by_cases h1 : b = x
  ·rw [if_neg (by simp [noX, h1])] at hr
   exact ev_pos (by omega) (hn hr)
  refine ev_neg (by omega) ?_
  by_cases h2 : c = x
  ·rw [if_neg (by simp [noX, h2])] at hr
   exact ev_pos (by omega) (hn hr)
  refine ev_neg (by omega) ?_
  by_cases h3 : e = x
  ·rw [if_neg (by simp [noX, h3])] at hr
   exact ev_pos (by omega) (hn hr)
  refine ev_neg (by omega) (ev_call (impl_breaks n t hx b0 b1 b2 b3) ?_)
  rw [if_pos (by simp [noX, h0, h1, h2, h3])] at hr
  have hr := after_append (a := [(a, b, c, e)]) hr
  have es : srch n t x [(a, b, c, e)] = brkQ n t x (a, b, c, e) := by
   unfold srch
   rw [List.findSome?_cons]
   cases brkQ n t x (a, b, c, e) <;> rfl
  rw [es, brkQ] at hr
  by_cases hb : brk n t x a b c e = true
  ·rw [if_pos hb] at hr
   exact ev_pos hb (ev_cast (Ev.now _) (Eq.symm hr))
  ·rw [if_neg hb] at hr
   exact ev_neg hb (hn hr)
theorem impl_break_loop {n : Nat} {t : ByteArray} (h0 : 3 ≤ n) (h1 : n ≤ 7) (d : Nat) : ∀ x : Nat, x + d = n → Ev (fun q => impl_chi_firstBreak.l0 q (tblL n t) (x : Int)) (brkFrom n t x d) := by
 have hc := chkQ_ok h0 h1
 simp only [chkQ, Bool.and_eq_true, List.all_eq_true, List.mem_range, decide_eq_true_eq] at hc
 obtain ⟨⟨hc1, hc2⟩, hc3⟩ := hc
 induction d with
 | zero =>
  intro x hx
  refine ev_step ?_
  simp only [impl_chi_firstBreak.l0, tbl_n]
  exact ev_neg (by omega) (Ev.now _)
 | succ d ih =>
  intro x hx
  refine ev_step ?_
  simp only [impl_chi_firstBreak.l0, tbl_n]
  refine ev_pos (by omega) (Ev.bind (quads_ev h0 h1) ?_)
  refine ib1 (by omega) (quadQ n) (fun q hq => ?_) hc3 _ (quadQ n).length 0 (by omega) ?_
  ·have := hc2 q hq
   exact ⟨this.1.1.1, this.1.1.2, this.1.2, this.2⟩
  rw [List.drop_zero, hc1 x (by omega), brkFrom]
  cases srch n t x (qs1 (othersN n x) 0 (othersN n x).length) with
  | some v => exact Eq.refl v
  | none => exact ih (x + 1) (by omega)
theorem impl_break (n : Int) (t : ByteArray) (hs : t.size ≤ 9223372036854775807) : Ev (fun k => impl_FirstBreak.f k n t) (brkA n t) := by
 unfold impl_FirstBreak.f brkA
 refine Ev.bind (impl_are n t hs) ?_
 by_cases h : areOk n t = true
 ·rw [if_pos h]
  obtain ⟨⟨h0, h1⟩, _, _⟩ := (areOk_iff _ _).1 h
  obtain ⟨N, rfl⟩ : ∃ N : Nat, n = (N : Int) := Int.eq_ofNat_of_zero_le (by omega)
  exact ev_pos h (Ev.bind (tableOf_ev h) (ev_pos (tblL_length _ _) (Ev.bind (impl_break_loop (by omega) (by omega) N 0 (by omega)) (Ev.now _))))
 ·rw [if_neg h]
  exact ev_neg h (Ev.now _)
end Go.Proofs.Ytckkfjdkaimmhaa.M
