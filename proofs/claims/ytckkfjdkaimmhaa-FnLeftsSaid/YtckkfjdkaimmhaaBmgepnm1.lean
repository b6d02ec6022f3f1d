/- A part of proofs about signs and points: what some functions answer, and that their calls answer so. No condition. -/
import Derived.Test.YtckkfjdkaimmhaaProg
import Derived.Below
import Derived.Deep.Draws
import Derived.Deep.AppendLies
import Derived.Maps.AppendAt
import Derived.OwnWalk
import Derived.Laws.BytesArg
import Derived.Laws.MakeOwn
import Derived.Laws.OwnMore
import Derived.Deep.OwnRows
import Derived.Tactics
import Derived.Lib.ConvBytes
import Derived.Laws.Slices
import Derived.WalkKit
import Derived.KernelRfl
import Derived.RowKit3
import Derived.Deep.LoopGhost
import Derived.Deep.QuietTactic
import Derived.BigQuiet
import Derived.WideLaws
import Derived.Deep.DeepCutAuto
import Derived.Deep.CutBlock
import Derived.Deep.RegionHeld3
import Derived.Laws.Rows
import Derived.Lib.AppendStr
import Derived.ArgAppend
import Derived.Laws.IdiomCopy
import Derived.OrdersHeld
import Derived.Laws.BitsLemmas
import Derived.RowKit
import Derived.Laws.Tables
import Derived.RegionTactic
import Derived.Outline
import Derived.BigFrame
import Derived.Laws.Cover3
import Derived.Test.YtckkfjdkaimmhaaV1
set_option linter.unusedVariables false
set_option linter.unusedSimpArgs false
namespace Go.Proofs.Ytckkfjdkaimmhaa.G
open Go.RowKit Go.Proofs.YtckkfjdkaimmhaaW.PrintWords
theorem jMt (A : Option Addr) (n n' c c' : Nat) : (Value.slice A n c).ownBlock = (Value.slice A n' c').ownBlock := by cases A <;> rfl
@[reducible] def jL1 : Value → Value
 | .slice A _ _ => .pointer A
 | v => v
def rd3 (l : List Int) (i j k : Int) : Int := rd l (1 + i * 49 + j * 7 + k)
def jCw (n : Int) : Array Value := (nums .i64 (n :: List.replicate 343 (0 : Int))).toArray
set_option maxRecDepth 100000 in
theorem jJ6 (n : Int) : Try.prog.built 115 [(0, .int .i64 n)] = some (jCw n) := by kernel_rfl
section
variable {P : Program} {ops : Array Oper} {rest : List Oper} {o : Oper} {a : Act} {Q : Exit → Act → World → Prop}
theorem jCr {W : World} {T s : Nat} {n : Int} (hgd : o.guard = none) (ho : o.op = .build T #[(0, .tmp s)]) (hx : a.eval (.tmp s) = .int .i64 n)
  (hT : ∀ n : Int, P.built T [(0, .int .i64 n)] = some (jCw n)) (h : wpList P ops Q rest (a.put o.dst (.agg (jCw n))) W) : wpList P ops Q (o :: rest) a W := by
 refine wpList_plain hgd fun K hK => ?_
 have e : P.built T (#[((0 : Nat), Operand.tmp s)].map fun (x : Nat × Operand) => (x.1, a.eval x.2)).toList = some (jCw n) := by
  simp only [List.map_toArray, List.map_cons, List.map_nil, hx]; exact hT n
 refine wp_build T _ ho (by rw [e]; rfl) ?_
 rw [e]
 exact hK _ _ h
theorem jPn {w : World} {g : Nat} {n : Int} {T base : Nat} (h : w.heap[g]? = some (.cells (jCw n) T (0, 0))) (hb : base ≤ g) :
  Kd.R (Kd.int .i64) T w base (fun _ => True) (.slice (some ⟨g, 0, none⟩) (n :: List.replicate 343 (0 : Int)).length 344) (n :: List.replicate 343 (0 : Int)) := by
 have hl : (n :: List.replicate 343 (0 : Int)).length = 344 := by rw [List.length_cons, List.length_replicate]
 refine Kd.R_of_own (enc := Value.int .i64) (h1 := fun _ => rfl) ?_ (fun _ _ => trivial)
 generalize hx : (n :: List.replicate 343 (0 : Int)) = xs at hl
 have hc : jCw n = (nums .i64 xs).toArray := by rw [← hx]; rfl
 rw [hc] at h
 refine ⟨by rw [Nat.mul_one]; exact List.length_map .., .inr ⟨g, 344, (nums .i64 xs).toArray, rfl, hb, h, by omega, by decide, by rw [List.size_toArray, nums_length, hl], ?_⟩⟩
 rw [List.toList_toArray, Nat.mul_one]
 exact List.take_of_length_le (by rw [nums_length]; exact Nat.le_refl _)
theorem jEn {W : World} {n : Int} {T N : Nat} (hgd : o.guard = none) (_hd : o.dst = some N)
  (hrun : (execOp a.eval o).run P W = .ok (.value (.pointer (some ⟨W.heap.size, 0, none⟩))) (W.alloc (.cells (jCw n) T (0, 0)))) (base : Nat) (hb : base ≤ W.heap.size)
  (h : ∀ v w1, Kd.R (Kd.int .i64) T w1 base (fun _ => True) v (n :: List.replicate 343 (0 : Int)) → Below W.heap.size W w1 → wpList P ops Q rest (a.put o.dst (jL1 v)) w1) : wpList P ops Q (o :: rest) a W :=
 Kd.event_run hgd hrun (h _ _ (jPn (jGe W _) hb) (Jq (Below.refl _ _) _))
end
end Go.Proofs.Ytckkfjdkaimmhaa.G
namespace Go.Proofs.Ytckkfjdkaimmhaa.PX
open Go.RowKit Go.Proofs.Ytckkfjdkaimmhaa.G Go.Proofs.YtckkfjdkaimmhaaW.PrintWords Go.Proofs.YtckkfjdkaimmhaaW.PrintLast Go.Proofs.YtckkfjdkaimmhaaW.PrintMore
attribute [local go_sem] max2_int min2_int Yd Yg Xh Xf Xq Xp   -- for this text's walks alone
set_option linter.unusedVariables false
set_option linter.unusedSimpArgs false
def jSb : Option Int → Value
 | none => .nilIface
 | some c => .iface 0 (.int .i64 c)
theorem Za : jSb none = .nilIface := rfl
theorem J7 (c : Int) : jSb (some c) = .iface 0 (.int .i64 c) := rfl
theorem info3 : (Try.prog.info? 3).map (fun i => (i.zero, i.size, i.bytes)) = some (some (.int .i64 0), 1, 8) := by kernel_rfl
theorem info5 : (Try.prog.info? 5).map (fun i => (i.zero, i.size, i.bytes)) = some (some (.int .u8 0), 1, 1) := by kernel_rfl
theorem jFo : (Try.prog.info? 27).map (fun i => (i.zero, i.size, i.bytes)) = some (some (.slice none 0 0), 1, 24) := by kernel_rfl
theorem jQe : (Try.prog.info? 83).map (fun i => (i.zero, i.size, i.bytes)) = some (some (.agg #[(.int .i64 0), (.int .i64 0)]), 2, 16) := by kernel_rfl
theorem jQg : (Try.prog.info? 91).map (fun i => (i.zero, i.size, i.bytes)) = some (some (.agg #[(.int .i64 0), (.int .i64 0), (.int .i64 0), (.int .i64 0)]), 4, 32) := by kernel_rfl
theorem jQq : (Try.prog.info? 99).map (fun i => (i.zero, i.size, i.bytes)) = some (some (.agg #[(.int .i64 0), (.int .i64 0), (.int .i64 0)]), 3, 24) := by kernel_rfl
structure S83 where
 f0 : Int
 f1 : Int
def z83 : S83 := ⟨(0 : Int), (0 : Int)⟩
def k83 : Kd S83 := Kd.iso (Kd.pair (Kd.int .i64) (Kd.int .i64)) (fun x : S83 => (x.f0, x.f1))
theorem jL6 {w : World} {x : S83} {cs : List Value} (h : k83.K w x cs) : cs = [.int .i64 x.f0, .int .i64 x.f1] := by
 obtain ⟨_, _, rfl, rfl, rfl⟩ := h
 exact rfl
theorem jCn (w : World) (base : Nat) (ok : Nat → Prop) (x : S83)  : k83.M w base ok x [.int .i64 x.f0, .int .i64 x.f1] := ⟨[.int .i64 x.f0], [.int .i64 x.f1], rfl, rfl, rfl⟩
def Js (xs : List S83) (i : Int) : S83 := xs.getD i.toNat z83
theorem K5 {w : World} {A : Option Addr} {n : Nat} {xs : List S83} (h : Kd.C k83 w A n xs) (i : Int) (h0 : 0 ≤ i) (h1 : i < n) : ∃ ad , A = some ad ∧ w.cell? (ad.add (i.toNat * 2)) = some (.int .i64 (Js xs i).f0) ∧ w.cell? ⟨(ad.add (i.toNat * 2)).block, (ad.add (i.toNat * 2)).off + 1, none⟩ = some (.int .i64 (Js xs i).f1) := by
 obtain ⟨ad, c, e, _, hK, hc0⟩ := Kd.C_get h z83 i h0 h1
 have hc : ∀ j u, c[j]? = some u → w.cell? (ad.add (i.toNat * 2 + j)) = some u := hc0
 obtain rfl := jL6 hK
 exact ⟨ad, e, hc 0 _ rfl, by rw [← Uh _ _ 1 (by omega)]; exact hc 1 _ rfl⟩
structure S99 where
 f0 : Int
 f1 : Int
 f2 : Int
def z99 : S99 := ⟨(0 : Int), (0 : Int), (0 : Int)⟩
def k99 : Kd S99 := Kd.iso (Kd.pair (Kd.int .i64) (Kd.pair (Kd.int .i64) (Kd.int .i64))) (fun x : S99 => (x.f0, x.f1, x.f2))
theorem jM5 {w : World} {x : S99} {cs : List Value} (h : k99.K w x cs) : cs = [.int .i64 x.f0, .int .i64 x.f1, .int .i64 x.f2] := by
 obtain ⟨_, _, rfl, rfl, ⟨_, _, rfl, rfl, rfl⟩⟩ := h
 exact rfl
theorem jOy (w : World) (base : Nat) (ok : Nat → Prop) (x : S99)  : k99.M w base ok x [.int .i64 x.f0, .int .i64 x.f1, .int .i64 x.f2] := ⟨[.int .i64 x.f0], [.int .i64 x.f1, .int .i64 x.f2], rfl, rfl, ⟨[.int .i64 x.f1], [.int .i64 x.f2], rfl, rfl, rfl⟩⟩
def Qu (xs : List S99) (i : Int) : S99 := xs.getD i.toNat z99
theorem jDl {w : World} {A : Option Addr} {n : Nat} {xs : List S99} (h : Kd.C k99 w A n xs) (i : Int) (h0 : 0 ≤ i) (h1 : i < n) : ∃ ad , A = some ad ∧ w.cell? (ad.add (i.toNat * 3)) = some (.int .i64 (Qu xs i).f0) ∧ w.cell? ⟨(ad.add (i.toNat * 3)).block, (ad.add (i.toNat * 3)).off + 1, none⟩ = some (.int .i64 (Qu xs i).f1) ∧ w.cell? ⟨(ad.add (i.toNat * 3)).block, (ad.add (i.toNat * 3)).off + 2, none⟩ = some (.int .i64 (Qu xs i).f2) := by
 obtain ⟨ad, c, e, _, hK, hc0⟩ := Kd.C_get h z99 i h0 h1
 have hc : ∀ j u, c[j]? = some u → w.cell? (ad.add (i.toNat * 3 + j)) = some u := hc0
 obtain rfl := jM5 hK
 exact ⟨ad, e, hc 0 _ rfl, by rw [← Uh _ _ 1 (by omega)]; exact hc 1 _ rfl, by rw [← Uh _ _ 2 (by omega)]; exact hc 2 _ rfl⟩
structure S91 where
 f0 : Int
 f1 : Int
 f2 : Int
 f3 : Int
def z91 : S91 := ⟨(0 : Int), (0 : Int), (0 : Int), (0 : Int)⟩
def k91 : Kd S91 := Kd.iso (Kd.pair (Kd.int .i64) (Kd.pair (Kd.int .i64) (Kd.pair (Kd.int .i64) (Kd.int .i64)))) (fun x : S91 => (x.f0, x.f1, x.f2, x.f3))
theorem jLu {w : World} {x : S91} {cs : List Value} (h : k91.K w x cs) : cs = [.int .i64 x.f0, .int .i64 x.f1, .int .i64 x.f2, .int .i64 x.f3] := by
 obtain ⟨_, _, rfl, rfl, ⟨_, _, rfl, rfl, ⟨_, _, rfl, rfl, rfl⟩⟩⟩ := h
 exact rfl
theorem jO3 (w : World) (base : Nat) (ok : Nat → Prop) (x : S91)  : k91.M w base ok x [.int .i64 x.f0, .int .i64 x.f1, .int .i64 x.f2, .int .i64 x.f3] := ⟨[.int .i64 x.f0], [.int .i64 x.f1, .int .i64 x.f2, .int .i64 x.f3], rfl, rfl, ⟨[.int .i64 x.f1], [.int .i64 x.f2, .int .i64 x.f3], rfl, rfl, ⟨[.int .i64 x.f2], [.int .i64 x.f3], rfl, rfl, rfl⟩⟩⟩
def Qj (xs : List S91) (i : Int) : S91 := xs.getD i.toNat z91
theorem Kq {w : World} {A : Option Addr} {n : Nat} {xs : List S91} (h : Kd.C k91 w A n xs) (i : Int) (h0 : 0 ≤ i) (h1 : i < n) : ∃ ad , A = some ad ∧ w.cell? (ad.add (i.toNat * 4)) = some (.int .i64 (Qj xs i).f0) ∧ w.cell? ⟨(ad.add (i.toNat * 4)).block, (ad.add (i.toNat * 4)).off + 1, none⟩ = some (.int .i64 (Qj xs i).f1) ∧ w.cell? ⟨(ad.add (i.toNat * 4)).block, (ad.add (i.toNat * 4)).off + 2, none⟩ = some (.int .i64 (Qj xs i).f2) ∧ w.cell? ⟨(ad.add (i.toNat * 4)).block, (ad.add (i.toNat * 4)).off + 3, none⟩ = some (.int .i64 (Qj xs i).f3) := by
 obtain ⟨ad, c, e, _, hK, hc0⟩ := Kd.C_get h z91 i h0 h1
 have hc : ∀ j u, c[j]? = some u → w.cell? (ad.add (i.toNat * 4 + j)) = some u := hc0
 obtain rfl := jLu hK
 exact ⟨ad, e, hc 0 _ rfl, by rw [← Uh _ _ 1 (by omega)]; exact hc 1 _ rfl, by rw [← Uh _ _ 2 (by omega)]; exact hc 2 _ rfl, by rw [← Uh _ _ 3 (by omega)]; exact hc 3 _ rfl⟩
def Yz (xs : List (List Int)) (i : Int) : (List Int) := xs.getD i.toNat ([] : List Int)
theorem jJc {w : World} {A : Option Addr} {n : Nat} {xs : List (List Int)} (h : Kd.C (Kd.slice 3 (Kd.int .i64)) w A n xs) (i : Int) (h0 : 0 ≤ i) (h1 : i < n) : ∃ ad A0 c0, A = some ad ∧ w.cell? (ad.add i.toNat) = some (.slice A0 (Yz xs i).length c0) ∧ (Yz xs i).length ≤ c0 ∧ (Kd.int .i64).C w A0 (Yz xs i).length (Yz xs i) := by
 obtain ⟨ad, c, e, _, hK, hc0⟩ := Kd.C_get h ([] : List Int) i h0 h1
 have hc : ∀ j u, c[j]? = some u → w.cell? (ad.add (i.toNat * 1 + j)) = some u := hc0
 obtain ⟨A0, c0, rfl, l0, g0⟩ := hK
 exact ⟨ad, A0, c0, e, by have hq := hc 0 _ rfl; rwa [Nat.mul_one, Nat.add_zero] at hq, l0, g0⟩
mutual
def Jl.j0 : Nat → Bool → Int → ByteArray → Option (Bool)
 | 0, _, _, _ => none
 | k + 1, x28, aA, aC => if x28 = true then (some false) else (Jl.l0 k 0 aA aC)
def Jl.l0 : Nat → Int → Int → ByteArray → Option (Bool)
 | 0, _, _, _ => none
 | k + 1, x3, aC, aA => if x3 < (aA.size : Int) then (if 0 ≤ x3 then (if (bt aA x3) = 43 then (Jl.l0 k (wrap64 (x3 + 1)) aC aA) else (if (bt aA x3) = 45 then (Jl.l0 k (wrap64 (x3 + 1)) aC aA) else (some false))) else (none)) else (some true)
end
def Jl.f (k : Nat) (aA : Int) (aC : ByteArray) : Option (Bool) := if aA < 3 then (Jl.j0 k true aA aC) else (if aA > 7 then (Jl.j0 k true aA aC) else (Jl.j0 k ((aC.size : Int) != (wrap64 (Int.tdiv (wrap64 ((wrap64 (aA * (wrap64 (aA - 1)))) * (wrap64 (aA - 2)))) 6))) aA aC))
set_option maxHeartbeats 8000000 in
set_option maxRecDepth 100000 in
theorem Jl.calls (k : Nat) (aH : Int) (aD : ByteArray) (r : Bool) (w : World) (h : Jl.f k aH aD = some r) :
  Calls Try.prog 82 #[.agg #[.int .i64 aH, .string aD]] w fun e w' => e = .returned (.bool r) ∧ Below w.heap.size w w' := by
 have dG := Try.underlying25
 have HB := Qa.mk (Below.refl w.heap.size w)
 have H := h
 unfold Jl.f at H
 clear h
 have bS := Qa.mk H
 clear H
 go_enter Try.func82, Try.ntmps82
 go_upto_region 1 with (first | ((with_reducible refine Qf (N := 1) rfl ?_); (try (refine Xa (by rfl) ?_; dsimp only)); refine zBx (N := 1) #[.int .i64 aH, .string aD] 25 ?_; intro aK hg w3 hbox hb; have aA := Qa.mk (hbox); have dD := zS hg; have aG := zS hg; replace HB := zX hb; clear hb hbox hg))
 (try simp only [Act.put, List.setIfInBounds_toArray, List.set_cons_zero, List.set_cons_succ])
 go_cut [28] (fun v28 wc => ∃ (kq : Nat) (aI : Bool), v28 = .bool aI ∧ Qa (Jl.j0 kq aI aH aD = some r) ∧ Qa (kq ≤ k) ∧ Qa (wc.heap[aK]? = some (.cells #[.int .i64 aH, .string aD] 25 (0, 0))) ∧ Qa (Below w.heap.size w wc))
 case first =>
  have H := bS.out
  clear bS
  replace H := Z5 H
  rcases H with ⟨aJ, H⟩ | ⟨aJ, H⟩
  ·(first | rw [aJ] | (simp only [Zu, Xo]; rw [aJ]) | skip)
   have H' := Qa.mk H; clear H
   obtain ⟨bT, bU, bV, bW⟩ := zq2 aA.out
   go_wp2
   go_meet
   case rel => exact ⟨_, (true), zF, H', ⟨by first | omega | exact Nat.le_refl _⟩, ⟨zK aA.out⟩, ⟨zG aG.out⟩⟩
  (first | rw [aJ] | (simp only [Zu, Xo]; rw [aJ]) | skip)
  replace H := Vt H
  rcases H with ⟨c6, H⟩ | ⟨c6, H⟩
  ·have bX : decide (7 < aH) = true := decide_eq_true c6
   clear c6
   have H' := Qa.mk H; clear H
   obtain ⟨bY, bZ, cB, cK⟩ := zq2 aA.out
   go_wp2
   go_meet
   case rel => exact ⟨_, (true), zF, H', ⟨by first | omega | exact Nat.le_refl _⟩, ⟨zK aA.out⟩, ⟨zG aG.out⟩⟩
  have bX : decide (7 < aH) = false := decide_eq_false c6
  clear c6
  have H' := Qa.mk H; clear H
  obtain ⟨cO, cZ, dA, dB⟩ := zq2 aA.out
  go_wp2
  go_meet
  case rel => exact ⟨_, (((aD.size : Int) != (wrap64 (Int.tdiv (wrap64 ((wrap64 (aH * (wrap64 (aH - 1)))) * (wrap64 (aH - 2)))) 6)))), zF, H', ⟨by first | omega | exact Nat.le_refl _⟩, ⟨zK aA.out⟩, ⟨zG aG.out⟩⟩
 case rest =>
 clear bS
 obtain ⟨kq, aI, rfl, HA, bA, aA, HB⟩ := hcut
 cases kq with
 | zero => exact absurd HA.out (by simp [Jl.j0])
 | succ dE =>
 have H := HA.out
 clear HA
 simp only [Jl.j0] at H
 by_cases c9 : aI = true
 ·subst c9
  replace H := (if_pos rfl).symm.trans H
  obtain rfl := Option.some.inj H
  go_wp2
  go_ret
  exact ⟨zE, zG aG.out⟩
 replace c9 := Bool.eq_false_iff.mpr c9
 subst c9
 replace H := (if_neg zFf).symm.trans H
 have H' := Qa.mk H; clear H
 go_wp2
 go_loopg [3] dE (fun kq v3 w' => ∃ (aC : Int), v3 = .int .i64 aC ∧ Qa (Jl.l0 kq aC aH aD = some r) ∧ Qa (kq ≤ dE) ∧ Qa (w'.heap[aK]? = some (.cells #[.int .i64 aH, .string aD] 25 (0, 0))) ∧ Qa (Below w.heap.size w w'))
 case atStart => exact ⟨(0), zF, H', ⟨Nat.le_refl _⟩, ⟨zK aA.out⟩, ⟨zG aG.out⟩⟩
 case round =>
 clear H'
 try clear c9
 obtain ⟨aC, rfl, HA, bB, aA, HB⟩ := hrel
 cases gk with
 | zero => exact absurd HA.out (by simp [Jl.l0])
 | succ k2 =>
 have H := HA.out
 clear HA
 simp only [Jl.l0] at H
 replace H := Z5 H
 rcases H with ⟨aQ, H⟩ | ⟨aQ, H⟩
 ·replace H := Zq H
  rcases H with ⟨dF, H⟩ | ⟨c11, H⟩
  ·replace H := Zi H
   rcases H with ⟨aT, aU, H⟩ | ⟨c13, aT, aU, H⟩
   ·have H' := Qa.mk H; clear H
    obtain ⟨bC, bD, bE, bF⟩ := zq2 aA.out
    have aM : 0 ≤ (aC : Int) := zA
    have aN : aC < (aD.size : Int) := zA
    have aV := Ka aD aC
    replace aM := eq_true aM
    replace aN := eq_true aN
    go_wp2
    go_roundg k2
    case measure => have := bA.out; have := bB.out; omega
    case rel => exact ⟨(wrap64 (aC + 1)), zF, H', ⟨by have := bA.out; have := bB.out; omega⟩, ⟨zK aA.out⟩, ⟨zG aG.out⟩⟩
   replace H := Zi H
   rcases H with ⟨aW, aX, H⟩ | ⟨c16, aW, aX, H⟩
   ·have H' := Qa.mk H; clear H
    obtain ⟨bG, bH, bI, bJ⟩ := zq2 aA.out
    have aM : 0 ≤ (aC : Int) := zA
    have aN : aC < (aD.size : Int) := zA
    have aV := Ka aD aC
    replace aM := eq_true aM
    replace aN := eq_true aN
    have aY : 0 ≤ (aC : Int) := zA
    have aZ : aC < (aD.size : Int) := zA
    have dC := Ka aD aC
    replace aY := eq_true aY
    replace aZ := eq_true aZ
    go_wp2
    go_roundg k2
    case measure => have := bA.out; have := bB.out; omega
    case rel => exact ⟨(wrap64 (aC + 1)), zF, H', ⟨by have := bA.out; have := bB.out; omega⟩, ⟨zK aA.out⟩, ⟨zG aG.out⟩⟩
   obtain rfl := Option.some.inj H
   obtain ⟨bK, bL, bM, bN⟩ := zq2 aA.out
   have aM : 0 ≤ (aC : Int) := zA
   have aN : aC < (aD.size : Int) := zA
   have aV := Ka aD aC
   replace aM := eq_true aM
   replace aN := eq_true aN
   have aY : 0 ≤ (aC : Int) := zA
   have aZ : aC < (aD.size : Int) := zA
   have dC := Ka aD aC
   replace aY := eq_true aY
   replace aZ := eq_true aZ
   go_wp2
   go_ret
   exact ⟨zE, zG aG.out⟩
  exact absurd H (by simp)
 obtain rfl := Option.some.inj H
 obtain ⟨bO, bP, bQ, bR⟩ := zq2 aA.out
 go_wp2
 go_ret
 exact ⟨zE, zG aG.out⟩
end Go.Proofs.Ytckkfjdkaimmhaa.PX
namespace Go.Proofs.Ytckkfjdkaimmhaa.G
open Go.RowKit Go.Proofs.YtckkfjdkaimmhaaW.PrintWords Go.Proofs.YtckkfjdkaimmhaaW.PrintLast Go.Proofs.YtckkfjdkaimmhaaW.PrintMore
set_option linter.unusedVariables false
set_option linter.unusedSimpArgs false
def ix3 (i j k : Nat) : Nat := 1 + i * 49 + j * 7 + k
def jLm (l : List Int) (i j k : Nat) (s : Int) : List Int := (((((l.set (ix3 i j k) s).set (ix3 j k i) s).set (ix3 k i j) s).set (ix3 i k j) (-s)).set (ix3 k j i) (-s)).set (ix3 j i k) (-s)
def J9.f (l : List Int) (a1 a2 a3 a4 : Int) : Option (List Int) := if l.length = 344 ∧ (0 ≤ a1 ∧ a1 < 7) ∧ (0 ≤ a2 ∧ a2 < 7) ∧ (0 ≤ a3 ∧ a3 < 7) ∧ -1 ≤ a4 ∧ a4 ≤ 1 then some (jLm l a1.toNat a2.toNat a3.toNat a4) else none
theorem jBh {w : World} {base g cap T m : Nat} {ok : Nat → Prop} {l : List Int} (h : Kd.R (Kd.int .i64) T w base ok (.slice (some ⟨g, 0, none⟩) l.length cap) l) (hm : m < l.length) (x : Int) :
  w.cell? ⟨g, m, none⟩ = some (.int .i64 (l.getD m 0)) ∧ w.frozen? ⟨g, m, none⟩ = false ∧ Kd.R (Kd.int .i64) T (w.setCell ⟨g, m, none⟩ (.int .i64 x)) base ok (.slice (some ⟨g, 0, none⟩) (l.set m x).length cap) (l.set m x) ∧ w.grownBy (w.setCell ⟨g, m, none⟩ (.int .i64 x)) (some g) := by
 have h1 := Kd.R_cell (enc := Value.int .i64) (h1 := fun _ => rfl) (0 : Int) h (m : Int) (by omega) (by omega)
 have h2 := Kd.R_put (enc := Value.int .i64) (h1 := fun _ => rfl) h (m : Int) x
 simp only [Int.toNat_natCast] at h1 h2
 exact ⟨h1.1, h1.2, by rw [List.length_set]; exact h2.1, h2.2⟩
def J9.T0 : Bool × List (List Nat × List Nat) := (true, [([], []), ([], []), ([], []), ([], []), ([], []), ([], []), ([], []), ([], []), ([], []), ([], []), ([], []), ([], []), ([], []), ([], []), ([], []), ([0], [0]), ([15], [15]), ([16, 1], [1, 16]), ([17, 2], [2, 17]), ([18, 3, 0, 1, 2, 3, 12], [3, 18]), ([19, 12, 0, 1, 2, 3, 12], [12, 19]), ([4], [4]), ([21], [21]), ([22, 5], [5, 22]), ([23, 6], [6, 23]), ([24, 7, 0, 1, 2, 3, 4, 5, 6, 7, 12, 13, 15, 16, 17, 18, 19, 20], [7, 24]), ([25, 13, 20, 0, 1, 2, 3, 4, 5, 6, 7, 12, 13, 15, 16, 17, 18, 19, 20], [13, 25]), ([8], [8]), ([27], [27]), ([28, 9], [9, 28]), ([29, 10], [10, 29]), ([30, 11, 0, 1, 2, 3, 4, 5, 6, 7, 8, 9, 10, 11, 12, 13, 14, 15, 16, 17, 18, 19, 20, 21, 22, 23, 24, 25, 26], [11, 30]), ([31, 14, 26, 0, 1, 2, 3, 4, 5, 6, 7, 8, 9, 10, 11, 12, 13, 14, 15, 16, 17, 18, 19, 20, 21, 22, 23, 24, 25, 26], [14, 31])])
def J9.B0 : List Nat := [0, 0, 0, 0, 0, 0, 0, 0, 0, 0, 0, 0, 0, 0, 0, 1, 32769, 98307, 229383, 495631, 1019919, 16, 2097168, 6291504, 14680176, 33534207, 67088639, 256, 134217984, 402653952, 939525888, 2147483647, 4294967295]
theorem J9.tab0 : Uc .any (opsOf Try.f142 0) = J9.T0 := by kernel_rfl
theorem J9.bits0 : X6 J9.T0.2 J9.B0 = true := by kernel_rfl
def J9.T1 : Bool × List (List Nat × List Nat) := (true, [([], []), ([], []), ([], []), ([], []), ([], []), ([], []), ([], []), ([], []), ([], []), ([], []), ([], []), ([], []), ([], []), ([12], [12]), ([], []), ([14], [14]), ([], []), ([16], [16]), ([0], [0]), ([18], [18]), ([19, 1], [1, 19]), ([20, 2], [2, 20]), ([21, 3, 0, 1, 2, 3, 12, 13], [3, 21]), ([22, 13, 0, 1, 2, 3, 12, 13], [13, 22]), ([4], [4]), ([24], [24]), ([25, 5], [5, 25]), ([26, 6], [6, 26]), ([27, 7, 0, 1, 2, 3, 4, 5, 6, 7, 12, 13, 14, 15, 18, 19, 20, 21, 22, 23], [7, 27]), ([28, 15, 23, 0, 1, 2, 3, 4, 5, 6, 7, 12, 13, 14, 15, 18, 19, 20, 21, 22, 23], [15, 28]), ([8], [8]), ([30], [30]), ([31, 9], [9, 31]), ([32, 10], [10, 32]), ([33, 11, 0, 1, 2, 3, 4, 5, 6, 7, 8, 9, 10, 11, 12, 13, 14, 15, 16, 17, 18, 19, 20, 21, 22, 23, 24, 25, 26, 27, 28, 29], [11, 33]), ([34, 17, 29, 0, 1, 2, 3, 4, 5, 6, 7, 8, 9, 10, 11, 12, 13, 14, 15, 16, 17, 18, 19, 20, 21, 22, 23, 24, 25, 26, 27, 28, 29], [17, 34])])
def J9.B1 : List Nat := [0, 0, 0, 0, 0, 0, 0, 0, 0, 0, 0, 0, 0, 4096, 0, 16384, 0, 65536, 1, 262145, 786435, 1835015, 3944463, 8138767, 16, 16777232, 50331696, 117440624, 268235007, 536670463, 256, 1073742080, 3221226240, 7516194560, 17179869183, 34359738367]
theorem J9.tab1 : Uc .any (opsOf Try.f142 1) = J9.T1 := by kernel_rfl
theorem J9.bits1 : X6 J9.T1.2 J9.B1 = true := by kernel_rfl
set_option maxHeartbeats 8000000 in
set_option maxRecDepth 100000 in
theorem J9.walk (g cap i j k : Nat) (s : Int) (l0 : List Int) (aC : Nat → Prop) (w0 w : World) (hlen : l0.length = 344) (hi : i < 7) (hj : j < 7) (hk : k < 7) (hs0 : -1 ≤ s) (hs1 : s ≤ 1) (HO : Kd.R (Kd.int .i64) 115 w w0.heap.size aC (.slice (some ⟨g, 0, none⟩) l0.length cap) l0) :
  Calls Try.prog 142 #[.pointer (some ⟨g, 0, none⟩), .int .i64 i, .int .i64 j, .int .i64 k, .int .i64 s] w fun e w' => e = .returned (.tuple #[]) ∧ Kd.R (Kd.int .i64) 115 w' w0.heap.size aC (.slice (some ⟨g, 0, none⟩) (jLm l0 i j k s).length cap) (jLm l0 i j k s) ∧ w.grownBy w' (some g) := by
 have aM := Try.underlying115
 have aN := Try.underlying113
 have aQ := Try.underlying112
 have aT := Try.underlying111
 have HO := Qa.mk HO
 have HG := Qa.mk (World.grownBy.refl w (some g))
 have HL := Qa.mk hlen
 clear hlen
 have hi_ : ((i : Int) < 7) = True := eq_true (by omega)
 have hj_ : ((j : Int) < 7) = True := eq_true (by omega)
 have hk_ : ((k : Int) < 7) = True := eq_true (by omega)
 go_enter Try.func142, Try.ntmps142
 go_wp2
 refine Ya (n := 33) (S := fun _ => True) (ds := []) #[false, false, false, false, false, false, false, false, false, false, false, false, false, false, false, false, false, false, false, false, false, false, false, false, false, false, false, false, false, false, false, false, false] (by kernel_rfl) rfl rfl trivial (fun hHeld => ?_); refine Z0 J9.tab0 J9.bits0 (fun HT_ HW_ => ?_)
 generalize hw_ : World.drew _ = aD at hHeld ⊢
 have HO : Qa (Kd.R (Kd.int .i64) 115 aD w0.heap.size aC (.slice (some ⟨g, 0, none⟩) l0.length cap) l0) := ⟨by rw [← hw_]; exact Kd.R_drew HO.out⟩
 have HG : Qa (w.grownBy aD (some g)) := ⟨by rw [← hw_]; exact ⟨HG.out.os, HG.out.tape, HG.out.output, HG.out.size, HG.out.block⟩⟩
 clear hw_
 refine zP 0 (some 10) rfl rfl ?_
 refine zP 1 (some 11) rfl rfl ?_
 refine zP 2 (some 12) rfl rfl ?_
 refine zP 3 (some 13) rfl rfl ?_
 refine zP 4 (some 14) rfl rfl ?_
 refine zP 5 (some 15) rfl rfl ?_
 refine zP 6 (some 16) rfl rfl ?_
 refine zP 7 (some 17) rfl rfl ?_
 refine zP 8 (some 18) rfl rfl ?_
 refine zP 9 (some 19) rfl rfl ?_
 refine zP 10 (some 20) rfl rfl ?_
 refine zP 11 (some 21) rfl rfl ?_
 refine zP 12 (some 22) rfl rfl ?_
 refine zP 13 (some 23) rfl rfl ?_
 refine zP 14 (some 24) rfl rfl ?_
 refine zP 15 (some 25) rfl rfl ?_
 refine zP 16 (some 26) rfl rfl ?_
 refine zP 17 (some 27) rfl rfl ?_
 refine zP 18 (some 28) rfl rfl ?_
 refine zP 19 (some 29) rfl rfl ?_
 refine zP 21 (some 30) rfl rfl ?_
 refine zP 22 (some 31) rfl rfl ?_
 refine zP 23 (some 32) rfl rfl ?_
 refine zP 24 (some 33) rfl rfl ?_
 refine zP 27 (some 35) rfl rfl ?_
 refine zP 28 (some 36) rfl rfl ?_
 refine zP 29 (some 37) rfl rfl ?_
 refine zP 30 (some 38) rfl rfl ?_
 obtain ⟨hc_, hf_, ho_, hg_⟩ := jBh HO.out (m := (ix3 i j k)) (by have := HL.out; (try simp only [List.length_set]); unfold ix3; omega) s
 have ho_ := Qa.mk ho_
 have hg_ := Qa.mk (World.grownBy.trans HG.out hg_)
 unfold ix3 at hc_ hf_
 refine zU 20 none rfl rfl (fun K hK => ?_)
 go_simp
 refine hK.out _ _ trivial (fun _ => ?_)
 clear hK K hc_ hf_
 have aA : Qa (Kd.R (Kd.int .i64) 115 _ w0.heap.size aC (.slice (some ⟨g, 0, none⟩) (l0.set (ix3 i j k) s).length cap) (l0.set (ix3 i j k) s)) := ho_
 generalize hw_ : World.setCell aD _ _ = aG
 replace HO : Qa (Kd.R (Kd.int .i64) 115 aG w0.heap.size aC (.slice (some ⟨g, 0, none⟩) (l0.set (ix3 i j k) s).length cap) (l0.set (ix3 i j k) s)) := ⟨by rw [← hw_]; exact aA.out⟩
 replace HG : Qa (w.grownBy aG (some g)) := ⟨by rw [← hw_]; exact hg_.out⟩
 clear hw_ ho_ hg_ aA
 refine zP 25 (some 34) rfl rfl ?_
 obtain ⟨hc_, hf_, ho_, hg_⟩ := jBh HO.out (m := (ix3 j k i)) (by have := HL.out; (try simp only [List.length_set]); unfold ix3; omega) s
 have ho_ := Qa.mk ho_
 have hg_ := Qa.mk (World.grownBy.trans HG.out hg_)
 unfold ix3 at hc_ hf_
 refine zU 26 none rfl rfl (fun K hK => ?_)
 go_simp
 refine hK.out _ _ trivial (fun _ => ?_)
 clear hK K hc_ hf_
 have aA : Qa (Kd.R (Kd.int .i64) 115 _ w0.heap.size aC (.slice (some ⟨g, 0, none⟩) ((l0.set (ix3 i j k) s).set (ix3 j k i) s).length cap) ((l0.set (ix3 i j k) s).set (ix3 j k i) s)) := ho_
 generalize hw_ : World.setCell aG _ _ = aH
 replace HO : Qa (Kd.R (Kd.int .i64) 115 aH w0.heap.size aC (.slice (some ⟨g, 0, none⟩) ((l0.set (ix3 i j k) s).set (ix3 j k i) s).length cap) ((l0.set (ix3 i j k) s).set (ix3 j k i) s)) := ⟨by rw [← hw_]; exact aA.out⟩
 replace HG : Qa (w.grownBy aH (some g)) := ⟨by rw [← hw_]; exact hg_.out⟩
 clear hw_ ho_ hg_ aA
 refine zP 31 (some 39) rfl rfl ?_
 obtain ⟨hc_, hf_, ho_, hg_⟩ := jBh HO.out (m := (ix3 k i j)) (by have := HL.out; (try simp only [List.length_set]); unfold ix3; omega) s
 have ho_ := Qa.mk ho_
 have hg_ := Qa.mk (World.grownBy.trans HG.out hg_)
 unfold ix3 at hc_ hf_
 refine zU 32 none rfl rfl (fun K hK => ?_)
 go_simp
 refine hK.out _ _ trivial (fun _ => ?_)
 clear hK K hc_ hf_
 have aA : Qa (Kd.R (Kd.int .i64) 115 _ w0.heap.size aC (.slice (some ⟨g, 0, none⟩) (((l0.set (ix3 i j k) s).set (ix3 j k i) s).set (ix3 k i j) s).length cap) (((l0.set (ix3 i j k) s).set (ix3 j k i) s).set (ix3 k i j) s)) := ho_
 generalize hw_ : World.setCell aH _ _ = aU
 replace HO : Qa (Kd.R (Kd.int .i64) 115 aU w0.heap.size aC (.slice (some ⟨g, 0, none⟩) (((l0.set (ix3 i j k) s).set (ix3 j k i) s).set (ix3 k i j) s).length cap) (((l0.set (ix3 i j k) s).set (ix3 j k i) s).set (ix3 k i j) s)) := ⟨by rw [← hw_]; exact aA.out⟩
 replace HG : Qa (w.grownBy aU (some g)) := ⟨by rw [← hw_]; exact hg_.out⟩
 clear hw_ ho_ hg_ aA
 refine Vh (Xu HT_.out (by kernel_rfl)) ?_
 go_wp2
 refine Ya (n := 36) (S := fun _ => True) (ds := []) #[false, false, false, false, false, false, false, false, false, false, false, false, false, false, false, false, false, false, false, false, false, false, false, false, false, false, false, false, false, false, false, false, false, false, false, false] (by kernel_rfl) rfl rfl trivial (fun hHeld => ?_); refine Z0 J9.tab1 J9.bits1 (fun HT_ HW_ => ?_)
 generalize hw_ : World.drew _ = aI at hHeld ⊢
 have HO : Qa (Kd.R (Kd.int .i64) 115 aI w0.heap.size aC (.slice (some ⟨g, 0, none⟩) (((l0.set (ix3 i j k) s).set (ix3 j k i) s).set (ix3 k i j) s).length cap) (((l0.set (ix3 i j k) s).set (ix3 j k i) s).set (ix3 k i j) s)) := ⟨by rw [← hw_]; exact Kd.R_drew HO.out⟩
 have HG : Qa (w.grownBy aI (some g)) := ⟨by rw [← hw_]; exact ⟨HG.out.os, HG.out.tape, HG.out.output, HG.out.size, HG.out.block⟩⟩
 clear hw_
 refine zP 0 (some 40) rfl rfl ?_
 refine zP 1 (some 41) rfl rfl ?_
 refine zP 2 (some 42) rfl rfl ?_
 refine zP 3 (some 43) rfl rfl ?_
 refine zP 4 (some 44) rfl rfl ?_
 refine zP 5 (some 45) rfl rfl ?_
 refine zP 6 (some 46) rfl rfl ?_
 refine zP 7 (some 47) rfl rfl ?_
 refine zP 8 (some 48) rfl rfl ?_
 refine zP 9 (some 49) rfl rfl ?_
 refine zP 10 (some 50) rfl rfl ?_
 refine zP 11 (some 51) rfl rfl ?_
 refine zP 12 (some 52) rfl rfl ?_
 refine zP 13 (some 53) rfl rfl ?_
 refine zP 14 (some 54) rfl rfl ?_
 refine zP 15 (some 55) rfl rfl ?_
 refine zP 16 (some 56) rfl rfl ?_
 refine zP 17 (some 57) rfl rfl ?_
 refine zP 18 (some 58) rfl rfl ?_
 refine zP 19 (some 59) rfl rfl ?_
 refine zP 20 (some 60) rfl rfl ?_
 refine zP 21 (some 61) rfl rfl ?_
 refine zP 22 (some 62) rfl rfl ?_
 refine zP 24 (some 63) rfl rfl ?_
 refine zP 25 (some 64) rfl rfl ?_
 refine zP 26 (some 65) rfl rfl ?_
 refine zP 27 (some 66) rfl rfl ?_
 refine zP 30 (some 68) rfl rfl ?_
 refine zP 31 (some 69) rfl rfl ?_
 refine zP 32 (some 70) rfl rfl ?_
 refine zP 33 (some 71) rfl rfl ?_
 obtain ⟨hc_, hf_, ho_, hg_⟩ := jBh HO.out (m := (ix3 i k j)) (by have := HL.out; (try simp only [List.length_set]); unfold ix3; omega) (-s)
 have ho_ := Qa.mk ho_
 have hg_ := Qa.mk (World.grownBy.trans HG.out hg_)
 unfold ix3 at hc_ hf_
 refine zU 23 none rfl rfl (fun K hK => ?_)
 go_simp
 refine hK.out _ _ trivial (fun _ => ?_)
 clear hK K hc_ hf_
 have aA : Qa (Kd.R (Kd.int .i64) 115 _ w0.heap.size aC (.slice (some ⟨g, 0, none⟩) ((((l0.set (ix3 i j k) s).set (ix3 j k i) s).set (ix3 k i j) s).set (ix3 i k j) (-s)).length cap) ((((l0.set (ix3 i j k) s).set (ix3 j k i) s).set (ix3 k i j) s).set (ix3 i k j) (-s))) := ho_
 generalize hw_ : World.setCell aI _ _ = aJ
 rw [show wrap64 (-s) = -s by unfold wrap64; omega] at hw_
 replace HO : Qa (Kd.R (Kd.int .i64) 115 aJ w0.heap.size aC (.slice (some ⟨g, 0, none⟩) ((((l0.set (ix3 i j k) s).set (ix3 j k i) s).set (ix3 k i j) s).set (ix3 i k j) (-s)).length cap) ((((l0.set (ix3 i j k) s).set (ix3 j k i) s).set (ix3 k i j) s).set (ix3 i k j) (-s))) := ⟨by rw [← hw_]; exact aA.out⟩
 replace HG : Qa (w.grownBy aJ (some g)) := ⟨by rw [← hw_]; exact hg_.out⟩
 clear hw_ ho_ hg_ aA
 refine zP 28 (some 67) rfl rfl ?_
 obtain ⟨hc_, hf_, ho_, hg_⟩ := jBh HO.out (m := (ix3 k j i)) (by have := HL.out; (try simp only [List.length_set]); unfold ix3; omega) (-s)
 have ho_ := Qa.mk ho_
 have hg_ := Qa.mk (World.grownBy.trans HG.out hg_)
 unfold ix3 at hc_ hf_
 refine zU 29 none rfl rfl (fun K hK => ?_)
 go_simp
 refine hK.out _ _ trivial (fun _ => ?_)
 clear hK K hc_ hf_
 have aA : Qa (Kd.R (Kd.int .i64) 115 _ w0.heap.size aC (.slice (some ⟨g, 0, none⟩) (((((l0.set (ix3 i j k) s).set (ix3 j k i) s).set (ix3 k i j) s).set (ix3 i k j) (-s)).set (ix3 k j i) (-s)).length cap) (((((l0.set (ix3 i j k) s).set (ix3 j k i) s).set (ix3 k i j) s).set (ix3 i k j) (-s)).set (ix3 k j i) (-s))) := ho_
 generalize hw_ : World.setCell aJ _ _ = aK
 rw [show wrap64 (-s) = -s by unfold wrap64; omega] at hw_
 replace HO : Qa (Kd.R (Kd.int .i64) 115 aK w0.heap.size aC (.slice (some ⟨g, 0, none⟩) (((((l0.set (ix3 i j k) s).set (ix3 j k i) s).set (ix3 k i j) s).set (ix3 i k j) (-s)).set (ix3 k j i) (-s)).length cap) (((((l0.set (ix3 i j k) s).set (ix3 j k i) s).set (ix3 k i j) s).set (ix3 i k j) (-s)).set (ix3 k j i) (-s))) := ⟨by rw [← hw_]; exact aA.out⟩
 replace HG : Qa (w.grownBy aK (some g)) := ⟨by rw [← hw_]; exact hg_.out⟩
 clear hw_ ho_ hg_ aA
 refine zP 34 (some 72) rfl rfl ?_
 obtain ⟨hc_, hf_, ho_, hg_⟩ := jBh HO.out (m := (ix3 j i k)) (by have := HL.out; (try simp only [List.length_set]); unfold ix3; omega) (-s)
 have ho_ := Qa.mk ho_
 have hg_ := Qa.mk (World.grownBy.trans HG.out hg_)
 unfold ix3 at hc_ hf_
 refine zU 35 none rfl rfl (fun K hK => ?_)
 go_simp
 refine hK.out _ _ trivial (fun _ => ?_)
 clear hK K hc_ hf_
 have aA : Qa (Kd.R (Kd.int .i64) 115 _ w0.heap.size aC (.slice (some ⟨g, 0, none⟩) ((((((l0.set (ix3 i j k) s).set (ix3 j k i) s).set (ix3 k i j) s).set (ix3 i k j) (-s)).set (ix3 k j i) (-s)).set (ix3 j i k) (-s)).length cap) ((((((l0.set (ix3 i j k) s).set (ix3 j k i) s).set (ix3 k i j) s).set (ix3 i k j) (-s)).set (ix3 k j i) (-s)).set (ix3 j i k) (-s))) := ho_
 generalize hw_ : World.setCell aK _ _ = aV
 rw [show wrap64 (-s) = -s by unfold wrap64; omega] at hw_
 replace HO : Qa (Kd.R (Kd.int .i64) 115 aV w0.heap.size aC (.slice (some ⟨g, 0, none⟩) ((((((l0.set (ix3 i j k) s).set (ix3 j k i) s).set (ix3 k i j) s).set (ix3 i k j) (-s)).set (ix3 k j i) (-s)).set (ix3 j i k) (-s)).length cap) ((((((l0.set (ix3 i j k) s).set (ix3 j k i) s).set (ix3 k i j) s).set (ix3 i k j) (-s)).set (ix3 k j i) (-s)).set (ix3 j i k) (-s))) := ⟨by rw [← hw_]; exact aA.out⟩
 replace HG : Qa (w.grownBy aV (some g)) := ⟨by rw [← hw_]; exact hg_.out⟩
 clear hw_ ho_ hg_ aA
 refine Vh (Xu HT_.out (by kernel_rfl)) ?_
 go_wp2
 go_end0
 exact ⟨rfl, HO.out, HG.out⟩
theorem Uq (l : List Int) (i j k : Nat) (s : Int) : (jLm l i j k s).length = l.length := by simp only [jLm, List.length_set]
theorem J9.calls (aC : Nat → Prop) (aA : Value) (l0 : List Int) (a1 : Int) (a2 : Int) (a3 : Int) (a4 : Int) (r : List Int) (w0 w : World) (hB : Below w0.heap.size w0 w) (ho0 : Kd.R (Kd.int .i64) 115 w w0.heap.size aC aA l0) (h : J9.f l0 a1 a2 a3 a4 = some r) :
  Calls Try.prog 142 #[jL1 aA, .int .i64 a1, .int .i64 a2, .int .i64 a3, .int .i64 a4] w fun e w' => e = .returned (.tuple #[]) ∧ Kd.R (Kd.int .i64) 115 w' w0.heap.size (fun k_ => (aC k_ ∨ w.heap.size ≤ k_)) aA r ∧ Below w0.heap.size w0 w' ∧ Kept w w' (fun k_ => aC k_) := by
 unfold J9.f at h
 by_cases hc : l0.length = 344 ∧ (0 ≤ a1 ∧ a1 < 7) ∧ (0 ≤ a2 ∧ a2 < 7) ∧ (0 ≤ a3 ∧ a3 < 7) ∧ -1 ≤ a4 ∧ a4 ≤ 1
 ·rw [if_pos hc] at h
  obtain ⟨hl, ⟨h10, h11⟩, ⟨h20, h21⟩, ⟨aD, h31⟩, aG, aH⟩ := hc
  obtain rfl := Option.some.inj h
  obtain ⟨g, cap, rfl, hb, hlt, _⟩ := Kd.R_form ho0 (by omega)
  obtain ⟨i, rfl⟩ := Int.eq_ofNat_of_zero_le h10
  obtain ⟨j, rfl⟩ := Int.eq_ofNat_of_zero_le h20
  obtain ⟨k, rfl⟩ := Int.eq_ofNat_of_zero_le aD
  simp only [Int.toNat_natCast]
  refine (J9.walk g cap i j k a4 l0 aC w0 w hl (by omega) (by omega) (by omega) aG aH ho0).mono ?_
  rintro e w' ⟨rfl, ho, hg⟩
  have hP : aC g := ho0.1 g rfl
  rw [Uq] at ho
  exact ⟨rfl, Kd.R_mono ho (fun _ hk => Or.inl hk), hB.grown hg hB.size (fun k hk => by injection hk with hk; omega), hg.size, fun i hi hn => hg.block i hi (by intro e; injection e with e; subst e; exact hn hP)⟩
 rw [if_neg hc] at h
 cases h
end Go.Proofs.Ytckkfjdkaimmhaa.G
namespace Go.Proofs.Ytckkfjdkaimmhaa.PX
open Go.RowKit Go.Proofs.Ytckkfjdkaimmhaa.G Go.Proofs.YtckkfjdkaimmhaaW.PrintWords Go.Proofs.YtckkfjdkaimmhaaW.PrintLast Go.Proofs.YtckkfjdkaimmhaaW.PrintMore
attribute [local go_sem] max2_int min2_int Yd Yg Xh Xf Xq Xp   -- for this text's walks alone
set_option linter.unusedVariables false
set_option linter.unusedSimpArgs false
mutual
def Qk.l0 : Nat → Int → List (S99) → Int → Option ((List (S99)))
 | 0, _, _, _ => none
 | k + 1, x0, x3, x4 => if x4 < x0 then (Qk.l1 k x0 x3 x4 (wrap64 (x4 + 1))) else (some x3)
def Qk.l1 : Nat → Int → List (S99) → Int → Int → Option ((List (S99)))
 | 0, _, _, _, _ => none
 | k + 1, x0, x3, x4, x5 => if x5 < x0 then (Qk.l2 k x0 x3 x4 x5 (wrap64 (x5 + 1))) else (Qk.l0 k x0 x3 (wrap64 (x4 + 1)))
def Qk.l2 : Nat → Int → List (S99) → Int → Int → Int → Option ((List (S99)))
 | 0, _, _, _, _, _ => none
 | k + 1, x0, x3, x4, x5, x6 => if x6 < x0 then (if x3.length < 5864062014805 then (Qk.l2 k x0 (x3 ++ [(⟨x4, x5, x6⟩ : S99)]) x4 x5 (wrap64 (x6 + 1))) else (none)) else (Qk.l1 k x0 x3 x4 (wrap64 (x5 + 1)))
end
def Qk.f (k : Nat) (a0 : Int) : Option ((List (S99))) := Qk.l0 k a0 ([] : List (S99)) 0
theorem Qk.mono_l : ∀ k, (∀ y0 y1 y2, LeO (Qk.l0 k y0 y1 y2) (Qk.l0 (k + 1) y0 y1 y2)) ∧ (∀ y0 y1 y2 y3, LeO (Qk.l1 k y0 y1 y2 y3) (Qk.l1 (k + 1) y0 y1 y2 y3)) ∧ (∀ y0 y1 y2 y3 y4, LeO (Qk.l2 k y0 y1 y2 y3 y4) (Qk.l2 (k + 1) y0 y1 y2 y3 y4))
 | 0 => ⟨fun _ _ _ r h => by simp [Qk.l0] at h, fun _ _ _ _ r h => by simp [Qk.l1] at h, fun _ _ _ _ _ r h => by simp [Qk.l2] at h⟩
 | k + 1 => by
  obtain ⟨aA, ih1, ih2⟩ := Qk.mono_l k
  refine ⟨?_, ?_, ?_⟩ <;> intros <;> (first | unfold Qk.l0 | unfold Qk.l1 | unfold Qk.l2) <;> repeat' first
  | (with_reducible first | exact aA .. | exact ih1 .. | exact ih2 .. | exact LeO.refl _ | exact LeO.none _ | refine LeO.ite ?_ ?_ | refine LeO.bind ?_ (fun _ => ?_))
  | exact aA .. | exact ih1 .. | exact ih2 .. | exact LeO.none _ | refine LeO.ite ?_ ?_ | refine LeO.bind ?_ (fun _ => ?_)
theorem Qk.mono : ∀ a0 k, LeO (Qk.f k a0) (Qk.f (k + 1) a0) := by
 intro a0 k
 obtain ⟨aA, ih1, ih2⟩ := Qk.mono_l k
 unfold Qk.f
 repeat' first
   | (with_reducible first | exact aA .. | exact ih1 .. | exact ih2 .. | exact LeO.refl _ | exact LeO.none _ | refine LeO.ite ?_ ?_ | refine LeO.bind ?_ (fun _ => ?_))
   | exact aA .. | exact ih1 .. | exact ih2 .. | exact LeO.none _ | refine LeO.ite ?_ ?_ | refine LeO.bind ?_ (fun _ => ?_)
set_option maxHeartbeats 8000000 in
set_option maxRecDepth 100000 in
theorem Qk.calls (k : Nat) (a0 : Int) (r : List (S99)) (w : World) (h : Qk.f k a0 = some r) :
  Calls Try.prog 118 #[.int .i64 a0] w fun e w' => ∃ bA : Value, e = .returned (bA) ∧ Kd.R k99 99 w' w.heap.size (fun _ => True) bA r ∧ Below w.heap.size w w' := by
 have bB := Try.underlying99
 have HB := Qa.mk (Below.refl w.heap.size w)
 have H := h
 unfold Qk.f at H
 clear h
 have H' := Qa.mk H; clear H
 go_enter Try.func118, Try.ntmps118
 go_wp2
 go_loopg [3, 4] k (fun kq v3 v4 w' => ∃ (aJ : List (S99)) (aA : Int), v4 = .int .i64 aA ∧ Qa (Qk.l0 kq a0 aJ aA = some r) ∧ Qa (kq ≤ k) ∧ Qa (Kd.R k99 99 w' w.heap.size (fun _ => True) v3 aJ) ∧ Qa (Below w.heap.size w w'))
 case atStart => exact ⟨(([] : List (S99))), (0), zF, H', ⟨Nat.le_refl _⟩, ⟨by first | exact Kd.R_nil _ _ _ _ _ | exact Kd.N_nil _ _ _ _ _ | exact Kd.V_nil _ _ _ _ _ | exact Kd.Q_nil _ _ _ _ _ | exact Kd.S_nil _ _ _ _ _⟩, ⟨zB⟩⟩
 case round =>
 clear H'
 obtain ⟨aJ, aA, rfl, HA, aN, aD, HB⟩ := hrel
 cases gk with
 | zero => exact absurd HA.out (by simp [Qk.l0])
 | succ k1 =>
 have H := HA.out
 clear HA
 simp only [Qk.l0] at H
 replace H := Z5 H
 rcases H with ⟨aM, H⟩ | ⟨aM, H⟩
 ·have H' := Qa.mk H; clear H
  go_wp2
  go_loopg [3, 5] k1 (fun kq v3 v5 w' => ∃ (aI : List (S99)) (aC : Int), v5 = .int .i64 aC ∧ Qa (Qk.l1 kq a0 aI aA aC = some r) ∧ Qa (kq ≤ k1) ∧ Qa (Kd.R k99 99 w' w.heap.size (fun _ => True) v3 aI) ∧ Qa (Below w.heap.size w w'))
  case atStart => exact ⟨(aJ), (wrap64 (aA + 1)), zF, H', ⟨Nat.le_refl _⟩, ⟨zR aD.out⟩, ⟨zB⟩⟩
  case round =>
  clear H'
  try clear c2
  try clear aM
  obtain ⟨aI, aC, rfl, HA, aQ, aD, HB⟩ := hrel
  cases gk with
  | zero => exact absurd HA.out (by simp [Qk.l1])
  | succ k2 =>
  have H := HA.out
  clear HA
  simp only [Qk.l1] at H
  replace H := Z5 H
  rcases H with ⟨aT, H⟩ | ⟨aT, H⟩
  ·have H' := Qa.mk H; clear H
   go_wp2
   go_loopg [3, 6] k2 (fun kq v3 v6 w' => ∃ (aH : List (S99)) (aG : Int), v6 = .int .i64 aG ∧ Qa (Qk.l2 kq a0 aH aA aC aG = some r) ∧ Qa (kq ≤ k2) ∧ Qa (Kd.R k99 99 w' w.heap.size (fun _ => True) v3 aH) ∧ Qa (Below w.heap.size w w'))
   case atStart => exact ⟨(aI), (wrap64 (aC + 1)), zF, H', ⟨Nat.le_refl _⟩, ⟨zR aD.out⟩, ⟨zB⟩⟩
   case round =>
   clear H'
   try clear c2
   try clear aM
   try clear c3
   try clear aT
   obtain ⟨aH, aG, rfl, HA, aW, aD, HB⟩ := hrel
   cases gk with
   | zero => exact absurd HA.out (by simp [Qk.l2])
   | succ k3 =>
   have H := HA.out
   clear HA
   simp only [Qk.l2] at H
   replace H := Z5 H
   rcases H with ⟨aX, H⟩ | ⟨aX, H⟩
   ·replace H := Vt H
    rcases H with ⟨c5, H⟩ | ⟨c5, H⟩
    ·have aY := Qa.mk c5
     clear c5
     generalize aK : (aH ++ [(⟨aA, aC, aG⟩ : S99)] : List (S99)) = aZ at H
     have aU := Qa.mk aK.symm
     clear aK
     have H' := Qa.mk H; clear H
     go_wp2_with (first | ((with_reducible refine Z9 (b := .append) (xs := #[.tmp 26, .tmp 31]) rfl ?_); at_builtin; refine Kd.R_append k99 (w0 := w) w.heap.size rfl (.tmp 26) (.tmp 31) 97 99 (.agg #[(.int .i64 0), (.int .i64 0), (.int .i64 0)]) 24 rfl Try.underlying97 jQq rfl (by decide) (by omega) u3 aH (⟨aA, aC, aG⟩ : S99) [.int .i64 aA, .int .i64 aC, .int .i64 aG] (fun _ => True) (fun _ => False) rfl rfl ?aP (fun _ hk => hk.elim) ?aF ?aO ?aB ?aS ?aL ?_; (case aP => exact jOy _ _ _ (⟨aA, aC, aG⟩ : S99)); (case aB => exact zB); (case aF => exact (fun _ _ => trivial)); (case aO => exact (zR aD.out)); (case aS => exact (Ql zB)); (case aL => have := aY.out; omega); intro bC w6 ho hb hg hat; rw [← aU.out] at ho; have aV := Qa.mk (ho); replace HB := Qa.mk (hb); clear aD; clear ho hb hg hat))
     go_roundg k3
     case measure => have := aN.out; have := aQ.out; have := aW.out; omega
     case rel => exact ⟨(aZ), (wrap64 (aG + 1)), zF, H', ⟨by have := aN.out; have := aQ.out; have := aW.out; omega⟩, ⟨zR aV.out⟩, ⟨zB⟩⟩
    exact absurd H (by simp)
   have H' := Qa.mk H; clear H
   go_wp2
   go_roundg k3
   case measure => have := aN.out; have := aQ.out; have := aW.out; omega
   case rel => exact ⟨(aH), (wrap64 (aC + 1)), zF, H', ⟨by have := aN.out; have := aQ.out; have := aW.out; omega⟩, ⟨zR aD.out⟩, ⟨zB⟩⟩
  have H' := Qa.mk H; clear H
  go_wp2
  go_roundg k2
  case measure => have := aN.out; have := aQ.out; omega
  case rel => exact ⟨(aI), (wrap64 (aA + 1)), zF, H', ⟨by have := aN.out; have := aQ.out; omega⟩, ⟨zR aD.out⟩, ⟨zB⟩⟩
 obtain rfl := Option.some.inj H
 go_wp2
 go_ret
 exact ⟨_, zE, zR aD.out, zB⟩
def Zy.l0 : Nat → List Int → List (S99) → Int → Int → Int → ByteArray → Option (List Int)
 | 0, _, _, _, _, _, _ => none
 | k + 1, x3, aG, aH, aD, aC, aA => if aD < aH then (if 0 ≤ aD then (if aD < (aG.length : Int) then (if aD < (aA.size : Int) then (if (bt aA aD) = 45 then (if x3.length = 344 then ((J9.f x3 ((Qu aG aD).f0) ((Qu aG aD).f1) ((Qu aG aD).f2) (-1)).bind fun aI => (Zy.l0 k aI aG aH (wrap64 (aD + 1)) aC aA)) else (none)) else (if x3.length = 344 then ((J9.f x3 ((Qu aG aD).f0) ((Qu aG aD).f1) ((Qu aG aD).f2) 1).bind fun aJ => (Zy.l0 k aJ aG aH (wrap64 (aD + 1)) aC aA)) else (none))) else (none)) else (none)) else (none)) else (some x3)
def Zy.f (k : Nat) (aA : Int) (aD : ByteArray) : Option (List Int) := (Qk.f k aA).bind fun aC => (Zy.l0 k (aA :: List.replicate 343 (0 : Int)) aC (aC.length : Int) 0 aA aD)
theorem jN2 {p q p0 p1 : Prop} (g : p) (g0 : p0) (g1 : p1) (h : p → p0 → p1 → q := by intro zg_ aA aC; repeat (first | (with_reducible first | exact zg_ | apply Jq | apply Jh | apply Qt | refine Jt ?_ aA | refine Jt ?_ aC) | exact zg_)) : q := h g g0 g1
set_option maxHeartbeats 8000000 in
set_option maxRecDepth 100000 in
theorem Zy.calls (k : Nat) (aT : Int) (aU : ByteArray) (r : List Int) (w : World) (h : Zy.f k aT aU = some r) :
  Calls Try.prog 83 #[.agg #[.int .i64 aT, .string aU]] w fun e w' => ∃ fU : Value, e = .returned (jL1 fU) ∧ Kd.R (Kd.int .i64) 115 w' w.heap.size (fun _ => True) fU r ∧ Below w.heap.size w w' := by
 have gP := Try.underlying25
 have gQ := Try.underlying99
 have HB := Qa.mk (Below.refl w.heap.size w)
 have H := h
 unfold Zy.f at H
 clear h
 generalize bH : (aT :: List.replicate 343 (0 : Int) : List Int) = fI at H
 have bS := Qa.mk bH.symm
 clear bH
 obtain ⟨aG, A2, H⟩ := zO H
 have H' := Qa.mk H; clear H
 go_enter Try.func83, Try.ntmps83
 go_wp2_with (first | ((with_reducible refine Qf (N := 1) rfl ?_); refine zBx (N := 1) #[.int .i64 aT, .string aU] 25 ?_; intro aY hg w3 hbox hb; have aC := Qa.mk (hbox); have fV := zS hg; have aJ := zS hg; replace HB := zX hb; clear hb hbox hg; obtain ⟨bJ, bK, bL, bM⟩ := zq2 aC.out) | ((with_reducible refine Qf (N := 9) rfl ?_); refine jCr (T := 115) (s := 8) (n := aT) rfl rfl ?hx jJ6 ?_; (case hx => first | rfl | (go_simp; done) | (go_simp; rfl))) | ((with_reducible refine Qf (N := 10) rfl ?_); refine jEn (n := aT) (T := 115) (N := 10) ?hg ?hd ?hr w.heap.size ?hs ?_; (case hd => rfl); (case hg => rfl); (case hr => first | (go_simp; done) | (go_simp; rfl)); (case hs => exact (Ql (zG aJ.out))); intro bD w5 ho hb; rw [← bS.out] at ho; replace aC := zV aC.out hb; have aZ := Qa.mk (ho); replace HB := zX1 aJ.out hb; clear hb ho; obtain ⟨bN, bO, bP, bQ⟩ := zq2 aC.out) | ((with_reducible refine Qb (f := 118) rfl ?_); refine zD (some 13) Try.func118 _ ((Qk.calls k aT aG _ A2.out).mono ?_); rintro e w7 ⟨gT, rfl, ho0, hb⟩; refine ⟨_, rfl, ?_⟩; replace aZ := zW aZ.out hb; have bI := Qa.mk (Kd.R_lower ho0 (Ql (zG aJ.out))); replace aC := zV aC.out hb; replace HB := zX1 aJ.out hb; (try clear hb); (try clear ho0); obtain ⟨gU, fJ, gV⟩ := Kd.R_slice bI.out; subst gV))
 go_loopg [15] k (fun kq v15 w' => ∃ (aN : List Int) (aA : Int), v15 = .int .i64 aA ∧ Qa (Zy.l0 kq aN aG (aG.length : Int) aA aT aU = some r) ∧ Qa (kq ≤ k) ∧ Qa (Kd.R (Kd.int .i64) 115 w' w.heap.size (fun _ => True) bD aN) ∧ Qa (Kd.R k99 99 w' w.heap.size (fun _ => True) (.slice gU aG.length fJ) aG) ∧ Qa (w'.heap[aY]? = some (.cells #[.int .i64 aT, .string aU] 25 (0, 0))) ∧ Qa (Below w.heap.size w w'))
 case atStart => exact ⟨(fI), (0), zF, H', ⟨Nat.le_refl _⟩, ⟨zR aZ.out⟩, ⟨zR bI.out⟩, ⟨zK aC.out⟩, ⟨zG aJ.out⟩⟩
 case round =>
 clear H'
 try clear bJ
 try clear bK
 try clear bN
 try clear bO
 try clear bL
 try clear bM
 try clear bP
 try clear bQ
 obtain ⟨aN, aA, rfl, HA, dN, aM, aK, aC, HB⟩ := hrel
 cases gk with
 | zero => exact absurd HA.out (by simp [Zy.l0])
 | succ k1 =>
 have H := HA.out
 clear HA
 simp only [Zy.l0] at H
 replace H := Z5 H
 rcases H with ⟨fK, H⟩ | ⟨fK, H⟩
 ·replace H := Zq H
  rcases H with ⟨fZ, H⟩ | ⟨c10, H⟩
  ·replace H := Zq H
   rcases H with ⟨gB, H⟩ | ⟨c11, H⟩
   ·replace H := Zq H
    rcases H with ⟨gD, H⟩ | ⟨c12, H⟩
    ·replace H := Zi H
     rcases H with ⟨bT, bU, H⟩ | ⟨c14, bT, bU, H⟩
     ·replace H := Xw H
      rcases H with ⟨gF, gG, H⟩ | ⟨c15, H⟩
      ·obtain ⟨bV, gW, H⟩ := zO H
       have H' := Qa.mk H; clear H
       have aW : 0 ≤ (aA : Int) := zA
       have aX : aA < (aG.length : Int) := zA
       obtain ⟨bA, bR, bE, bF, bG⟩ := jDl (Kd.R_reads' aK.out).2.2 aA aW aX
       cases bR
       replace aW := eq_true aW
       replace aX := eq_true aX
       go_wp2_with (first | ((with_reducible refine Qf (N := 5) rfl ?_); refine zBx (N := 5) #[.int .i64 0, .int .i64 0, .int .i64 0] 99 ?_; intro aD hg gX hbox hb; replace aM := zW aM.out hb; replace aK := Qa.mk (Kd.R_below (Kd.R_elderB (zR aK.out) aD (Nat.le_of_eq hg.symm)) hb); have aI := Qa.mk (hbox); have bW := zSg hg (zG aJ.out); have aV := zSg hg (zG aJ.out); have aH := zL hg aC.out; have aQ := zLg hg aC.out; replace aC := zV aC.out hb; replace HB := zX1 aJ.out hb; clear hb hbox hg; have gH := aQ.out; have gJ := aH.out; obtain ⟨dO, dP, dQ, dR, dS, dU⟩ := zq3 aI.out) | ((with_reducible refine Kt (t := 99) (p := 5) rfl ?_); refine Ke (t := 99) (p := 5) (v := ?fM) (w1 := (((gX.setCell ⟨aD, 0, none⟩ (.int .i64 ((Qu aG aA).f0))).setCell ⟨aD, 1, none⟩ (.int .i64 ((Qu aG aA).f1))).setCell ⟨aD, 2, none⟩ (.int .i64 ((Qu aG aA).f2)))) ?hg ?ho ?hn ?hr ?_; (case ho => rfl); (case hg => rfl); (case hn => rfl); (case hr => first | (go_simp; done) | (go_simp; rfl)); intro bX hw; have bY : Qa (Kd.R (Kd.int .i64) 115 bX w.heap.size (fun _ => True) bD aN) := ⟨(by rw [hw]; exact (by (with_reducible repeat (first | apply Kd.R_alloc | apply Kd.R_drewN | apply Kd.R_drew)); exact Kd.R_mono (Kd.R_far (p := ⟨aD, 2, none⟩) (Kd.R_far (p := ⟨aD, 1, none⟩) (Kd.R_far (p := ⟨aD, 0, none⟩) (Kd.R_types aM.out aI.out (by decide)) (fun _ hk => hk.2) (.int .i64 ((Qu aG aA).f0))) (fun _ hk => hk.2) (.int .i64 ((Qu aG aA).f1))) (fun _ hk => hk.2) (.int .i64 ((Qu aG aA).f2))) (fun _ hk => trivial)))⟩; have bZ : Qa (Kd.R k99 99 bX w.heap.size (fun k_ => k_ ≠ aD) (.slice (some bA) aG.length fJ) aG) := ⟨(by rw [hw]; exact (by (with_reducible repeat (first | apply Kd.R_alloc | apply Kd.R_drewN | apply Kd.R_drew)); exact Kd.R_mono (Kd.R_far (p := ⟨aD, 2, none⟩) (Kd.R_far (p := ⟨aD, 1, none⟩) (Kd.R_far (p := ⟨aD, 0, none⟩) (Kd.R_mono aK.out (fun k_ hk => (⟨hk, hk.2⟩ : _ ∧ k_ ≠ aD))) (fun _ hk => hk.2) (.int .i64 ((Qu aG aA).f0))) (fun _ hk => hk.2) (.int .i64 ((Qu aG aA).f1))) (fun _ hk => hk.2) (.int .i64 ((Qu aG aA).f2))) (fun _ hk => hk.1.2)))⟩; have cB : Qa (bX.heap[aY]? = some (.cells #[.int .i64 aT, .string aU] 25 (0, 0))) := ⟨(by rw [hw]; exact (zk3 aC.out aH.out aH.out aH.out))⟩; have cK : Qa (bX.heap[aD]? = some (.cells #[.int .i64 ((Qu aG aA).f0), .int .i64 ((Qu aG aA).f1), .int .i64 ((Qu aG aA).f2)] 99 (0, 0))) := ⟨(by rw [hw]; exact (zk0 aI.out))⟩; have cO : Qa (Below w.heap.size w bX) := ⟨(by rw [hw]; exact (zG2 aJ.out aV.out))⟩; clear hw; clear aM; clear aK; clear aC; clear aI; clear HB; have aM := bY; have aK := bZ; have aC := cB; have aI := cK; have HB := cO; clear bY bZ cB cK cO; obtain ⟨dV, dW, dX, dY⟩ := zq2 aC.out; have cZ : 0 ≤ (aA : Int) := zA; have dA : aA < (aU.size : Int) := zA; have fO := Ka aU aA; replace cZ := eq_true cZ; replace dA := eq_true dA; obtain ⟨dZ, eB, eD, eF, eG, eH⟩ := zq3 aI.out; obtain ⟨dB, dC, dD, dE, fP, gY, dF⟩ := Kd.R_form aM.out (by have hl_ := Nat.le_of_eq (Eq.symm (zA : aN.length = 344)); omega); (first | cases dD | (injection dD with ea_ en_ ec_; (first | subst ea_ | (injection ea_ with ea_; subst ea_)); subst ec_; clear en_)); have gZ := Qa.mk dE; have iA := Qa.mk dF; clear dE fP dF) | ((with_reducible refine Qb (f := 142) rfl ?_); refine zD (some 33) Try.func142 _ ((J9.calls (fun k_ => some k_ = (.slice (some ⟨dB, 0, none⟩) aN.length dC : Value).ownBlock) (.slice (some ⟨dB, 0, none⟩) aN.length dC) aN ((Qu aG aA).f0) ((Qu aG aA).f1) ((Qu aG aA).f2) (-1) bV w _ ?bB ?bC gW.out).mono ?_); (case bB => exact (jN2 HB.out aJ.out aV.out)); (case bC => exact Kd.R_tight rfl aM.out); rintro e iG ⟨rfl, hy0, hb, hkp⟩; refine ⟨_, rfl, ?_⟩; replace aK := Qa.mk (Kd.R_mono (ok' := fun k_ => k_ ≠ aD) (Kd.R_keptB ((Kd.R_apart' aK.out (Kd.R_typed aM.out) (by decide))) hkp (fun k_ hk_ hs_ => (hk_.2) hs_)) (fun k_ hk_ => hk_.1.1)); replace aC := Qa.mk (jBz (zK aC.out) hkp (fun hs_ => (fun e_ => (Kd.R_ne aM.out aC.out (by decide)) e_) hs_)); replace aI := Qa.mk (jBz (zK aI.out) hkp (fun hs_ => (fun e_ => (Kd.R_ne aM.out aI.out (by decide)) e_) hs_)); replace aM := Qa.mk (Kd.R_reok rfl hy0 (fun k_ e_ => aM.out.1 k_ e_)); replace HB := Qa.mk (hb); (try clear hb); (try clear hkp); (try clear hy0)))
       go_roundg k1
       case measure => have := dN.out; omega
       case rel => exact ⟨(bV), (wrap64 (aA + 1)), zF, H', ⟨by have := dN.out; omega⟩, ⟨zR aM.out⟩, ⟨zR (Kd.R_mono aK.out (fun _ hk => trivial))⟩, ⟨zK aC.out⟩, ⟨zG2 aJ.out aV.out⟩⟩
      exact absurd H (by simp)
     replace H := Xw H
     rcases H with ⟨gK, gL, H⟩ | ⟨iH, H⟩
     ·obtain ⟨dG, iB, H⟩ := zO H
      have H' := Qa.mk H; clear H
      have aW : 0 ≤ (aA : Int) := zA
      have aX : aA < (aG.length : Int) := zA
      obtain ⟨bA, bR, bE, bF, bG⟩ := jDl (Kd.R_reads' aK.out).2.2 aA aW aX
      cases bR
      replace aW := eq_true aW
      replace aX := eq_true aX
      go_wp2_with (first | ((with_reducible refine Qf (N := 5) rfl ?_); refine zBx (N := 5) #[.int .i64 0, .int .i64 0, .int .i64 0] 99 ?_; intro aD hg iC hbox hb; replace aM := zW aM.out hb; replace aK := Qa.mk (Kd.R_below (Kd.R_elderB (zR aK.out) aD (Nat.le_of_eq hg.symm)) hb); have aI := Qa.mk (hbox); have bW := zSg hg (zG aJ.out); have aV := zSg hg (zG aJ.out); have aH := zL hg aC.out; have aQ := zLg hg aC.out; replace aC := zV aC.out hb; replace HB := zX1 aJ.out hb; clear hb hbox hg; have gM := aQ.out; have gN := aH.out; obtain ⟨eO, eP, eQ, eT, eU, eX⟩ := zq3 aI.out) | ((with_reducible refine Kt (t := 99) (p := 5) rfl ?_); refine Ke (t := 99) (p := 5) (v := ?fQ) (w1 := (((iC.setCell ⟨aD, 0, none⟩ (.int .i64 ((Qu aG aA).f0))).setCell ⟨aD, 1, none⟩ (.int .i64 ((Qu aG aA).f1))).setCell ⟨aD, 2, none⟩ (.int .i64 ((Qu aG aA).f2)))) ?hg ?ho ?hn ?hr ?_; (case ho => rfl); (case hg => rfl); (case hn => rfl); (case hr => first | (go_simp; done) | (go_simp; rfl)); intro dH hw; have bY : Qa (Kd.R (Kd.int .i64) 115 dH w.heap.size (fun _ => True) bD aN) := ⟨(by rw [hw]; exact (by (with_reducible repeat (first | apply Kd.R_alloc | apply Kd.R_drewN | apply Kd.R_drew)); exact Kd.R_mono (Kd.R_far (p := ⟨aD, 2, none⟩) (Kd.R_far (p := ⟨aD, 1, none⟩) (Kd.R_far (p := ⟨aD, 0, none⟩) (Kd.R_types aM.out aI.out (by decide)) (fun _ hk => hk.2) (.int .i64 ((Qu aG aA).f0))) (fun _ hk => hk.2) (.int .i64 ((Qu aG aA).f1))) (fun _ hk => hk.2) (.int .i64 ((Qu aG aA).f2))) (fun _ hk => trivial)))⟩; have bZ : Qa (Kd.R k99 99 dH w.heap.size (fun k_ => k_ ≠ aD) (.slice (some bA) aG.length fJ) aG) := ⟨(by rw [hw]; exact (by (with_reducible repeat (first | apply Kd.R_alloc | apply Kd.R_drewN | apply Kd.R_drew)); exact Kd.R_mono (Kd.R_far (p := ⟨aD, 2, none⟩) (Kd.R_far (p := ⟨aD, 1, none⟩) (Kd.R_far (p := ⟨aD, 0, none⟩) (Kd.R_mono aK.out (fun k_ hk => (⟨hk, hk.2⟩ : _ ∧ k_ ≠ aD))) (fun _ hk => hk.2) (.int .i64 ((Qu aG aA).f0))) (fun _ hk => hk.2) (.int .i64 ((Qu aG aA).f1))) (fun _ hk => hk.2) (.int .i64 ((Qu aG aA).f2))) (fun _ hk => hk.1.2)))⟩; have cB : Qa (dH.heap[aY]? = some (.cells #[.int .i64 aT, .string aU] 25 (0, 0))) := ⟨(by rw [hw]; exact (zk3 aC.out aH.out aH.out aH.out))⟩; have cK : Qa (dH.heap[aD]? = some (.cells #[.int .i64 ((Qu aG aA).f0), .int .i64 ((Qu aG aA).f1), .int .i64 ((Qu aG aA).f2)] 99 (0, 0))) := ⟨(by rw [hw]; exact (zk0 aI.out))⟩; have cO : Qa (Below w.heap.size w dH) := ⟨(by rw [hw]; exact (zG2 aJ.out aV.out))⟩; clear hw; clear aM; clear aK; clear aC; clear aI; clear HB; have aM := bY; have aK := bZ; have aC := cB; have aI := cK; have HB := cO; clear bY bZ cB cK cO; obtain ⟨eY, eZ, fA, fB⟩ := zq2 aC.out; have cZ : 0 ≤ (aA : Int) := zA; have dA : aA < (aU.size : Int) := zA; have fO := Ka aU aA; replace cZ := eq_true cZ; replace dA := eq_true dA; obtain ⟨fC, fD, fE, fF, fG, fH⟩ := zq3 aI.out; obtain ⟨dI, dJ, dK, dL, fT, iD, dM⟩ := Kd.R_form aM.out (by have hl_ := Nat.le_of_eq (Eq.symm (zA : aN.length = 344)); omega); (first | cases dK | (injection dK with ea_ en_ ec_; (first | subst ea_ | (injection ea_ with ea_; subst ea_)); subst ec_; clear en_)); have iE := Qa.mk dL; have iF := Qa.mk dM; clear dL fT dM) | ((with_reducible refine Qb (f := 142) rfl ?_); refine zD (some 33) Try.func142 _ ((J9.calls (fun k_ => some k_ = (.slice (some ⟨dI, 0, none⟩) aN.length dJ : Value).ownBlock) (.slice (some ⟨dI, 0, none⟩) aN.length dJ) aN ((Qu aG aA).f0) ((Qu aG aA).f1) ((Qu aG aA).f2) 1 dG w _ ?bB ?bC iB.out).mono ?_); (case bB => exact (jN2 HB.out aJ.out aV.out)); (case bC => exact Kd.R_tight rfl aM.out); rintro e iI ⟨rfl, hy0, hb, hkp⟩; refine ⟨_, rfl, ?_⟩; replace aK := Qa.mk (Kd.R_mono (ok' := fun k_ => k_ ≠ aD) (Kd.R_keptB ((Kd.R_apart' aK.out (Kd.R_typed aM.out) (by decide))) hkp (fun k_ hk_ hs_ => (hk_.2) hs_)) (fun k_ hk_ => hk_.1.1)); replace aC := Qa.mk (jBz (zK aC.out) hkp (fun hs_ => (fun e_ => (Kd.R_ne aM.out aC.out (by decide)) e_) hs_)); replace aI := Qa.mk (jBz (zK aI.out) hkp (fun hs_ => (fun e_ => (Kd.R_ne aM.out aI.out (by decide)) e_) hs_)); replace aM := Qa.mk (Kd.R_reok rfl hy0 (fun k_ e_ => aM.out.1 k_ e_)); replace HB := Qa.mk (hb); (try clear hb); (try clear hkp); (try clear hy0)))
      go_roundg k1
      case measure => have := dN.out; omega
      case rel => exact ⟨(dG), (wrap64 (aA + 1)), zF, H', ⟨by have := dN.out; omega⟩, ⟨zR aM.out⟩, ⟨zR (Kd.R_mono aK.out (fun _ hk => trivial))⟩, ⟨zK aC.out⟩, ⟨zG2 aJ.out aV.out⟩⟩
     exact absurd H (by simp)
    exact absurd H (by simp)
   exact absurd H (by simp)
  exact absurd H (by simp)
 obtain rfl := Option.some.inj H
 go_wp2
 go_ret
 exact ⟨bD, zE, zR aM.out, zG aJ.out⟩
mutual
def Q9.l0 : Nat → Int → List (S91) → List (S99) → Int → Int → Option ((List (S91)))
 | 0, _, _, _, _, _ => none
 | k + 1, x0, x3, x8, x9, aA => if aA < x9 then (if 0 ≤ aA then (if aA < (x8.length : Int) then (Q9.l1 k x0 x3 (wrap64 (((Qu x8 aA).f2) + 1)) x8 x9 aA ((Qu x8 aA).f0) ((Qu x8 aA).f1) ((Qu x8 aA).f2)) else (none)) else (none)) else (some x3)
def Q9.l1 : Nat → Int → List (S91) → Int → List (S99) → Int → Int → Int → Int → Int → Option ((List (S91)))
 | 0, _, _, _, _, _, _, _, _, _ => none
 | k + 1, x0, x3, x6, x8, x9, aG, aA, aC, aD => if x6 < x0 then (if x3.length < 4398046511104 then (Q9.l1 k x0 (x3 ++ [(⟨aA, aC, aD, x6⟩ : S91)]) (wrap64 (x6 + 1)) x8 x9 aG aA aC aD) else (none)) else (Q9.l0 k x0 x3 x8 x9 (wrap64 (aG + 1)))
end
def Q9.f (k : Nat) (a0 : Int) : Option ((List (S91))) := (Qk.f k a0).bind fun aA => (Q9.l0 k a0 ([] : List (S91)) aA (aA.length : Int) 0)
theorem Q9.mono_l : ∀ k, (∀ y0 y1 y2 y3 y4, LeO (Q9.l0 k y0 y1 y2 y3 y4) (Q9.l0 (k + 1) y0 y1 y2 y3 y4)) ∧ (∀ y0 y1 y2 y3 y4 y5 y6 y7 y8, LeO (Q9.l1 k y0 y1 y2 y3 y4 y5 y6 y7 y8) (Q9.l1 (k + 1) y0 y1 y2 y3 y4 y5 y6 y7 y8))
 | 0 => ⟨fun _ _ _ _ _ r h => by simp [Q9.l0] at h, fun _ _ _ _ _ _ _ _ _ r h => by simp [Q9.l1] at h⟩
 | k + 1 => by
  obtain ⟨aA, ih1⟩ := Q9.mono_l k
  refine ⟨?_, ?_⟩ <;> intros <;> (first | unfold Q9.l0 | unfold Q9.l1) <;> repeat' first
  | (with_reducible first | exact aA .. | exact ih1 .. | exact Qk.mono .. | exact LeO.refl _ | exact LeO.none _ | refine LeO.ite ?_ ?_ | refine LeO.bind ?_ (fun _ => ?_))
  | exact aA .. | exact ih1 .. | exact Qk.mono .. | exact LeO.none _ | refine LeO.ite ?_ ?_ | refine LeO.bind ?_ (fun _ => ?_)
theorem Q9.mono : ∀ a0 k, LeO (Q9.f k a0) (Q9.f (k + 1) a0) := by
 intro a0 k
 obtain ⟨aA, ih1⟩ := Q9.mono_l k
 unfold Q9.f
 repeat' first
   | (with_reducible first | exact aA .. | exact ih1 .. | exact Qk.mono .. | exact LeO.refl _ | exact LeO.none _ | refine LeO.ite ?_ ?_ | refine LeO.bind ?_ (fun _ => ?_))
   | exact aA .. | exact ih1 .. | exact Qk.mono .. | exact LeO.none _ | refine LeO.ite ?_ ?_ | refine LeO.bind ?_ (fun _ => ?_)
set_option maxHeartbeats 8000000 in
set_option maxRecDepth 100000 in
theorem Q9.calls (k : Nat) (a0 : Int) (r : List (S91)) (w : World) (h : Q9.f k a0 = some r) :
  Calls Try.prog 110 #[.int .i64 a0] w fun e w' => ∃ bW : Value, e = .returned (bW) ∧ Kd.R k91 91 w' w.heap.size (fun _ => True) bW r ∧ Below w.heap.size w w' := by
 have bZ := Try.underlying99
 have cB := Try.underlying91
 have HB := Qa.mk (Below.refl w.heap.size w)
 have H := h
 unfold Q9.f at H
 clear h
 obtain ⟨aC, A2, H⟩ := zO H
 have H' := Qa.mk H; clear H
 go_enter Try.func110, Try.ntmps110
 go_wp2_with (first | ((with_reducible refine Qb (f := 118) rfl ?_); refine zD (some 8) Try.func118 _ ((Qk.calls k a0 aC _ A2.out).mono ?_); rintro e w3 ⟨cK, rfl, ho0, hb⟩; refine ⟨_, rfl, ?_⟩; have aX := Qa.mk (Kd.R_lower ho0 (Ql zB)); replace HB := zX hb; (try clear hb); (try clear ho0); obtain ⟨cO, bX, cZ⟩ := Kd.R_slice aX.out; subst cZ))
 go_loopg [3, 10] k (fun kq v3 v10 w' => ∃ (aN : List (S91)) (aA : Int), v10 = .int .i64 aA ∧ Qa (Q9.l0 kq a0 aN aC (aC.length : Int) aA = some r) ∧ Qa (kq ≤ k) ∧ Qa (Kd.R k91 91 w' w.heap.size (fun _ => True) v3 aN) ∧ Qa (Kd.R k99 99 w' w.heap.size (fun _ => True) (.slice cO aC.length bX) aC) ∧ Qa (Below w.heap.size w w'))
 case atStart => exact ⟨(([] : List (S91))), (0), zF, H', ⟨Nat.le_refl _⟩, ⟨by first | exact Kd.R_nil _ _ _ _ _ | exact Kd.N_nil _ _ _ _ _ | exact Kd.V_nil _ _ _ _ _ | exact Kd.Q_nil _ _ _ _ _ | exact Kd.S_nil _ _ _ _ _⟩, ⟨zR aX.out⟩, ⟨zB⟩⟩
 case round =>
 clear H'
 obtain ⟨aN, aA, rfl, HA, bL, aH, aI, HB⟩ := hrel
 cases gk with
 | zero => exact absurd HA.out (by simp [Q9.l0])
 | succ k1 =>
 have H := HA.out
 clear HA
 simp only [Q9.l0] at H
 replace H := Z5 H
 rcases H with ⟨bF, H⟩ | ⟨bF, H⟩
 ·replace H := Zq H
  rcases H with ⟨bT, H⟩ | ⟨c6, H⟩
  ·replace H := Zq H
   rcases H with ⟨bU, H⟩ | ⟨c7, H⟩
   ·have H' := Qa.mk H; clear H
    have aQ : 0 ≤ (aA : Int) := zA
    have aT : aA < (aC.length : Int) := zA
    obtain ⟨bG, e272, aU, aV, aW⟩ := jDl (Kd.R_reads' aI.out).2.2 aA aQ aT
    cases e272
    replace aQ := eq_true aQ
    replace aT := eq_true aT
    go_wp2_with (first | ((with_reducible refine Qf (N := 5) rfl ?_); refine zBx (N := 5) #[.int .i64 0, .int .i64 0, .int .i64 0] 99 ?_; intro aD hg w8 hbox hb; replace aH := zW aH.out hb; replace aI := Qa.mk (Kd.R_below (Kd.R_elderB (zR aI.out) aD (Nat.le_of_eq hg.symm)) hb); have aG := Qa.mk (hbox); have bY := zS hg; have aJ := zS hg; replace HB := zX hb; clear hb hbox hg; obtain ⟨aZ, bA, bB, bC, bD, bE⟩ := zq3 aG.out))
    go_loopg [3, 6] k1 (fun kq v3 v6 w' => ∃ (aM : List (S91)) (aK : Int), v6 = .int .i64 aK ∧ Qa (Q9.l1 kq a0 aM aK aC (aC.length : Int) aA ((Qu aC aA).f0) ((Qu aC aA).f1) ((Qu aC aA).f2) = some r) ∧ Qa (kq ≤ k1) ∧ Qa (Kd.R k91 91 w' w.heap.size (fun _ => True) v3 aM) ∧ Qa (Kd.R k99 99 w' w.heap.size (fun k_ => k_ ≠ aD) (.slice (some bG) aC.length bX) aC) ∧ Qa (w'.heap[aD]? = some (.cells #[.int .i64 ((Qu aC aA).f0), .int .i64 ((Qu aC aA).f1), .int .i64 ((Qu aC aA).f2)] 99 (0, 0))) ∧ Qa (Below w.heap.size w w'))
    case atStart => exact ⟨(aN), (wrap64 (((Qu aC aA).f2) + 1)), zF, H', ⟨Nat.le_refl _⟩, ⟨by (with_reducible repeat (first | apply Kd.R_alloc | apply Kd.R_drewN | apply Kd.R_drew)); exact Kd.R_mono (Kd.R_far (p := ⟨aD, 2, none⟩) (Kd.R_far (p := ⟨aD, 1, none⟩) (Kd.R_far (p := ⟨aD, 0, none⟩) (Kd.R_types aH.out aG.out (by decide)) (fun _ hk => hk.2) (.int .i64 ((Qu aC aA).f0))) (fun _ hk => hk.2) (.int .i64 ((Qu aC aA).f1))) (fun _ hk => hk.2) (.int .i64 ((Qu aC aA).f2))) (fun _ hk => trivial)⟩, ⟨by (with_reducible repeat (first | apply Kd.R_alloc | apply Kd.R_drewN | apply Kd.R_drew)); exact Kd.R_mono (Kd.R_far (p := ⟨aD, 2, none⟩) (Kd.R_far (p := ⟨aD, 1, none⟩) (Kd.R_far (p := ⟨aD, 0, none⟩) (Kd.R_mono aI.out (fun k_ hk => (⟨hk, hk.2⟩ : _ ∧ k_ ≠ aD))) (fun _ hk => hk.2) (.int .i64 ((Qu aC aA).f0))) (fun _ hk => hk.2) (.int .i64 ((Qu aC aA).f1))) (fun _ hk => hk.2) (.int .i64 ((Qu aC aA).f2))) (fun _ hk => hk.1.2)⟩, ⟨zk0 aG.out⟩, ⟨zG aJ.out⟩⟩
    case round =>
    clear H'
    try clear c5
    try clear bF
    try clear c6
    try clear bT
    try clear c7
    try clear bU
    try clear aZ
    try clear bA
    try clear bB
    try clear bC
    try clear bD
    try clear bE
    try clear aU
    try clear aV
    try clear aW
    try clear aQ
    try clear aT
    obtain ⟨aM, aK, rfl, HA, bM, aH, aI, aG, HB⟩ := hrel
    cases gk with
    | zero => exact absurd HA.out (by simp [Q9.l1])
    | succ k2 =>
    have H := HA.out
    clear HA
    simp only [Q9.l1] at H
    replace H := Z5 H
    rcases H with ⟨bH, H⟩ | ⟨bH, H⟩
    ·replace H := Vt H
     rcases H with ⟨c11, H⟩ | ⟨c11, H⟩
     ·have bI := Qa.mk c11
      clear c11
      generalize aY : (aM ++ [(⟨((Qu aC aA).f0), ((Qu aC aA).f1), ((Qu aC aA).f2), aK⟩ : S91)] : List (S91)) = bV at H
      have bJ := Qa.mk aY.symm
      clear aY
      have H' := Qa.mk H; clear H
      obtain ⟨bN, bO, bP, bQ, bR, bS⟩ := zq3 aG.out
      go_wp2_with (first | ((with_reducible refine Z9 (b := .append) (xs := #[.tmp 22, .tmp 31]) rfl ?_); at_builtin; refine Kd.R_append k91 (w0 := w) w.heap.size rfl (.tmp 22) (.tmp 31) 89 91 (.agg #[(.int .i64 0), (.int .i64 0), (.int .i64 0), (.int .i64 0)]) 32 rfl Try.underlying89 jQg rfl (by decide) (by omega) u3 aM (⟨((Qu aC aA).f0), ((Qu aC aA).f1), ((Qu aC aA).f2), aK⟩ : S91) [.int .i64 ((Qu aC aA).f0), .int .i64 ((Qu aC aA).f1), .int .i64 ((Qu aC aA).f2), .int .i64 aK] (fun _ => True) (fun _ => False) rfl rfl ?aP (fun _ hk => hk.elim) ?aF ?aO ?aB ?aS ?aL ?_; (case aP => exact jO3 _ _ _ (⟨((Qu aC aA).f0), ((Qu aC aA).f1), ((Qu aC aA).f2), aK⟩ : S91)); (case aB => exact (zG aJ.out)); (case aF => exact (fun _ _ => trivial)); (case aO => exact (zR aH.out)); (case aS => exact (Ql (zG aJ.out))); (case aL => have := bI.out; omega); intro dA dB ho hb hg hat; rw [← bJ.out] at ho; replace aI := Qa.mk (Kd.R_over' (zR aI.out) (Kd.R_typed (zR aH.out)) (by decide) hg); replace aG := Qa.mk (Yh (g := aD) (o := .cells #[.int .i64 ((Qu aC aA).f0), .int .i64 ((Qu aC aA).f1), .int .i64 ((Qu aC aA).f2)] 99 (0, 0)) (zK aG.out) hg (Kd.R_ne aH.out aG.out (by decide))); have bK := Qa.mk (ho); replace HB := Qa.mk (hb); clear aH; clear ho hb hg hat))
      go_roundg k2
      case measure => have := bL.out; have := bM.out; omega
      case rel => exact ⟨(bV), (wrap64 (aK + 1)), zF, H', ⟨by have := bL.out; have := bM.out; omega⟩, ⟨zR bK.out⟩, ⟨zR aI.out⟩, ⟨zK aG.out⟩, ⟨zG aJ.out⟩⟩
     exact absurd H (by simp)
    have H' := Qa.mk H; clear H
    go_wp2
    go_roundg k2
    case measure => have := bL.out; have := bM.out; omega
    case rel => exact ⟨(aM), (wrap64 (aA + 1)), zF, H', ⟨by have := bL.out; have := bM.out; omega⟩, ⟨zR aH.out⟩, ⟨zR (Kd.R_mono aI.out (fun _ hk => trivial))⟩, ⟨zG aJ.out⟩⟩
   exact absurd H (by simp)
  exact absurd H (by simp)
 obtain rfl := Option.some.inj H
 go_wp2
 go_ret
 exact ⟨_, zE, zR aH.out, zB⟩
def Ye.f (l0 : List Int) (a1 : Int) (a2 : Int) (a3 : Int) (a4 : Int) (a5 : Int) : Option (Bool) := if 0 ≤ a1 then (if a1 < 7 then (if 0 ≤ a2 then (if a2 < 7 then (if 0 ≤ a3 then (if a3 < 7 then (if 0 ≤ a4 then (if a4 < 7 then (if 0 ≤ a5 then (if a5 < 7 then (if (wrap64 ((rd3 l0 a1 a2 a3) * (rd3 l0 a1 a4 a5))) = (wrap64 ((rd3 l0 a1 a2 a5) * (rd3 l0 a1 a3 a4))) then (some ((wrap64 ((rd3 l0 a1 a2 a5) * (rd3 l0 a1 a3 a4))) == (wrap64 ((wrap64 (-(rd3 l0 a1 a2 a4))) * (rd3 l0 a1 a3 a5))))) else (some false)) else (none)) else (none)) else (none)) else (none)) else (none)) else (none)) else (none)) else (none)) else (none)) else (none)
set_option maxHeartbeats 8000000 in
set_option maxRecDepth 100000 in
theorem Ye.calls (g0 : Nat) (l0 : List Int) (a1 : Int) (a2 : Int) (a3 : Int) (a4 : Int) (a5 : Int) (r : Bool) (w : World) (hr0 : Kd.C (Kd.int .i64) w (some ⟨g0, 0, none⟩) l0.length l0) (hc0 : l0.length = 344) (h : Ye.f l0 a1 a2 a3 a4 a5 = some r) :
  Calls Try.prog 143 #[.pointer (some ⟨g0, 0, none⟩), .int .i64 a1, .int .i64 a2, .int .i64 a3, .int .i64 a4, .int .i64 a5] w fun e w' => e = .returned (.bool r) ∧ Qs w w' := by
 have cO := Try.underlying115
 have cZ := Try.underlying113
 have dA := Try.underlying112
 have dB := Try.underlying111
 have aJ := Qa.mk hr0
 have aK := Qa.mk hc0
 clear hr0 hc0
 have H := h
 unfold Ye.f at H
 clear h
 replace H := Zq H
 rcases H with ⟨dJ, H⟩ | ⟨c7, H⟩
 ·replace H := Zq H
  rcases H with ⟨dK, H⟩ | ⟨c8, H⟩
  ·replace H := Zq H
   rcases H with ⟨dL, H⟩ | ⟨c9, H⟩
   ·replace H := Zq H
    rcases H with ⟨dC, H⟩ | ⟨c10, H⟩
    ·replace H := Zq H
     rcases H with ⟨dD, H⟩ | ⟨c11, H⟩
     ·replace H := Zq H
      rcases H with ⟨dE, H⟩ | ⟨c12, H⟩
      ·replace H := Zq H
       rcases H with ⟨dF, H⟩ | ⟨c13, H⟩
       ·replace H := Zq H
        rcases H with ⟨dG, H⟩ | ⟨c14, H⟩
        ·replace H := Zq H
         rcases H with ⟨dH, H⟩ | ⟨c15, H⟩
         ·replace H := Zq H
          rcases H with ⟨dI, H⟩ | ⟨c16, H⟩
          ·replace H := Zi H
           rcases H with ⟨cB, cK, H⟩ | ⟨c17, cB, cK, H⟩
           ·obtain rfl := Option.some.inj H
            obtain ⟨aM, aN, aQ, aT, aU, aV, aA⟩ := zC3 a1 a2 a3 aJ.out aK.out
            change _ = some (Value.int .i64 (rd3 l0 a1 a2 a3)) at aA
            obtain ⟨aW, aX, aY, aZ, bA, bB, aC⟩ := zC3 a1 a4 a5 aJ.out aK.out
            change _ = some (Value.int .i64 (rd3 l0 a1 a4 a5)) at aC
            obtain ⟨bC, bD, bE, bF, bG, bH, aD⟩ := zC3 a1 a2 a5 aJ.out aK.out
            change _ = some (Value.int .i64 (rd3 l0 a1 a2 a5)) at aD
            obtain ⟨bI, bJ, bK, bL, bM, bN, aG⟩ := zC3 a1 a3 a4 aJ.out aK.out
            change _ = some (Value.int .i64 (rd3 l0 a1 a3 a4)) at aG
            obtain ⟨bO, bP, bQ, bR, bS, bT, aH⟩ := zC3 a1 a2 a4 aJ.out aK.out
            change _ = some (Value.int .i64 (rd3 l0 a1 a2 a4)) at aH
            obtain ⟨bU, bV, bW, bX, bY, bZ, aI⟩ := zC3 a1 a3 a5 aJ.out aK.out
            change _ = some (Value.int .i64 (rd3 l0 a1 a3 a5)) at aI
            go_enter Try.func143, Try.ntmps143
            go_wp2
            repeat (go_quiet (fail); try go_wp2)
            go_ret
            exact ⟨by first | rfl | (simp; done) | (simp [*]; done), by repeat (first | exact Qs.refl _ | apply Qs.step)⟩
           obtain rfl := Option.some.inj H
           obtain ⟨aM, aN, aQ, aT, aU, aV, aA⟩ := zC3 a1 a2 a3 aJ.out aK.out
           change _ = some (Value.int .i64 (rd3 l0 a1 a2 a3)) at aA
           obtain ⟨aW, aX, aY, aZ, bA, bB, aC⟩ := zC3 a1 a4 a5 aJ.out aK.out
           change _ = some (Value.int .i64 (rd3 l0 a1 a4 a5)) at aC
           obtain ⟨bC, bD, bE, bF, bG, bH, aD⟩ := zC3 a1 a2 a5 aJ.out aK.out
           change _ = some (Value.int .i64 (rd3 l0 a1 a2 a5)) at aD
           obtain ⟨bI, bJ, bK, bL, bM, bN, aG⟩ := zC3 a1 a3 a4 aJ.out aK.out
           change _ = some (Value.int .i64 (rd3 l0 a1 a3 a4)) at aG
           obtain ⟨bO, bP, bQ, bR, bS, bT, aH⟩ := zC3 a1 a2 a4 aJ.out aK.out
           change _ = some (Value.int .i64 (rd3 l0 a1 a2 a4)) at aH
           obtain ⟨bU, bV, bW, bX, bY, bZ, aI⟩ := zC3 a1 a3 a5 aJ.out aK.out
           change _ = some (Value.int .i64 (rd3 l0 a1 a3 a5)) at aI
           go_enter Try.func143, Try.ntmps143
           go_wp2
           repeat (go_quiet (fail); try go_wp2)
           go_ret
           exact ⟨by first | rfl | (simp; done) | (simp [*]; done), by repeat (first | exact Qs.refl _ | apply Qs.step)⟩
          exact absurd H (by simp)
         exact absurd H (by simp)
        exact absurd H (by simp)
       exact absurd H (by simp)
      exact absurd H (by simp)
     exact absurd H (by simp)
    exact absurd H (by simp)
   exact absurd H (by simp)
  exact absurd H (by simp)
 exact absurd H (by simp)
mutual
def Qx.l0 : Nat → List Int → Int → Option (List Int)
 | 0, _, _ => none
 | k + 1, x0, x3 => if x3 < (rd x0 0) then ((Q9.f k (rd x0 0)).bind fun aA => (Qx.l1 k x0 x3 aA (aA.length : Int) 0)) else (some ([] : List Int))
def Qx.l1 : Nat → List Int → Int → List (S91) → Int → Int → Option (List Int)
 | 0, _, _, _, _, _ => none
 | k + 1, x0, x3, aA, aC, x20 => if x20 < aC then (if 0 ≤ x20 then (if x20 < (aA.length : Int) then (if ((Qj aA x20).f0) = x3 then (Qx.l1 k x0 x3 aA aC (wrap64 (x20 + 1))) else (if ((Qj aA x20).f1) = x3 then (Qx.l1 k x0 x3 aA aC (wrap64 (x20 + 1))) else (if ((Qj aA x20).f2) = x3 then (Qx.l1 k x0 x3 aA aC (wrap64 (x20 + 1))) else (if ((Qj aA x20).f3) = x3 then (Qx.l1 k x0 x3 aA aC (wrap64 (x20 + 1))) else ((Ye.f x0 x3 ((Qj aA x20).f0) ((Qj aA x20).f1) ((Qj aA x20).f2) ((Qj aA x20).f3)).bind fun aD => (if aD = true then (some (([x3, (Qj aA x20).f0, (Qj aA x20).f1, (Qj aA x20).f2, (Qj aA x20).f3] : List Int))) else (Qx.l1 k x0 x3 aA aC (wrap64 (x20 + 1))))))))) else (none)) else (none)) else (Qx.l0 k x0 (wrap64 (x3 + 1)))
end
def Qx.f (k : Nat) (l0 : List Int) : Option (List Int) := Qx.l0 k l0 0
def Y3.f (k : Nat) (aA : Int) (aC : ByteArray) : Option (List Int) := (Jl.f k aA aC).bind fun aG => (if aG = true then ((Zy.f k aA aC).bind fun aD => (if aD.length = 344 then ((Qx.f k aD).bind fun aH => (some aH)) else (none))) else (some ([] : List Int)))
end Go.Proofs.Ytckkfjdkaimmhaa.PX
namespace Go.Proofs.Ytckkfjdkaimmhaa.PX
open Go.RowKit Go.Proofs.Ytckkfjdkaimmhaa.G Go.Proofs.YtckkfjdkaimmhaaW.PrintWords Go.Proofs.YtckkfjdkaimmhaaW.PrintLast Go.Proofs.YtckkfjdkaimmhaaW.PrintMore
attribute [local go_sem] max2_int min2_int Yd Yg Xh Xf Xq Xp   -- for this text's walks alone
set_option linter.unusedVariables false
set_option linter.unusedSimpArgs false
set_option maxHeartbeats 8000000 in
set_option maxRecDepth 100000 in
theorem Qx.callsN (k : Nat) (g0 : Nat) (l0 : List Int) (r : List Int) (w : World) (hr0 : Kd.C (Kd.int .i64) w (some ⟨g0, 0, none⟩) l0.length l0) (hc0 : l0.length = 344) (h : Qx.f k l0 = some r) :
  Calls Try.prog 84 #[.pointer (some ⟨g0, 0, none⟩)] w fun e w' => ∃ fJ : Value, e = .returned (fJ) ∧ (Kd.R (Kd.int .i64) 3 w' w.heap.size (fun _ => True) fJ r ∧ (r = [] → fJ = .slice none 0 0)) ∧ Below w.heap.size w w' := by
 have gB := Try.underlying91
 have fU := Try.underlying115
 have bO := Qa.mk hr0
 have bP := Qa.mk hc0
 clear hr0 hc0
 have HB := Qa.mk (Below.refl w.heap.size w)
 have H : (Qx.l0 k l0 0) = some r := h
 clear h
 have H' := Qa.mk H; clear H
 go_enter Try.func84, Try.ntmps84
 go_wp2
 go_loopg [3] k (fun kq v3 w' => ∃ (aQ : Int), v3 = .int .i64 aQ ∧ Qa (Qx.l0 kq l0 aQ = some r) ∧ Qa (kq ≤ k) ∧ Qa (Below w.heap.size w w'))
 case atStart => exact ⟨(0), zF, H', ⟨Nat.le_refl _⟩, ⟨zB⟩⟩
 case round =>
 clear H'
 obtain ⟨aQ, rfl, HA, bC, HB⟩ := hrel
 cases gk with
 | zero => exact absurd HA.out (by simp [Qx.l0])
 | succ k1 =>
 have H := HA.out
 clear HA
 simp only [Qx.l0] at H
 by_cases c2 : aQ < (rd l0 0)
 ·rw [if_pos c2] at H
  have bQ := decide_eq_true c2
  clear c2
  obtain ⟨aC, A3, H⟩ := zO H
  have H' := Qa.mk H; clear H
  have bE := bP.out
  have bF : decide (0 < (l0.length : Int)) = true := decide_eq_true (by omega)
  clear bE
  have aX : 0 ≤ (0 : Int) := (by omega)
  have aY : 0 < (l0.length : Int) := zA
  obtain ⟨bG, e283, aG⟩ := Kd.at_int bO.out 0 aX aY
  obtain rfl : (⟨g0, 0, none⟩ : Addr) = bG := (by injection e283)
  (first | simp only [add_plain] at aG | simp only [jBs] at aG | simp only [Addr.add, Nat.zero_add] at aG | skip)
  have bR : (0 < l0.length) = True := eq_true (by omega)
  (try rw [show ((0 : Int)).toNat = 0 from rfl] at aG)
  (try rw [Addr.add_zero'] at aG)
  replace aG := (HB.out.cell (World.block_lt_of_cell? w _ aG)).trans aG
  replace aX := eq_true aX
  replace aY := eq_true aY
  clear bF
  have bS := bP.out
  have bT : decide (0 < (l0.length : Int)) = true := decide_eq_true (by omega)
  clear bS
  have bL : 0 ≤ (0 : Int) := (by omega)
  have bM : 0 < (l0.length : Int) := zA
  obtain ⟨bU, e284, aI⟩ := Kd.at_int bO.out 0 bL bM
  obtain rfl : (⟨g0, 0, none⟩ : Addr) = bU := (by injection e284)
  (first | simp only [add_plain] at aI | simp only [jBs] at aI | simp only [Addr.add, Nat.zero_add] at aI | skip)
  have fV : (0 < l0.length) = True := eq_true (by omega)
  (try rw [show ((0 : Int)).toNat = 0 from rfl] at aI)
  (try rw [Addr.add_zero'] at aI)
  replace aI := (HB.out.cell (World.block_lt_of_cell? w _ aI)).trans aI
  replace bL := eq_true bL
  replace bM := eq_true bM
  clear bT
  go_wp2_with (first | ((with_reducible refine Qb (f := 110) rfl ?_); refine zD (some 18) Try.func110 #[.int .i64 (rd l0 0)] ?_; (with_reducible refine (Q9.calls k1 (rd l0 0) aC _ A3.out).mono ?_); rintro e w4 ⟨gD, rfl, ho0, hb⟩; refine ⟨_, rfl, ?_⟩; have bN := Qa.mk (Kd.R_lower ho0 (Ql zB)); replace HB := zX hb; (try clear hb); (try clear ho0); obtain ⟨gF, gG, gH⟩ := Kd.R_slice bN.out; subst gH))
  go_loopg [20] k1 (fun kq v20 w' => ∃ (aA : Int), v20 = .int .i64 aA ∧ Qa (Qx.l1 kq l0 aQ aC (aC.length : Int) aA = some r) ∧ Qa (kq ≤ k1) ∧ Qa (Kd.R k91 91 w' w.heap.size (fun _ => True) (.slice gF aC.length gG) aC) ∧ Qa (Below w.heap.size w w'))
  case atStart => exact ⟨(0), zF, H', ⟨Nat.le_refl _⟩, ⟨zR bN.out⟩, ⟨zB⟩⟩
  case round =>
  clear H'
  try clear c2
  try clear bQ
  try clear aG
  try clear aI
  try clear aX
  try clear bL
  try clear aY
  try clear bM
  obtain ⟨aA, rfl, HA, bD, aH, HB⟩ := hrel
  cases gk with
  | zero => exact absurd HA.out (by simp [Qx.l1])
  | succ k2 =>
  have H := HA.out
  clear HA
  simp only [Qx.l1] at H
  by_cases c6 : aA < (aC.length : Int)
  ·rw [if_pos c6] at H
   have fK := decide_eq_true c6
   clear c6
   by_cases c7 : 0 ≤ aA
   ·rw [if_pos c7] at H
    have gJ := decide_eq_true c7
    clear c7
    by_cases c8 : aA < (aC.length : Int)
    ·rw [if_pos c8] at H
     have gK := decide_eq_true c8
     clear c8
     by_cases c9 : ((Qj aC aA).f0) = aQ
     ·rw [if_pos c9] at H
      have fM := beq_iff_eq.mpr c9
      have fO := bne_eq_false_iff_eq.mpr c9
      clear c9
      have H' := Qa.mk H; clear H
      have aJ : 0 ≤ (aA : Int) := zA
      have aK : aA < (aC.length : Int) := zA
      obtain ⟨aZ, e288, aT, aU, aV, aW⟩ := Kq (Kd.R_reads' aH.out).2.2 aA aJ aK
      cases e288
      replace aJ := eq_true aJ
      replace aK := eq_true aK
      go_wp2_with (first | ((with_reducible refine Qf (N := 5) rfl ?_); refine zBx (N := 5) #[.int .i64 0, .int .i64 0, .int .i64 0, .int .i64 0] 91 ?_; intro aD hg gM hbox hb; replace aH := Qa.mk (Kd.R_below (Kd.R_elderB (zR aH.out) aD (Nat.le_of_eq hg.symm)) hb); have aN := Qa.mk (hbox); have bA := zS hg; have aM := zS hg; replace HB := zX hb; clear hb hbox hg; obtain ⟨cO, cZ, dA, dB, dC, dD, dE, dF⟩ := zq4 aN.out))
      go_roundg k2
      case measure => have := bC.out; have := bD.out; omega
      case rel => exact ⟨(wrap64 (aA + 1)), zF, H', ⟨by have := bC.out; have := bD.out; omega⟩, ⟨by (with_reducible repeat (first | apply Kd.R_alloc | apply Kd.R_drewN | apply Kd.R_drew)); exact Kd.R_mono (Kd.R_far (p := ⟨aD, 3, none⟩) (Kd.R_far (p := ⟨aD, 2, none⟩) (Kd.R_far (p := ⟨aD, 1, none⟩) (Kd.R_far (p := ⟨aD, 0, none⟩) (Kd.R_mono aH.out (fun k_ hk => (⟨hk, hk.2⟩ : _ ∧ k_ ≠ aD))) (fun _ hk => hk.2) (.int .i64 ((Qj aC aA).f0))) (fun _ hk => hk.2) (.int .i64 ((Qj aC aA).f1))) (fun _ hk => hk.2) (.int .i64 ((Qj aC aA).f2))) (fun _ hk => hk.2) (.int .i64 ((Qj aC aA).f3))) (fun _ hk => trivial)⟩, ⟨zG aM.out⟩⟩
     rw [if_neg c9] at H
     have fM := beq_eq_false_iff_ne.mpr c9
     have fO := bne_iff_ne.mpr c9
     by_cases c12 : ((Qj aC aA).f1) = aQ
     ·rw [if_pos c12] at H
      have bV := beq_iff_eq.mpr c12
      have bW := bne_eq_false_iff_eq.mpr c12
      clear c12
      have H' := Qa.mk H; clear H
      have aJ : 0 ≤ (aA : Int) := zA
      have aK : aA < (aC.length : Int) := zA
      obtain ⟨aZ, e288, aT, aU, aV, aW⟩ := Kq (Kd.R_reads' aH.out).2.2 aA aJ aK
      cases e288
      replace aJ := eq_true aJ
      replace aK := eq_true aK
      go_wp2_with (first | ((with_reducible refine Qf (N := 5) rfl ?_); refine zBx (N := 5) #[.int .i64 0, .int .i64 0, .int .i64 0, .int .i64 0] 91 ?_; intro aD hg gN hbox hb; replace aH := Qa.mk (Kd.R_below (Kd.R_elderB (zR aH.out) aD (Nat.le_of_eq hg.symm)) hb); have aN := Qa.mk (hbox); have bA := zS hg; have aM := zS hg; replace HB := zX hb; clear hb hbox hg; obtain ⟨dG, dH, dI, dJ, dK, dL, dM, dN⟩ := zq4 aN.out))
      go_roundg k2
      case measure => have := bC.out; have := bD.out; omega
      case rel => exact ⟨(wrap64 (aA + 1)), zF, H', ⟨by have := bC.out; have := bD.out; omega⟩, ⟨by (with_reducible repeat (first | apply Kd.R_alloc | apply Kd.R_drewN | apply Kd.R_drew)); exact Kd.R_mono (Kd.R_far (p := ⟨aD, 3, none⟩) (Kd.R_far (p := ⟨aD, 2, none⟩) (Kd.R_far (p := ⟨aD, 1, none⟩) (Kd.R_far (p := ⟨aD, 0, none⟩) (Kd.R_mono aH.out (fun k_ hk => (⟨hk, hk.2⟩ : _ ∧ k_ ≠ aD))) (fun _ hk => hk.2) (.int .i64 ((Qj aC aA).f0))) (fun _ hk => hk.2) (.int .i64 ((Qj aC aA).f1))) (fun _ hk => hk.2) (.int .i64 ((Qj aC aA).f2))) (fun _ hk => hk.2) (.int .i64 ((Qj aC aA).f3))) (fun _ hk => trivial)⟩, ⟨zG aM.out⟩⟩
     rw [if_neg c12] at H
     have bV := beq_eq_false_iff_ne.mpr c12
     have bW := bne_iff_ne.mpr c12
     by_cases c15 : ((Qj aC aA).f2) = aQ
     ·rw [if_pos c15] at H
      have bX := beq_iff_eq.mpr c15
      have bY := bne_eq_false_iff_eq.mpr c15
      clear c15
      have H' := Qa.mk H; clear H
      have aJ : 0 ≤ (aA : Int) := zA
      have aK : aA < (aC.length : Int) := zA
      obtain ⟨aZ, e288, aT, aU, aV, aW⟩ := Kq (Kd.R_reads' aH.out).2.2 aA aJ aK
      cases e288
      replace aJ := eq_true aJ
      replace aK := eq_true aK
      go_wp2_with (first | ((with_reducible refine Qf (N := 5) rfl ?_); refine zBx (N := 5) #[.int .i64 0, .int .i64 0, .int .i64 0, .int .i64 0] 91 ?_; intro aD hg w16 hbox hb; replace aH := Qa.mk (Kd.R_below (Kd.R_elderB (zR aH.out) aD (Nat.le_of_eq hg.symm)) hb); have aN := Qa.mk (hbox); have bA := zS hg; have aM := zS hg; replace HB := zX hb; clear hb hbox hg; obtain ⟨dO, dP, dQ, dR, dS, dU, dV, dW⟩ := zq4 aN.out))
      go_roundg k2
      case measure => have := bC.out; have := bD.out; omega
      case rel => exact ⟨(wrap64 (aA + 1)), zF, H', ⟨by have := bC.out; have := bD.out; omega⟩, ⟨by (with_reducible repeat (first | apply Kd.R_alloc | apply Kd.R_drewN | apply Kd.R_drew)); exact Kd.R_mono (Kd.R_far (p := ⟨aD, 3, none⟩) (Kd.R_far (p := ⟨aD, 2, none⟩) (Kd.R_far (p := ⟨aD, 1, none⟩) (Kd.R_far (p := ⟨aD, 0, none⟩) (Kd.R_mono aH.out (fun k_ hk => (⟨hk, hk.2⟩ : _ ∧ k_ ≠ aD))) (fun _ hk => hk.2) (.int .i64 ((Qj aC aA).f0))) (fun _ hk => hk.2) (.int .i64 ((Qj aC aA).f1))) (fun _ hk => hk.2) (.int .i64 ((Qj aC aA).f2))) (fun _ hk => hk.2) (.int .i64 ((Qj aC aA).f3))) (fun _ hk => trivial)⟩, ⟨zG aM.out⟩⟩
     rw [if_neg c15] at H
     have bX := beq_eq_false_iff_ne.mpr c15
     have bY := bne_iff_ne.mpr c15
     by_cases c18 : ((Qj aC aA).f3) = aQ
     ·rw [if_pos c18] at H
      have bZ := beq_iff_eq.mpr c18
      have cB := bne_eq_false_iff_eq.mpr c18
      clear c18
      have H' := Qa.mk H; clear H
      have aJ : 0 ≤ (aA : Int) := zA
      have aK : aA < (aC.length : Int) := zA
      obtain ⟨aZ, e288, aT, aU, aV, aW⟩ := Kq (Kd.R_reads' aH.out).2.2 aA aJ aK
      cases e288
      replace aJ := eq_true aJ
      replace aK := eq_true aK
      go_wp2_with (first | ((with_reducible refine Qf (N := 5) rfl ?_); refine zBx (N := 5) #[.int .i64 0, .int .i64 0, .int .i64 0, .int .i64 0] 91 ?_; intro aD hg gP hbox hb; replace aH := Qa.mk (Kd.R_below (Kd.R_elderB (zR aH.out) aD (Nat.le_of_eq hg.symm)) hb); have aN := Qa.mk (hbox); have bA := zS hg; have aM := zS hg; replace HB := zX hb; clear hb hbox hg; obtain ⟨dX, dY, dZ, eB, eD, eF, eG, eH⟩ := zq4 aN.out))
      go_roundg k2
      case measure => have := bC.out; have := bD.out; omega
      case rel => exact ⟨(wrap64 (aA + 1)), zF, H', ⟨by have := bC.out; have := bD.out; omega⟩, ⟨by (with_reducible repeat (first | apply Kd.R_alloc | apply Kd.R_drewN | apply Kd.R_drew)); exact Kd.R_mono (Kd.R_far (p := ⟨aD, 3, none⟩) (Kd.R_far (p := ⟨aD, 2, none⟩) (Kd.R_far (p := ⟨aD, 1, none⟩) (Kd.R_far (p := ⟨aD, 0, none⟩) (Kd.R_mono aH.out (fun k_ hk => (⟨hk, hk.2⟩ : _ ∧ k_ ≠ aD))) (fun _ hk => hk.2) (.int .i64 ((Qj aC aA).f0))) (fun _ hk => hk.2) (.int .i64 ((Qj aC aA).f1))) (fun _ hk => hk.2) (.int .i64 ((Qj aC aA).f2))) (fun _ hk => hk.2) (.int .i64 ((Qj aC aA).f3))) (fun _ hk => trivial)⟩, ⟨zG aM.out⟩⟩
     rw [if_neg c18] at H
     have bZ := beq_eq_false_iff_ne.mpr c18
     have cB := bne_iff_ne.mpr c18
     obtain ⟨fP, fZ, H⟩ := zO H
     by_cases eO : fP = true
     ·subst eO
      replace H := (if_pos rfl).symm.trans H
      obtain ⟨fQ, bB⟩ : ∃ y_ : List Int, y_ = (([aQ, (Qj aC aA).f0, (Qj aC aA).f1, (Qj aC aA).f2, (Qj aC aA).f3] : List Int)) := ⟨_, rfl⟩
      replace H : (some fQ) = some r := by first | (rw [bB]; with_reducible exact H) | (have fT := (Option.bind_some _ _).symm.trans H; rw [bB]; with_reducible exact fT) | (have fT := (Option.bind_some _ _).symm.trans H; with_reducible exact fT) | with_reducible exact H | (rw [bB]; exact H) | exact H
      have bH := Qa.mk bB
      clear bB
      obtain rfl := Option.some.inj H
      have aJ : 0 ≤ (aA : Int) := zA
      have aK : aA < (aC.length : Int) := zA
      obtain ⟨aZ, e288, aT, aU, aV, aW⟩ := Kq (Kd.R_reads' aH.out).2.2 aA aJ aK
      cases e288
      replace aJ := eq_true aJ
      replace aK := eq_true aK
      go_wp2_with (first | ((with_reducible refine Qf (N := 5) rfl ?_); refine zBx (N := 5) #[.int .i64 0, .int .i64 0, .int .i64 0, .int .i64 0] 91 ?_; intro aD hg gQ hbox hb; replace aH := Qa.mk (Kd.R_below (Kd.R_elderB (zR aH.out) aD (Nat.le_of_eq hg.symm)) hb); have aN := Qa.mk (hbox); have bA := zS hg; have aM := zS hg; replace HB := zX hb; clear hb hbox hg; obtain ⟨eP, eQ, eT, eU, eX, eY, eZ, fA⟩ := zq4 aN.out) | (go_at_call 143; (with_reducible refine (Ye.calls _ l0 aQ ((Qj aC aA).f0) ((Qj aC aA).f1) ((Qj aC aA).f2) ((Qj aC aA).f3) true _ ?bI ?bJ fZ.out).mono ?_); (case bI => exact Kd.C_below bO.out (zG aM.out)); (case bJ => exact bP.out); rintro e w' ⟨rfl, ⟨nd, rfl⟩⟩) | ((with_reducible refine Qf (N := 68) rfl ?_); refine Kd.R_lit (Kd.int .i64) _ 3 ?hg (N := 68) ?hd (xs := ([aQ, (Qj aC aA).f0, (Qj aC aA).f1, (Qj aC aA).f2, (Qj aC aA).f3] : List Int)) (inner := [.int .i64 aQ, .int .i64 ((Qj aC aA).f0), .int .i64 ((Qj aC aA).f1), .int .i64 ((Qj aC aA).f2), .int .i64 ((Qj aC aA).f3)]) (ok := fun _ => True) (okp := fun _ => True) ?hr ?hp (fun _ hk => hk) trivial (Below.refl _ _) (Nat.le_refl _) (by simp) ?_; (case hd => rfl); (case hg => rfl); (case hr => first | (go_simp; done) | (go_simp; rfl)); (case hp => exact (Xb.one (show Kd.M (Kd.int .i64) _ _ _ aQ [.int .i64 aQ] from rfl) (Xb.one (show Kd.M (Kd.int .i64) _ _ _ ((Qj aC aA).f0) [.int .i64 ((Qj aC aA).f0)] from rfl) (Xb.one (show Kd.M (Kd.int .i64) _ _ _ ((Qj aC aA).f1) [.int .i64 ((Qj aC aA).f1)] from rfl) (Xb.one (show Kd.M (Kd.int .i64) _ _ _ ((Qj aC aA).f2) [.int .i64 ((Qj aC aA).f2)] from rfl) (Xb.one (show Kd.M (Kd.int .i64) _ _ _ ((Qj aC aA).f3) [.int .i64 ((Qj aC aA).f3)] from rfl) (Xb.none _ _))))))); intro gL gT bK hb hg_ hnew_; clear hg_ hnew_; (first | rw [← bH.out] at bK | (simp only [Int.reduceToNat] at bK; rw [← bH.out] at bK)); replace aH := Qa.mk (Kd.R_below (by (with_reducible repeat (first | apply Kd.R_alloc | apply Kd.R_drewN | apply Kd.R_drew)); exact (Kd.R_mono (Kd.R_far (p := ⟨aD, 3, none⟩) (Kd.R_far (p := ⟨aD, 2, none⟩) (Kd.R_far (p := ⟨aD, 1, none⟩) (Kd.R_far (p := ⟨aD, 0, none⟩) (Kd.R_mono aH.out (fun k_ hk => (⟨hk, hk.2⟩ : _ ∧ k_ ≠ aD))) (fun _ hk => hk.2) (.int .i64 ((Qj aC aA).f0))) (fun _ hk => hk.2) (.int .i64 ((Qj aC aA).f1))) (fun _ hk => hk.2) (.int .i64 ((Qj aC aA).f2))) (fun _ hk => hk.2) (.int .i64 ((Qj aC aA).f3))) (fun _ h_ => h_.1))) hb); have cK := Qa.mk (Kd.R_lower bK (Ql (zG aM.out))); replace aN := Qa.mk (Zj (g := aD) (o := .cells #[.int .i64 ((Qj aC aA).f0), .int .i64 ((Qj aC aA).f1), .int .i64 ((Qj aC aA).f2), .int .i64 ((Qj aC aA).f3)] 91 (0, 0)) (zk0 aN.out) hb); replace HB := zX1 aM.out hb; clear hb bK))
      go_ret
      exact ⟨_, zE, ⟨zR cK.out, fun h_ => by rw [bH.out] at h_; simp at h_⟩, zG aM.out⟩
     replace eO := Bool.eq_false_iff.mpr eO
     subst eO
     replace H := (if_neg zFf).symm.trans H
     have H' := Qa.mk H; clear H
     have aJ : 0 ≤ (aA : Int) := zA
     have aK : aA < (aC.length : Int) := zA
     obtain ⟨aZ, e288, aT, aU, aV, aW⟩ := Kq (Kd.R_reads' aH.out).2.2 aA aJ aK
     cases e288
     replace aJ := eq_true aJ
     replace aK := eq_true aK
     go_wp2_with (first | ((with_reducible refine Qf (N := 5) rfl ?_); refine zBx (N := 5) #[.int .i64 0, .int .i64 0, .int .i64 0, .int .i64 0] 91 ?_; intro aD hg gU hbox hb; replace aH := Qa.mk (Kd.R_below (Kd.R_elderB (zR aH.out) aD (Nat.le_of_eq hg.symm)) hb); have aN := Qa.mk (hbox); have bA := zS hg; have aM := zS hg; replace HB := zX hb; clear hb hbox hg; obtain ⟨fB, fC, fD, fE, fF, fG, fH, fI⟩ := zq4 aN.out) | (go_at_call 143; (with_reducible refine (Ye.calls _ l0 aQ ((Qj aC aA).f0) ((Qj aC aA).f1) ((Qj aC aA).f2) ((Qj aC aA).f3) false _ ?bI ?bJ fZ.out).mono ?_); (case bI => exact Kd.C_below bO.out (zG aM.out)); (case bJ => exact bP.out); rintro e w' ⟨rfl, ⟨nd, rfl⟩⟩))
     go_roundg k2
     case measure => have := bC.out; have := bD.out; omega
     case rel => exact ⟨(wrap64 (aA + 1)), zF, H', ⟨by have := bC.out; have := bD.out; omega⟩, ⟨by (with_reducible repeat (first | apply Kd.R_alloc | apply Kd.R_drewN | apply Kd.R_drew)); exact Kd.R_mono (Kd.R_far (p := ⟨aD, 3, none⟩) (Kd.R_far (p := ⟨aD, 2, none⟩) (Kd.R_far (p := ⟨aD, 1, none⟩) (Kd.R_far (p := ⟨aD, 0, none⟩) (Kd.R_mono aH.out (fun k_ hk => (⟨hk, hk.2⟩ : _ ∧ k_ ≠ aD))) (fun _ hk => hk.2) (.int .i64 ((Qj aC aA).f0))) (fun _ hk => hk.2) (.int .i64 ((Qj aC aA).f1))) (fun _ hk => hk.2) (.int .i64 ((Qj aC aA).f2))) (fun _ hk => hk.2) (.int .i64 ((Qj aC aA).f3))) (fun _ hk => trivial)⟩, ⟨zG aM.out⟩⟩
    rw [if_neg c8] at H
    exact absurd H (by simp)
   rw [if_neg c7] at H
   exact absurd H (by simp)
  rw [if_neg c6] at H
  have fK := decide_eq_false c6
  clear c6
  have H' := Qa.mk H; clear H
  go_wp2
  go_roundg k2
  case measure => have := bC.out; have := bD.out; omega
  case rel => exact ⟨(wrap64 (aQ + 1)), zF, H', ⟨by have := bC.out; have := bD.out; omega⟩, ⟨zB⟩⟩
 rw [if_neg c2] at H
 have bQ := decide_eq_false c2
 clear c2
 obtain rfl := Option.some.inj H
 have bE := bP.out
 have bF : decide (0 < (l0.length : Int)) = true := decide_eq_true (by omega)
 clear bE
 have aX : 0 ≤ (0 : Int) := (by omega)
 have aY : 0 < (l0.length : Int) := zA
 obtain ⟨bG, e283, aG⟩ := Kd.at_int bO.out 0 aX aY
 obtain rfl : (⟨g0, 0, none⟩ : Addr) = bG := (by injection e283)
 (first | simp only [add_plain] at aG | simp only [jBs] at aG | simp only [Addr.add, Nat.zero_add] at aG | skip)
 have bR : (0 < l0.length) = True := eq_true (by omega)
 (try rw [show ((0 : Int)).toNat = 0 from rfl] at aG)
 (try rw [Addr.add_zero'] at aG)
 replace aG := (HB.out.cell (World.block_lt_of_cell? w _ aG)).trans aG
 replace aX := eq_true aX
 replace aY := eq_true aY
 clear bF
 go_wp2
 go_ret
 exact ⟨_, zE, ⟨by first | exact Kd.R_nil _ _ _ _ _ | exact Kd.N_nil _ _ _ _ _ | exact Kd.V_nil _ _ _ _ _ | exact Kd.Q_nil _ _ _ _ _ | exact Kd.S_nil _ _ _ _ _, by first | rfl | exact fun _ => rfl⟩, zB⟩
set_option maxHeartbeats 8000000 in
set_option maxRecDepth 100000 in
theorem Y3.callsN (k : Nat) (aD : Int) (aG : ByteArray) (r : List Int) (w : World) (h : Y3.f k aD aG = some r) :
  Calls Try.prog 9 #[.agg #[.int .i64 aD, .string aG]] w fun e w' => ∃ bG : Value, e = .returned (bG) ∧ (Kd.R (Kd.int .i64) 3 w' w.heap.size (fun _ => True) bG r ∧ (r = [] → bG = .slice none 0 0)) ∧ Below w.heap.size w w' := by
 have bN := Try.underlying25
 have HB := Qa.mk (Below.refl w.heap.size w)
 have H : ((Jl.f k aD aG).bind fun aJ => (if aJ = true then ((Zy.f k aD aG).bind fun aH => (if aH.length = 344 then ((Qx.f k aH).bind fun aK => (some aK)) else (none))) else (some ([] : List Int)))) = some r := h
 clear h
 obtain ⟨aJ, A2, H⟩ := zO H
 by_cases c3 : aJ = true
 ·subst c3
  replace H := (if_pos rfl).symm.trans H
  obtain ⟨aH, A4, H⟩ := zO H
  by_cases c5 : aH.length = 344
  ·rw [if_pos c5] at H
   have bO := eq_true c5
   have bP := decide_eq_true c5
   clear c5
   obtain ⟨aK, A6, H⟩ := zO H
   obtain rfl := Option.some.inj H
   go_enter Try.func9, Try.ntmps9
   go_wp2_with (first | ((with_reducible refine Qf (N := 1) rfl ?_); refine zBx (N := 1) #[.int .i64 aD, .string aG] 25 ?_; intro aM hg w7 hbox hb; have aA := Qa.mk (hbox); have aN := zS hg; have aC := zS hg; replace HB := zX hb; clear hb hbox hg; obtain ⟨bH, bI, bJ, bK⟩ := zq2 aA.out) | ((with_reducible refine Qb (f := 82) rfl ?_); refine zD (some 4) Try.func82 #[.agg #[.int .i64 aD, .string aG]] ?_; (with_reducible refine (Jl.calls k aD aG true _ A2.out).mono ?_); rintro e w9 ⟨rfl, hb⟩; refine ⟨_, rfl, ?_⟩; replace aA := zV aA.out hb; replace HB := zX1 aC.out hb; (try clear hb); obtain ⟨aY, aZ, bA, bB⟩ := zq2 aA.out) | ((with_reducible refine Qb (f := 83) rfl ?_); refine zD (some 7) Try.func83 #[.agg #[.int .i64 aD, .string aG]] ?_; (with_reducible refine (Zy.calls k aD aG aH _ A4.out).mono ?_); rintro e bW ⟨bQ, rfl, ho0, hb⟩; refine ⟨_, rfl, ?_⟩; have aI := Qa.mk (Kd.R_lower ho0 (Ql (zG aC.out))); replace aA := zV aA.out hb; replace HB := zX1 aC.out hb; (try clear hb); (try clear ho0); obtain ⟨bL, bR, aQ, aT, bM, bS, aU⟩ := Kd.R_form aI.out (by have hl_ := Nat.le_of_eq (Eq.symm (zA : aH.length = 344)); omega); (first | cases aQ | (injection aQ with ea_ en_ ec_; (first | subst ea_ | (injection ea_ with ea_; subst ea_)); subst ec_; clear en_)); have bT := Qa.mk aT; have bU := Qa.mk aU; clear aT bM aU) | ((with_reducible refine Qb (f := 84) rfl ?_); refine zD (some 8) Try.func84 #[.pointer (some ⟨bL, 0, none⟩)] ?_; (with_reducible refine (Qx.callsN k _ aH aK _ ?aV ?aW A6.out).mono ?_); (case aV => repeat (first | exact (Kd.R_reads' aI.out).2.2 | (with_reducible refine Kd.C_alloc ?_ _) | (with_reducible refine Kd.C_drewN ?_ _) | (with_reducible refine Kd.C_drew ?_))); (case aW => exact (zA : aH.length = 344)); rintro e bX ⟨bV, rfl, ⟨ho0, hn0⟩, hb⟩; have HN_ := Qa.mk hn0; clear hn0; refine ⟨_, rfl, ?_⟩; replace aI := zW aI.out hb; have aX := Qa.mk (Kd.R_lower ho0 (Ql (zG aC.out))); replace aA := zV aA.out hb; replace HB := zX1 aC.out hb; (try clear hb); (try clear hb2); (try clear hk); (try clear hi); (try clear ho0)))
   go_ret
   exact ⟨_, zE, ⟨zR aX.out, HN_.out⟩, zG aC.out⟩
  rw [if_neg c5] at H
  exact absurd H (by simp)
 replace c3 := Bool.eq_false_iff.mpr c3
 subst c3
 replace H := (if_neg zFf).symm.trans H
 obtain rfl := Option.some.inj H
 go_enter Try.func9, Try.ntmps9
 go_wp2_with (first | ((with_reducible refine Qf (N := 1) rfl ?_); refine zBx (N := 1) #[.int .i64 aD, .string aG] 25 ?_; intro aM hg bY hbox hb; have aA := Qa.mk (hbox); have aN := zS hg; have aC := zS hg; replace HB := zX hb; clear hb hbox hg; obtain ⟨bC, bD, bE, bF⟩ := zq2 aA.out) | ((with_reducible refine Qb (f := 82) rfl ?_); refine zD (some 4) Try.func82 #[.agg #[.int .i64 aD, .string aG]] ?_; (with_reducible refine (Jl.calls k aD aG false _ A2.out).mono ?_); rintro e w16 ⟨rfl, hb⟩; refine ⟨_, rfl, ?_⟩; replace aA := zV aA.out hb; replace HB := zX1 aC.out hb; (try clear hb)))
 go_ret
 exact ⟨_, zE, ⟨by first | exact Kd.R_nil _ _ _ _ _ | exact Kd.N_nil _ _ _ _ _ | exact Kd.V_nil _ _ _ _ _ | exact Kd.Q_nil _ _ _ _ _ | exact Kd.S_nil _ _ _ _ _, by first | rfl | exact fun _ => rfl⟩, zG aC.out⟩
end Go.Proofs.Ytckkfjdkaimmhaa.PX
namespace Go.Proofs.Ytckkfjdkaimmhaa.M
open Go.RowKit Go.Proofs.YtckkfjdkaimmhaaW.PrintWords
section
variable {α β : Type} {r : α} {r' : β}
theorem Qm {c : Prop} [Decidable c] {a b : Nat → Option α} (h : c) (k : Ev a r) : Ev (fun n => if c then a n else b n) r := Ev.congr (fun _ => if_pos h) k
theorem Jn {c : Prop} [Decidable c] {a b : Nat → Option α} (h : ¬ c) (k : Ev b r) : Ev (fun n => if c then a n else b n) r := Ev.congr (fun _ => if_neg h) k
theorem Zv {x : Option α} {a : α} {f : Nat → α → Option β} (h : x = some a) (k : Ev (fun n => f n a) r') : Ev (fun n => x.bind (f n)) r' := Ev.congr (fun n => by rw [h]; rfl) k
theorem Y5 {g : Nat → Option α} {a b : α} (h : Ev g a) (e : a = b) : Ev g b := e ▸ h
theorem Ji {g : Nat → Option α} (k : Ev (fun n => g (n + 1)) r) : Ev g r := Ev.step (fun _ => rfl) k
end
theorem Qp {x : Int} (h0 : -9223372036854775808 ≤ x) (h1 : x ≤ 9223372036854775807) : wrap64 x = x := by unfold wrap64; omega
theorem Ui (t : ByteArray) : t.size = t.data.toList.length := rfl
theorem jNx {t : ByteArray} {i : Nat} (h : i < t.data.toList.length) : bt t (i : Int) = ((t.data.toList[i]).toNat : Int) := by
 have h' : i < t.size := h
 unfold bt
 simp only [Int.toNat_natCast, h', dite_true]
 rfl
def jF8 (c : UInt8) : Bool := c = 43 || c = 45
def jI4 (n : Int) : Int := wrap64 (Int.tdiv (wrap64 ((wrap64 (n * (wrap64 (n - 1)))) * (wrap64 (n - 2)))) 6)
theorem jQo : jI4 3 = 1 := by decide +kernel
theorem jP4 : jI4 4 = 4 := by decide +kernel
theorem jQy : jI4 5 = 10 := by decide +kernel
theorem jQd : jI4 6 = 20 := by decide +kernel
theorem jQf : jI4 7 = 35 := by decide +kernel
def Y1 (n : Int) (t : ByteArray) : Bool := decide (3 ≤ n) && decide (n ≤ 7) && decide ((t.size : Int) = jI4 n) && t.data.toList.all jF8
theorem jM3 (c : UInt8) : ((c.toNat : Int) = 43) ↔ c = 43 := by
 constructor
 ·intro h; apply UInt8.toNat_inj.1; show c.toNat = 43; omega
 ·rintro rfl; rfl
theorem jMd (c : UInt8) : ((c.toNat : Int) = 45) ↔ c = 45 := by
 constructor
 ·intro h; apply UInt8.toNat_inj.1; show c.toNat = 45; omega
 ·rintro rfl; rfl
theorem Z7 (n : Int) (t : ByteArray) : Y1 n t = true ↔ (3 ≤ n ∧ n ≤ 7) ∧ (t.size : Int) = jI4 n ∧ ∀ c ∈ t.data.toList, c = 43 ∨ c = 45 := by
 simp only [Y1, Bool.and_eq_true, decide_eq_true_eq, List.all_eq_true, jF8, Bool.or_eq_true, and_assoc]
theorem jBm {n : Int} {t : ByteArray} (h : Y1 n t = true) : t.size ≤ 35 := by
 obtain ⟨⟨h0, h1⟩, h2, _⟩ := (Z7 n t).1 h
 have h3 : jI4 n ≤ 35 := by
  have : n = 3 ∨ n = 4 ∨ n = 5 ∨ n = 6 ∨ n = 7 := by omega
  rcases this with rfl | rfl | rfl | rfl | rfl
  ·rw [jQo]; decide
  ·rw [jP4]; decide
  ·rw [jQy]; decide
  ·rw [jQd]; decide
  ·rw [jQf]; decide
 omega
end Go.Proofs.Ytckkfjdkaimmhaa.M
namespace Go.Proofs.Ytckkfjdkaimmhaa.PX
open Go.RowKit Go.Proofs.Ytckkfjdkaimmhaa.G Go.Proofs.YtckkfjdkaimmhaaW.PrintWords Go.Proofs.YtckkfjdkaimmhaaW.PrintLast Go.Proofs.YtckkfjdkaimmhaaW.PrintMore
attribute [local go_sem] max2_int min2_int Yd Yg Xh Xf Xq Xp   -- for this text's walks alone
set_option linter.unusedVariables false
set_option linter.unusedSimpArgs false
def Zz.f (a0 : Int) (a1 : Int) (a2 : Int) : Option (Bool) := if a0 ≥ a1 then (some (decide (a0 ≤ a2))) else (some false)
set_option maxHeartbeats 8000000 in
set_option maxRecDepth 100000 in
theorem Zz.calls (a0 : Int) (a1 : Int) (a2 : Int) (r : Bool) (w : World) (h : Zz.f a0 a1 a2 = some r) :
  Calls Try.prog 89 #[.int .i64 a0, .int .i64 a1, .int .i64 a2] w fun e w' => e = .returned (.bool r) ∧ Qs w w' := by
 have H := h
 unfold Zz.f at H
 clear h
 replace H := Vt H
 rcases H with ⟨c4, H⟩ | ⟨c4, H⟩
 ·have aA : decide (a1 ≤ a0) = true := decide_eq_true c4
  clear c4
  obtain rfl := Option.some.inj H
  go_enter Try.func89, Try.ntmps89
  go_wp2
  go_ret
  exact ⟨by first | rfl | (simp; done) | (simp [*]; done), by repeat (first | exact Qs.refl _ | apply Qs.step)⟩
 have aA : decide (a1 ≤ a0) = false := decide_eq_false c4
 clear c4
 obtain rfl := Option.some.inj H
 go_enter Try.func89, Try.ntmps89
 go_wp2
 go_ret
 exact ⟨by first | rfl | (simp; done) | (simp [*]; done), by repeat (first | exact Qs.refl _ | apply Qs.step)⟩
mutual
def Jr.j0 : Nat → Bool → Int → ByteArray → Option (Bool)
 | 0, _, _, _ => none
 | k + 1, x24, aA, aC => if x24 = true then (some false) else (Jr.l0 k 0 aA aC)
def Jr.l0 : Nat → Int → Int → ByteArray → Option (Bool)
 | 0, _, _, _ => none
 | k + 1, x3, aC, aA => if x3 < (aA.size : Int) then (if 0 ≤ x3 then (if (bt aA x3) = 43 then (Jr.l0 k (wrap64 (x3 + 1)) aC aA) else (if (bt aA x3) = 45 then (Jr.l0 k (wrap64 (x3 + 1)) aC aA) else (some false))) else (none)) else (some true)
end
def Jr.f (k : Nat) (aA : Int) (aC : ByteArray) : Option (Bool) := (Zz.f aA 3 7).bind fun aD => (if aD = true then (Jr.j0 k ((aC.size : Int) != (wrap64 (Int.tdiv (wrap64 ((wrap64 (aA * (wrap64 (aA - 1)))) * (wrap64 (aA - 2)))) 6))) aA aC) else (Jr.j0 k true aA aC))
set_option maxHeartbeats 8000000 in
set_option maxRecDepth 100000 in
theorem Jr.calls (k : Nat) (aH : Int) (aD : ByteArray) (r : Bool) (w : World) (h : Jr.f k aH aD = some r) :
  Calls Try.prog 25 #[.agg #[.int .i64 aH, .string aD]] w fun e w' => e = .returned (.bool r) ∧ Below w.heap.size w w' := by
 have dB := Try.underlying25
 have HB := Qa.mk (Below.refl w.heap.size w)
 have H := h
 unfold Jr.f at H
 clear h
 have bQ := Qa.mk H
 clear H
 go_enter Try.func25, Try.ntmps25
 go_upto_region 1 with (first | ((with_reducible refine Qf (N := 1) rfl ?_); (try (refine Xa (by rfl) ?_; dsimp only)); refine zBx (N := 1) #[.int .i64 aH, .string aD] 25 ?_; intro aJ hg w3 hbox hb; have aA := Qa.mk (hbox); have cO := zS hg; have aG := zS hg; replace HB := zX hb; clear hb hbox hg))
 (try simp only [Act.put, List.setIfInBounds_toArray, List.set_cons_zero, List.set_cons_succ])
 go_cut [24] (fun v24 wc => ∃ (kq : Nat) (aI : Bool), v24 = .bool aI ∧ Qa (Jr.j0 kq aI aH aD = some r) ∧ Qa (kq ≤ k) ∧ Qa (wc.heap[aJ]? = some (.cells #[.int .i64 aH, .string aD] 25 (0, 0))) ∧ Qa (Below w.heap.size w wc))
 case first =>
  have H := bQ.out
  clear bQ
  obtain ⟨bR, A4, H⟩ := zO H
  by_cases c5 : bR = true
  ·subst c5
   replace H := (if_pos rfl).symm.trans H
   have H' := Qa.mk H; clear H
   obtain ⟨bS, bT, bU, bV⟩ := zq2 aA.out
   go_wp2_with (first | ((with_reducible refine Qb (f := 89) rfl ?_); refine zD (some 6) Try.func89 _ ((Zz.calls aH 3 7 true _ A4.out).mono ?_); rintro e w' ⟨rfl, ⟨nd, rfl⟩⟩; refine ⟨_, rfl, ?_⟩))
   go_meet
   case rel => exact ⟨_, (((aD.size : Int) != (wrap64 (Int.tdiv (wrap64 ((wrap64 (aH * (wrap64 (aH - 1)))) * (wrap64 (aH - 2)))) 6)))), zF, H', ⟨by first | omega | exact Nat.le_refl _⟩, ⟨zK aA.out⟩, ⟨zG aG.out⟩⟩
  replace c5 := Bool.eq_false_iff.mpr c5
  subst c5
  replace H := (if_neg zFf).symm.trans H
  have H' := Qa.mk H; clear H
  obtain ⟨bW, bX, bY, bZ⟩ := zq2 aA.out
  go_wp2_with (first | ((with_reducible refine Qb (f := 89) rfl ?_); refine zD (some 6) Try.func89 _ ((Zz.calls aH 3 7 false _ A4.out).mono ?_); rintro e w' ⟨rfl, ⟨nd, rfl⟩⟩; refine ⟨_, rfl, ?_⟩))
  go_meet
  case rel => exact ⟨_, (true), zF, H', ⟨by first | omega | exact Nat.le_refl _⟩, ⟨zK aA.out⟩, ⟨zG aG.out⟩⟩
 case rest =>
 clear bQ
 obtain ⟨kq, aI, rfl, HA, aY, aA, HB⟩ := hcut
 cases kq with
 | zero => exact absurd HA.out (by simp [Jr.j0])
 | succ cZ =>
 have H := HA.out
 clear HA
 simp only [Jr.j0] at H
 by_cases c8 : aI = true
 ·subst c8
  replace H := (if_pos rfl).symm.trans H
  obtain rfl := Option.some.inj H
  go_wp2
  go_ret
  exact ⟨zE, zG aG.out⟩
 replace c8 := Bool.eq_false_iff.mpr c8
 subst c8
 replace H := (if_neg zFf).symm.trans H
 have H' := Qa.mk H; clear H
 go_wp2
 go_loopg [3] cZ (fun kq v3 w' => ∃ (aC : Int), v3 = .int .i64 aC ∧ Qa (Jr.l0 kq aC aH aD = some r) ∧ Qa (kq ≤ cZ) ∧ Qa (w'.heap[aJ]? = some (.cells #[.int .i64 aH, .string aD] 25 (0, 0))) ∧ Qa (Below w.heap.size w w'))
 case atStart => exact ⟨(0), zF, H', ⟨Nat.le_refl _⟩, ⟨zK aA.out⟩, ⟨zG aG.out⟩⟩
 case round =>
 clear H'
 try clear c8
 obtain ⟨aC, rfl, HA, aZ, aA, HB⟩ := hrel
 cases gk with
 | zero => exact absurd HA.out (by simp [Jr.l0])
 | succ k2 =>
 have H := HA.out
 clear HA
 simp only [Jr.l0] at H
 replace H := Z5 H
 rcases H with ⟨cB, H⟩ | ⟨cB, H⟩
 ·replace H := Zq H
  rcases H with ⟨dA, H⟩ | ⟨c10, H⟩
  ·replace H := Zi H
   rcases H with ⟨aN, aQ, H⟩ | ⟨c12, aN, aQ, H⟩
   ·have H' := Qa.mk H; clear H
    obtain ⟨bA, bB, bC, bD⟩ := zq2 aA.out
    have aK : 0 ≤ (aC : Int) := zA
    have aM : aC < (aD.size : Int) := zA
    have aT := Ka aD aC
    replace aK := eq_true aK
    replace aM := eq_true aM
    go_wp2
    go_roundg k2
    case measure => have := aY.out; have := aZ.out; omega
    case rel => exact ⟨(wrap64 (aC + 1)), zF, H', ⟨by have := aY.out; have := aZ.out; omega⟩, ⟨zK aA.out⟩, ⟨zG aG.out⟩⟩
   replace H := Zi H
   rcases H with ⟨aU, aV, H⟩ | ⟨c15, aU, aV, H⟩
   ·have H' := Qa.mk H; clear H
    obtain ⟨bE, bF, bG, bH⟩ := zq2 aA.out
    have aK : 0 ≤ (aC : Int) := zA
    have aM : aC < (aD.size : Int) := zA
    have aT := Ka aD aC
    replace aK := eq_true aK
    replace aM := eq_true aM
    have aW : 0 ≤ (aC : Int) := zA
    have aX : aC < (aD.size : Int) := zA
    have cK := Ka aD aC
    replace aW := eq_true aW
    replace aX := eq_true aX
    go_wp2
    go_roundg k2
    case measure => have := aY.out; have := aZ.out; omega
    case rel => exact ⟨(wrap64 (aC + 1)), zF, H', ⟨by have := aY.out; have := aZ.out; omega⟩, ⟨zK aA.out⟩, ⟨zG aG.out⟩⟩
   obtain rfl := Option.some.inj H
   obtain ⟨bI, bJ, bK, bL⟩ := zq2 aA.out
   have aK : 0 ≤ (aC : Int) := zA
   have aM : aC < (aD.size : Int) := zA
   have aT := Ka aD aC
   replace aK := eq_true aK
   replace aM := eq_true aM
   have aW : 0 ≤ (aC : Int) := zA
   have aX : aC < (aD.size : Int) := zA
   have cK := Ka aD aC
   replace aW := eq_true aW
   replace aX := eq_true aX
   go_wp2
   go_ret
   exact ⟨zE, zG aG.out⟩
  exact absurd H (by simp)
 obtain rfl := Option.some.inj H
 obtain ⟨bM, bN, bO, bP⟩ := zq2 aA.out
 go_wp2
 go_ret
 exact ⟨zE, zG aG.out⟩
end Go.Proofs.Ytckkfjdkaimmhaa.PX
namespace Go.Proofs.Ytckkfjdkaimmhaa.M
open Go.RowKit Go.Proofs.YtckkfjdkaimmhaaW.PrintWords Go.Proofs.Ytckkfjdkaimmhaa.PX
theorem jEc (n : Int) (t : ByteArray) (hs : t.data.toList.length ≤ 9223372036854775807) (d : Nat) : ∀ i : Nat, i + d = t.data.toList.length → Ev (fun k => Jl.l0 k (i : Int) n t) ((t.data.toList.drop i).all jF8) := by
 induction d with
 | zero =>
  intro i hi
  rw [List.drop_of_length_le (by omega)]
  refine Ji ?_
  simp only [Jl.l0]
  exact Jn (by rw [Ui]; omega) (Ev.now _)
 | succ d ih =>
  intro i hi
  have hlt : i < t.data.toList.length := by omega
  rw [List.drop_eq_getElem_cons hlt, List.all_cons]
  refine Ji ?_
  simp only [Jl.l0]
  refine Qm (by rw [Ui]; omega) (Qm (by omega) ?_)
  rw [jNx hlt, Qp (by omega) (by omega)]
  have hn := ih (i + 1) (by omega)
  by_cases h1 : t.data.toList[i] = 43
  ·refine Qm ((jM3 _).2 h1) ?_
   rw [show jF8 t.data.toList[i] = true by simp [jF8, h1], Bool.true_and]
   exact hn
  ·refine Jn (fun h => h1 ((jM3 _).1 h)) ?_
   by_cases h2 : t.data.toList[i] = 45
   ·refine Qm ((jMd _).2 h2) ?_
    rw [show jF8 t.data.toList[i] = true by simp [jF8, h2], Bool.true_and]
    exact hn
   ·refine Jn (fun h => h2 ((jMd _).1 h)) ?_
    rw [show jF8 t.data.toList[i] = false by unfold jF8; rw [decide_eq_false h1, decide_eq_false h2]; rfl, Bool.false_and]
    exact Ev.now _
theorem jHl (n : Int) (t : ByteArray) (hs : t.size ≤ 9223372036854775807) : Ev (fun k => Jl.f k n t) (Y1 n t) := by
 rw [Ui] at hs
 unfold Jl.f Y1
 have hj : ∀ r, Ev (fun k => Jl.j0 k true n t) r ↔ r = false := fun r => by
  constructor
  ·rintro ⟨K, hK⟩
   have := hK (K + 1) (by omega)
   simp only [Jl.j0, if_true] at this
   exact (Option.some.inj this).symm
  ·rintro rfl
   refine Ji ?_
   simp only [Jl.j0]
   exact Qm (by trivial) (Ev.now _)
 by_cases h0 : n < 3
 ·refine Qm h0 ((hj _).2 ?_)
  simp; omega
 ·refine Jn h0 ?_
  by_cases h1 : n > 7
  ·refine Qm h1 ((hj _).2 ?_)
   simp; omega
  ·refine Jn h1 ?_
   refine Ji ?_
   simp only [Jl.j0]
   rw [show decide (3 ≤ n) = true from decide_eq_true (by omega), show decide (n ≤ 7) = true from decide_eq_true (by omega), Bool.true_and, Bool.true_and]
   by_cases h2 : (t.size : Int) = jI4 n
   ·refine Jn (by simp only [bne_iff_ne, ne_eq, Decidable.not_not]; exact h2) ?_
    rw [decide_eq_true h2, Bool.true_and]
    exact jEc n t hs t.data.toList.length 0 (by omega)
   ·refine Qm (by simp only [bne_iff_ne, ne_eq]; exact h2) ?_
    rw [decide_eq_false h2, Bool.false_and]
    exact Ev.now _
theorem jEq (n : Int) (t : ByteArray) (hs : t.data.toList.length ≤ 9223372036854775807) (d : Nat) : ∀ i : Nat, i + d = t.data.toList.length → Ev (fun k => Jr.l0 k (i : Int) n t) ((t.data.toList.drop i).all jF8) := by
 induction d with
 | zero =>
  intro i hi
  rw [List.drop_of_length_le (by omega)]
  refine Ji ?_
  simp only [Jr.l0]
  exact Jn (by rw [Ui]; omega) (Ev.now _)
 | succ d ih =>
  intro i hi
  have hlt : i < t.data.toList.length := by omega
  rw [List.drop_eq_getElem_cons hlt, List.all_cons]
  refine Ji ?_
  simp only [Jr.l0]
  refine Qm (by rw [Ui]; omega) (Qm (by omega) ?_)
  rw [jNx hlt, Qp (by omega) (by omega)]
  have hn := ih (i + 1) (by omega)
  by_cases h1 : t.data.toList[i] = 43
  ·refine Qm ((jM3 _).2 h1) ?_
   rw [show jF8 t.data.toList[i] = true by simp [jF8, h1], Bool.true_and]
   exact hn
  ·refine Jn (fun h => h1 ((jM3 _).1 h)) ?_
   by_cases h2 : t.data.toList[i] = 45
   ·refine Qm ((jMd _).2 h2) ?_
    rw [show jF8 t.data.toList[i] = true by simp [jF8, h2], Bool.true_and]
    exact hn
   ·refine Jn (fun h => h2 ((jMd _).1 h)) ?_
    rw [show jF8 t.data.toList[i] = false by unfold jF8; rw [decide_eq_false h1, decide_eq_false h2]; rfl, Bool.false_and]
    exact Ev.now _
theorem jEo (x lo hi : Int) : Zz.f x lo hi = some (decide (lo ≤ x) && decide (x ≤ hi)) := by
 unfold Zz.f
 by_cases h : x ≥ lo
 ·rw [if_pos h, show decide (lo ≤ x) = true from decide_eq_true h, Bool.true_and]
 ·rw [if_neg h, show decide (lo ≤ x) = false from decide_eq_false h, Bool.false_and]
theorem jB0 (n : Int) (t : ByteArray) (hs : t.size ≤ 9223372036854775807) : Ev (fun k => Jr.f k n t) (Y1 n t) := by
 rw [Ui] at hs
 unfold Jr.f Y1
 refine Zv (jEo n 3 7) ?_
 by_cases h0 : (decide (3 ≤ n) && decide (n ≤ 7)) = true
 ·refine Qm h0 ?_
  rw [h0, Bool.true_and]
  refine Ji ?_
  simp only [Jr.j0]
  by_cases h2 : (t.size : Int) = jI4 n
  ·refine Jn (by simp only [bne_iff_ne, ne_eq, Decidable.not_not]; exact h2) ?_
   rw [decide_eq_true h2, Bool.true_and]
   exact jEq n t hs t.data.toList.length 0 (by omega)
  ·refine Qm (by simp only [bne_iff_ne, ne_eq]; exact h2) ?_
   rw [decide_eq_false h2, Bool.false_and]
   exact Ev.now _
 ·refine Jn h0 ?_
  rw [Bool.eq_false_iff.mpr h0, Bool.false_and, Bool.false_and]
  refine Ji ?_
  simp only [Jr.j0]
  exact Qm (by trivial) (Ev.now _)
end Go.Proofs.Ytckkfjdkaimmhaa.M
namespace Go.Proofs.Ytckkfjdkaimmhaa.M
open Go.RowKit Go.Proofs.YtckkfjdkaimmhaaW.PrintWords
section
variable {σ τ ρ α β : Type}
def Goes (z : Except ρ σ) (K : σ → Nat → Option ρ) (g : Nat → Option ρ) : Prop :=
 match z with
 | .error v => Ev g v
 | .ok s => ∀ r, Ev (K s) r → Ev g r
variable {z : Except ρ σ} {K : σ → Nat → Option ρ}
theorem Goes.ok (s : σ) : Goes (.ok s) K (K s) := fun _ h => h
theorem Goes.error {g : Nat → Option ρ} {v : ρ} (h : Ev g v) : Goes (.error v) K g := h
theorem Goes.ret (v : ρ) : Goes (.error v) K (fun _ => some v) := Ev.now v
theorem Goes.map {g g' : Nat → Option ρ} (hg : ∀ r, Ev g' r → Ev g r) (h : Goes z K g') : Goes z K g := by
 cases z with
 | error v => exact hg _ h
 | ok s => exact fun r hr => hg _ (h r hr)
theorem Goes.step {g : Nat → Option ρ} (h : Goes z K (fun k => g (k + 1))) : Goes z K g := Goes.map (fun _ => Ji) h
theorem Goes.pos {c : Prop} [Decidable c] {a b : Nat → Option ρ} (hc : c) (h : Goes z K a) : Goes z K (fun k => if c then a k else b k) := Goes.map (fun _ => Qm hc) h
theorem Goes.neg {c : Prop} [Decidable c] {a b : Nat → Option ρ} (hc : ¬ c) (h : Goes z K b) : Goes z K (fun k => if c then a k else b k) := Goes.map (fun _ => Jn hc) h
theorem Goes.call {x : Option α} {a : α} {f : Nat → α → Option ρ} (hx : x = some a) (h : Goes z K (fun k => f k a)) : Goes z K (fun k => x.bind (f k)) := Goes.map (fun _ => Zv hx) h
theorem Goes.ev {x : Nat → Option α} {a : α} {f : Nat → α → Option ρ} (hx : Ev x a) (h : Goes z K (fun k => f k a)) : Goes z K (fun k => (x k).bind (f k)) := Goes.map (fun _ => Ev.bind hx) h
theorem Goes.bind {y : Except ρ τ} {f : τ → Except ρ σ} {K' : τ → Nat → Option ρ} {g : Nat → Option ρ} (h : Goes y K' g) (h' : ∀ s, Goes (f s) K (K' s)) : Goes (y >>= f) K g := by
 cases y with
 | error v => exact h
 | ok s => exact Goes.map (h ·) (h' s)
theorem Goes.cast {z' : Except ρ σ} {g : Nat → Option ρ} (h : Goes z K g) (e : z = z') : Goes z' K g := e ▸ h
theorem Goes.out {g : Nat → Option ρ} {r : ρ} (h : Goes z K g) (he : ∀ v, z = .error v → v = r) (ho : ∀ s, z = .ok s → Ev (K s) r) : Ev g r := by
 cases z with
 | error v => exact he v rfl ▸ h
 | ok s => exact h r (ho s rfl)
theorem Vx {lo n : Nat} {L : Int → σ → Nat → Option ρ} (dec : σ → Nat → Except ρ σ) (hf : ∀ s, Goes (.ok s) K (L (n : Int) s))
  (hb : ∀ i, lo ≤ i → i < n → ∀ s, Goes (dec s i) (fun s => L ((i + 1 : Nat) : Int) s) (L (i : Int) s)) (hlo : lo ≤ n) (s : σ) : Goes ((List.range' lo (n - lo)).foldlM dec s) K (L (lo : Int) s) := by
 have key : ∀ d i, lo ≤ i → i + d = n → ∀ s, Goes ((List.range' i d).foldlM dec s) K (L (i : Int) s) := by
  intro d
  induction d with
  | zero =>
   intro i _ hi s
   obtain rfl : i = n := by omega
   exact hf s
  | succ d ih =>
   intro i hl hi s
   rw [List.range'_succ, List.foldlM_cons]
   exact Goes.bind (hb i hl (by omega) s) (fun s => ih (i + 1) (by omega) (by omega) s)
 exact key (n - lo) lo (Nat.le_refl _) (by omega) s
theorem X7 {lo n : Nat} {L : Int → σ → Nat → Option ρ} (I : Nat → σ → Prop) (dec : σ → Nat → Except ρ σ) (hf : ∀ s, I n s → Goes (.ok s) K (L (n : Int) s))
  (hb : ∀ i, lo ≤ i → i < n → ∀ s, I i s → Goes (dec s i) (fun s => L ((i + 1 : Nat) : Int) s) (L (i : Int) s)) (hi : ∀ i, lo ≤ i → i < n → ∀ s, I i s → ∀ s', dec s i = .ok s' → I (i + 1) s') (hlo : lo ≤ n) (s : σ) (hs : I lo s) :
  Goes ((List.range' lo (n - lo)).foldlM dec s) K (L (lo : Int) s) := by
 have key : ∀ d i, lo ≤ i → i + d = n → ∀ s, I i s → Goes ((List.range' i d).foldlM dec s) K (L (i : Int) s) := by
  intro d
  induction d with
  | zero =>
   intro i _ hid s hs
   obtain rfl : i = n := by omega
   exact hf s hs
  | succ d ih =>
   intro i hl hid s hs
   rw [List.range'_succ, List.foldlM_cons]
   have h := hb i hl (by omega) s hs
   have h' := hi i hl (by omega) s hs
   cases hd : dec s i with
   | error v => rw [hd] at h; exact h
   | ok s' =>
    rw [hd] at h
    exact Goes.map (h ·) (ih (i + 1) (by omega) (by omega) s' (h' s' hd))
 exact key (n - lo) lo (Nat.le_refl _) (by omega) s hs
theorem Yo (f : α → List β) (g : σ → β → Except ρ σ) (l : List α) : ∀ s, (l.flatMap f).foldlM g s = l.foldlM (fun s a => (f a).foldlM g s) s := by
 induction l with
 | nil => intro s; rfl
 | cons x l ih =>
  intro s
  rw [List.flatMap_cons, List.foldlM_append, List.foldlM_cons]
  congr 1
  funext s
  exact ih s
theorem Kg (f : α → β) (g : σ → β → Except ρ σ) (l : List α) : ∀ s, (l.map f).foldlM g s = l.foldlM (fun s a => g s (f a)) s := by
 induction l with
 | nil => intro s; rfl
 | cons x l ih =>
  intro s
  rw [List.map_cons, List.foldlM_cons, List.foldlM_cons]
  congr 1
  funext s
  exact ih s
theorem Xy (g : σ → α → σ) (l : List α) : ∀ s, (l.foldlM (fun s a => (.ok (g s a) : Except ρ σ)) s) = .ok (l.foldl g s) := by
 induction l with
 | nil => intro s; rfl
 | cons x l ih => intro s; exact ih (g s x)
theorem jGl (c : α → Bool) (v : α → ρ) (l : List α) : l.foldlM (fun (_ : Unit) a => if c a then (.error (v a) : Except ρ Unit) else .ok ()) () = match l.find? c with | some a => .error (v a) | none => .ok () := by
 induction l with
 | nil => rfl
 | cons x l ih =>
  rw [List.foldlM_cons, List.find?_cons]
  cases hx : c x with
  | true => rfl
  | false => exact ih
theorem Yj (c : α → Bool) (v : ρ) (l : List α) : l.foldlM (fun (_ : Unit) a => if c a then (.error v : Except ρ Unit) else .ok ()) () = if l.any c then .error v else .ok () := by
 rw [jGl c (fun _ => v) l]
 cases h : l.find? c with
 | none =>
  have : l.any c = false := by simpa using h
  rw [this]; rfl
 | some a =>
  have : l.any c = true := List.any_eq_true.2 ⟨a, List.mem_of_find?_eq_some h, List.find?_some h⟩
  rw [this]; rfl
end
theorem U2 {σ ρ α : Type} (d : α) (f : σ → α → Except ρ σ) (l : List α) (s : σ) : (List.range' 0 (l.length - 0)).foldlM (fun s i => f s (l.getD i d)) s = l.foldlM f s := by
 have key : ∀ (l' pre : List α) (s : σ), pre ++ l' = l → (List.range' pre.length l'.length).foldlM (fun s i => f s (l.getD i d)) s = l'.foldlM f s := by
  intro l'
  induction l' with
  | nil => intro pre s _; rfl
  | cons x l' ih =>
   intro pre s h
   have hx : l.getD pre.length d = x := by
    rw [← h, List.getD_eq_getElem?_getD, List.getElem?_append_right (Nat.le_refl _), Nat.sub_self]
    rfl
   rw [List.length_cons, List.range'_succ, List.foldlM_cons, List.foldlM_cons, hx]
   congr 1
   funext s
   have := ih (pre ++ [x]) s (by rw [← h, List.append_assoc]; rfl)
   rw [List.length_append] at this
   exact this
 rw [Nat.sub_zero]
 exact key l [] s rfl
theorem foldl_filter {α β : Type} (c : α → Bool) (f : α → β) (l : List α) : ∀ s : List β, l.foldl (fun s a => if c a then s ++ [f a] else s) s = s ++ (l.filter c).map f := by
 induction l with
 | nil => intro s; simp
 | cons x l ih =>
  intro s
  rw [List.foldl_cons, ih, List.filter_cons]
  split
  ·rw [List.map_cons, List.append_assoc]; rfl
  ·rfl
def Yn (n a : Nat) : List Nat := List.range' (a + 1) (n - (a + 1))
def Y2 (n : Nat) : List (Nat × Nat) := (List.range' 0 n).flatMap fun a => (Yn n a).map fun b => (a, b)
def Xi (n : Nat) : List (Nat × Nat × Nat) := (List.range' 0 n).flatMap fun a => (Yn n a).flatMap fun b => (Yn n b).map fun c => (a, b, c)
def Z4 (n : Nat) : List (Nat × Nat × Nat × Nat) := (List.range' 0 n).flatMap fun a => (Yn n a).flatMap fun b => (Yn n b).flatMap fun c => (Yn n c).map fun d => (a, b, c, d)
theorem Ku {n a b : Nat} (h : b ∈ Yn n a) : a < b ∧ b < n := by
 simp only [Yn, List.mem_range'_1] at h
 omega
theorem jCu {n a b : Nat} (h : (a, b) ∈ Y2 n) : a < b ∧ b < n := by
 simp only [Y2, List.mem_flatMap, List.mem_map, Prod.mk.injEq] at h
 obtain ⟨x, _, y, hy, rfl, rfl⟩ := h
 exact Ku hy
theorem Ul {n a b c : Nat} (h : (a, b, c) ∈ Xi n) : a < b ∧ b < c ∧ c < n := by
 simp only [Xi, List.mem_flatMap, List.mem_map, Prod.mk.injEq] at h
 obtain ⟨x, _, y, hy, z, hz, rfl, rfl, rfl⟩ := h
 have := Ku hy
 have := Ku hz
 omega
theorem Wd {n a b c d : Nat} (h : (a, b, c, d) ∈ Z4 n) : a < b ∧ b < c ∧ c < d ∧ d < n := by
 simp only [Z4, List.mem_flatMap, List.mem_map, Prod.mk.injEq] at h
 obtain ⟨x, _, y, hy, z, hz, u, hu, rfl, rfl, rfl, rfl⟩ := h
 have := Ku hy
 have := Ku hz
 have := Ku hu
 omega
theorem Uk {n a b : Nat} (h1 : a < b) (h2 : b < n) : (a, b) ∈ Y2 n := by
 simp only [Y2, List.mem_flatMap, List.mem_map, Prod.mk.injEq, Yn, List.mem_range'_1]
 exact ⟨a, by omega, b, by omega, rfl, rfl⟩
theorem jA1 {n a b c : Nat} (h1 : a < b) (h2 : b < c) (h3 : c < n) : (a, b, c) ∈ Xi n := by
 simp only [Xi, List.mem_flatMap, List.mem_map, Prod.mk.injEq, Yn, List.mem_range'_1]
 exact ⟨a, by omega, b, by omega, c, by omega, rfl, rfl, rfl⟩
theorem Uf {n a b c d : Nat} (h1 : a < b) (h2 : b < c) (h3 : c < d) (h4 : d < n) : (a, b, c, d) ∈ Z4 n := by
 simp only [Z4, List.mem_flatMap, List.mem_map, Prod.mk.injEq, Yn, List.mem_range'_1]
 exact ⟨a, by omega, b, by omega, c, by omega, d, by omega, rfl, rfl, rfl, rfl⟩
section
variable {σ ρ : Type} {n : Nat} {K : σ → Nat → Option ρ}
theorem jFh {L0 : Int → σ → Nat → Option ρ} {L1 : Int → Int → σ → Nat → Option ρ} (dec : σ → Nat × Nat → Except ρ σ)
  (e0 : ∀ s, Goes (.ok s) K (L0 (n : Int) s)) (s0 : ∀ a, a < n → ∀ s, Goes (.ok s) (fun s => L1 (a : Int) ((a + 1 : Nat) : Int) s) (L0 (a : Int) s))
  (e1 : ∀ a, a < n → ∀ s, Goes (.ok s) (fun s => L0 ((a + 1 : Nat) : Int) s) (L1 (a : Int) (n : Int) s))
  (hb : ∀ a b, a < b → b < n → ∀ s, Goes (dec s (a, b)) (fun s => L1 (a : Int) ((b + 1 : Nat) : Int) s) (L1 (a : Int) (b : Int) s)) (s : σ) : Goes ((Y2 n).foldlM dec s) K (L0 0 s) := by
 have h := Vx (K := K) (L := L0) (lo := 0) (n := n) (fun s a => (Yn n a).foldlM (fun s b => dec s (a, b)) s) e0 (fun a _ ha s => ?_) (by omega) s
 ·refine Goes.cast h ?_
  rw [Y2, Yo]
  simp only [Kg, Nat.sub_zero]
 ·exact Goes.map (fun _ => s0 a ha s _) (Vx (K := fun s => L0 ((a + 1 : Nat) : Int) s) (L := L1 (a : Int)) (fun s b => dec s (a, b)) (e1 a ha) (fun b hl hb' s => hb a b (by omega) hb' s) (by omega) s)
theorem jN3 {L0 : Int → σ → Nat → Option ρ} {L1 : Int → Int → σ → Nat → Option ρ} {L2 : Int → Int → Int → σ → Nat → Option ρ} (dec : σ → Nat × Nat × Nat → Except ρ σ)
  (e0 : ∀ s, Goes (.ok s) K (L0 (n : Int) s)) (s0 : ∀ a, a < n → ∀ s, Goes (.ok s) (fun s => L1 (a : Int) ((a + 1 : Nat) : Int) s) (L0 (a : Int) s))
  (e1 : ∀ a, a < n → ∀ s, Goes (.ok s) (fun s => L0 ((a + 1 : Nat) : Int) s) (L1 (a : Int) (n : Int) s)) (s1 : ∀ a b, a < b → b < n → ∀ s, Goes (.ok s) (fun s => L2 (a : Int) (b : Int) ((b + 1 : Nat) : Int) s) (L1 (a : Int) (b : Int) s))
  (e2 : ∀ a b, a < b → b < n → ∀ s, Goes (.ok s) (fun s => L1 (a : Int) ((b + 1 : Nat) : Int) s) (L2 (a : Int) (b : Int) (n : Int) s))
  (hb : ∀ a b c, a < b → b < c → c < n → ∀ s, Goes (dec s (a, b, c)) (fun s => L2 (a : Int) (b : Int) ((c + 1 : Nat) : Int) s) (L2 (a : Int) (b : Int) (c : Int) s)) (s : σ) : Goes ((Xi n).foldlM dec s) K (L0 0 s) := by
 refine Goes.cast (jFh (n := n) (K := K) (L0 := L0) (L1 := L1) (fun s p => (Yn n p.2).foldlM (fun s c => dec s (p.1, p.2, c)) s) e0 s0 e1 (fun a b hab hb' s => ?_) s) ?_
 ·exact Goes.map (fun _ => s1 a b hab hb' s _) (Vx (K := fun s => L1 (a : Int) ((b + 1 : Nat) : Int) s) (L := L2 (a : Int) (b : Int)) (fun s c => dec s (a, b, c)) (e2 a b hab hb') (fun c hl hc s => hb a b c hab (by omega) hc s) (by omega) s)
 ·simp only [Y2, Xi, Yo, Kg]
theorem jP9 {L0 : Int → σ → Nat → Option ρ} {L1 : Int → Int → σ → Nat → Option ρ} {L2 : Int → Int → Int → σ → Nat → Option ρ} {L3 : Int → Int → Int → Int → σ → Nat → Option ρ} (dec : σ → Nat × Nat × Nat × Nat → Except ρ σ)
  (e0 : ∀ s, Goes (.ok s) K (L0 (n : Int) s)) (s0 : ∀ a, a < n → ∀ s, Goes (.ok s) (fun s => L1 (a : Int) ((a + 1 : Nat) : Int) s) (L0 (a : Int) s))
  (e1 : ∀ a, a < n → ∀ s, Goes (.ok s) (fun s => L0 ((a + 1 : Nat) : Int) s) (L1 (a : Int) (n : Int) s)) (s1 : ∀ a b, a < b → b < n → ∀ s, Goes (.ok s) (fun s => L2 (a : Int) (b : Int) ((b + 1 : Nat) : Int) s) (L1 (a : Int) (b : Int) s))
  (e2 : ∀ a b, a < b → b < n → ∀ s, Goes (.ok s) (fun s => L1 (a : Int) ((b + 1 : Nat) : Int) s) (L2 (a : Int) (b : Int) (n : Int) s)) (s2 : ∀ a b c, a < b → b < c → c < n → ∀ s, Goes (.ok s) (fun s => L3 (a : Int) (b : Int) (c : Int) ((c + 1 : Nat) : Int) s) (L2 (a : Int) (b : Int) (c : Int) s))
  (e3 : ∀ a b c, a < b → b < c → c < n → ∀ s, Goes (.ok s) (fun s => L2 (a : Int) (b : Int) ((c + 1 : Nat) : Int) s) (L3 (a : Int) (b : Int) (c : Int) (n : Int) s))
  (hb : ∀ a b c d, a < b → b < c → c < d → d < n → ∀ s, Goes (dec s (a, b, c, d)) (fun s => L3 (a : Int) (b : Int) (c : Int) ((d + 1 : Nat) : Int) s) (L3 (a : Int) (b : Int) (c : Int) (d : Int) s)) (s : σ) : Goes ((Z4 n).foldlM dec s) K (L0 0 s) := by
 refine Goes.cast (jN3 (n := n) (K := K) (L0 := L0) (L1 := L1) (L2 := L2) (fun s p => (Yn n p.2.2).foldlM (fun s d => dec s (p.1, p.2.1, p.2.2, d)) s) e0 s0 e1 s1 e2 (fun a b c hab hbc hc s => ?_) s) ?_
 ·exact Goes.map (fun _ => s2 a b c hab hbc hc s _) (Vx (lo := c + 1) (n := n) (K := fun s => L2 (a : Int) (b : Int) ((c + 1 : Nat) : Int) s) (L := L3 (a : Int) (b : Int) (c : Int)) (fun s d => dec s (a, b, c, d)) (e3 a b c hab hbc hc) (fun d hl hd s => hb a b c d hab hbc (by omega) hd s) (by omega) s)
 ·simp only [Xi, Z4, Yo, Kg]
theorem jBy {α : Type} (len : σ → Nat) {dec : σ → α → Except ρ σ} (hl : ∀ s x s', dec s x = .ok s' → len s' ≤ len s + 1) (l : List α) : ∀ s s', l.foldlM dec s = .ok s' → len s' ≤ len s + l.length := by
 induction l with
 | nil => intro s s' h; cases h; exact Nat.le_refl _
 | cons x l ih =>
  intro s s' h
  rw [List.foldlM_cons] at h
  cases hd : dec s x with
  | error v => rw [hd] at h; cases h
  | ok s1 =>
   rw [hd] at h
   have h1 := hl _ _ _ hd
   have h2 := ih s1 s' h
   rw [List.length_cons]
   omega
theorem Y8 (n a : Nat) : (Yn n a).length = n - (a + 1) := List.length_range' ..
theorem jKd {L0 : Int → σ → Nat → Option ρ} {L1 : Int → Int → σ → Nat → Option ρ} (hn : n ≤ 7) (len : σ → Nat) (B : Nat) (dec : σ → Nat × Nat → Except ρ σ) (hl : ∀ s x s', dec s x = .ok s' → len s' ≤ len s + 1)
  (e0 : ∀ s, Goes (.ok s) K (L0 (n : Int) s)) (s0 : ∀ a, a < n → ∀ s, Goes (.ok s) (fun s => L1 (a : Int) ((a + 1 : Nat) : Int) s) (L0 (a : Int) s))
  (e1 : ∀ a, a < n → ∀ s, Goes (.ok s) (fun s => L0 ((a + 1 : Nat) : Int) s) (L1 (a : Int) (n : Int) s))
  (hb : ∀ a b, a < b → b < n → ∀ s, len s ≤ B + 49 → Goes (dec s (a, b)) (fun s => L1 (a : Int) ((b + 1 : Nat) : Int) s) (L1 (a : Int) (b : Int) s)) (s : σ) (hs : len s ≤ B) : Goes ((Y2 n).foldlM dec s) K (L0 0 s) := by
 have h := X7 (K := K) (L := L0) (lo := 0) (n := n) (fun a s => len s ≤ B + 7 * a) (fun s a => (Yn n a).foldlM (fun s b => dec s (a, b)) s) (fun s _ => e0 s) (fun a _ ha s hs => ?_) (fun a _ ha s hs s' e => ?_) (by omega) s (by omega)
 ·refine Goes.cast h ?_
  rw [Y2, Yo]
  simp only [Kg, Nat.sub_zero]
 ·exact Goes.map (fun _ => s0 a ha s _) (X7 (lo := a + 1) (n := n) (K := fun s => L0 ((a + 1 : Nat) : Int) s) (L := L1 (a : Int)) (fun b s => len s ≤ B + 7 * a + b) (fun s b => dec s (a, b)) (fun s _ => e1 a ha s)
   (fun b hlo hb' s hs => hb a b (by omega) hb' s (by omega)) (fun b hlo hb' s hs s' e => by have := hl _ _ _ e; omega) (by omega) s (by omega))
 ·have := jBy len (fun s x s' => hl s (a, x) s') _ _ _ e
  rw [Y8] at this
  omega
theorem jJm {L0 : Int → σ → Nat → Option ρ} {L1 : Int → Int → σ → Nat → Option ρ} {L2 : Int → Int → Int → σ → Nat → Option ρ} (hn : n ≤ 7) (len : σ → Nat) (B : Nat) (dec : σ → Nat × Nat × Nat → Except ρ σ) (hl : ∀ s x s', dec s x = .ok s' → len s' ≤ len s + 1)
  (e0 : ∀ s, Goes (.ok s) K (L0 (n : Int) s)) (s0 : ∀ a, a < n → ∀ s, Goes (.ok s) (fun s => L1 (a : Int) ((a + 1 : Nat) : Int) s) (L0 (a : Int) s))
  (e1 : ∀ a, a < n → ∀ s, Goes (.ok s) (fun s => L0 ((a + 1 : Nat) : Int) s) (L1 (a : Int) (n : Int) s)) (s1 : ∀ a b, a < b → b < n → ∀ s, Goes (.ok s) (fun s => L2 (a : Int) (b : Int) ((b + 1 : Nat) : Int) s) (L1 (a : Int) (b : Int) s))
  (e2 : ∀ a b, a < b → b < n → ∀ s, Goes (.ok s) (fun s => L1 (a : Int) ((b + 1 : Nat) : Int) s) (L2 (a : Int) (b : Int) (n : Int) s))
  (hb : ∀ a b c, a < b → b < c → c < n → ∀ s, len s ≤ B + 343 → Goes (dec s (a, b, c)) (fun s => L2 (a : Int) (b : Int) ((c + 1 : Nat) : Int) s) (L2 (a : Int) (b : Int) (c : Int) s)) (s : σ) (hs : len s ≤ B) : Goes ((Xi n).foldlM dec s) K (L0 0 s) := by
 have h := X7 (K := K) (L := L0) (lo := 0) (n := n) (fun a s => len s ≤ B + 49 * a) (fun s a => (Yn n a).foldlM (fun s b => (Yn n b).foldlM (fun s c => dec s (a, b, c)) s) s) (fun s _ => e0 s) (fun a _ ha s hs => ?_) (fun a _ ha s hs s' e => ?_) (by omega) s (by omega)
 ·refine Goes.cast h ?_
  rw [Xi, Yo]
  simp only [Kg, Yo, Nat.sub_zero]
 ·refine Goes.map (fun _ => s0 a ha s _) (X7 (lo := a + 1) (n := n) (K := fun s => L0 ((a + 1 : Nat) : Int) s) (L := L1 (a : Int)) (fun b s => len s ≤ B + 49 * a + 7 * b) (fun s b => (Yn n b).foldlM (fun s c => dec s (a, b, c)) s) (fun s _ => e1 a ha s)
   (fun b hlo hb' s hs => ?_) (fun b hlo hb' s hs s' e => ?_) (by omega) s (by omega))
  ·exact Goes.map (fun _ => s1 a b (by omega) hb' s _) (X7 (lo := b + 1) (n := n) (K := fun s => L1 (a : Int) ((b + 1 : Nat) : Int) s) (L := L2 (a : Int) (b : Int)) (fun c s => len s ≤ B + 49 * a + 7 * b + c) (fun s c => dec s (a, b, c)) (fun s _ => e2 a b (by omega) hb' s)
    (fun c hl' hc s hs => hb a b c (by omega) (by omega) hc s (by omega)) (fun c hl' hc s hs s' e => by have := hl _ _ _ e; omega) (by omega) s (by omega))
  ·have := jBy len (fun s x s' => hl s (a, b, x) s') _ _ _ e
   rw [Y8] at this
   omega
 ·have key : ∀ (l : List Nat), ∀ s s', l.foldlM (fun s b => (Yn n b).foldlM (fun s c => dec s (a, b, c)) s) s = .ok s' → len s' ≤ len s + 7 * l.length := by
   intro l
   induction l with
   | nil => intro s s' h; cases h; exact Nat.le_refl _
   | cons x l ih =>
    intro s s' h
    rw [List.foldlM_cons] at h
    cases hd : (Yn n x).foldlM (fun s c => dec s (a, x, c)) s with
    | error v => rw [hd] at h; cases h
    | ok s1 =>
     rw [hd] at h
     have h1 := jBy len (fun s y s' => hl s (a, x, y) s') _ _ _ hd
     have h2 := ih s1 s' h
     rw [Y8] at h1
     rw [List.length_cons]
     omega
  have := key _ _ _ e
  rw [Y8] at this
  omega
theorem jEz {n : Nat} (hn : n ≤ 7) {α : Type} (len : σ → Nat) (w : Nat) {dec : σ → α → Except ρ σ} (hl : ∀ s x s', dec s x = .ok s' → len s' ≤ len s + w) (l : List α) : ∀ s s', l.foldlM dec s = .ok s' → len s' ≤ len s + w * l.length := by
 induction l with
 | nil => intro s s' h; cases h; exact Nat.le_refl _
 | cons x l ih =>
  intro s s' h
  rw [List.foldlM_cons] at h
  cases hd : dec s x with
  | error v => rw [hd] at h; cases h
  | ok s1 =>
   rw [hd] at h
   have h1 := hl _ _ _ hd
   have h2 := ih s1 s' h
   rw [List.length_cons, Nat.mul_succ]
   omega
set_option maxRecDepth 8000 in
theorem jPa {L0 : Int → σ → Nat → Option ρ} {L1 : Int → Int → σ → Nat → Option ρ} {L2 : Int → Int → Int → σ → Nat → Option ρ} {L3 : Int → Int → Int → Int → σ → Nat → Option ρ} (hn : n ≤ 7) (len : σ → Nat) (B : Nat) (dec : σ → Nat × Nat × Nat × Nat → Except ρ σ) (hl : ∀ s x s', dec s x = .ok s' → len s' ≤ len s + 1)
  (e0 : ∀ s, Goes (.ok s) K (L0 (n : Int) s)) (s0 : ∀ a, a < n → ∀ s, Goes (.ok s) (fun s => L1 (a : Int) ((a + 1 : Nat) : Int) s) (L0 (a : Int) s))
  (e1 : ∀ a, a < n → ∀ s, Goes (.ok s) (fun s => L0 ((a + 1 : Nat) : Int) s) (L1 (a : Int) (n : Int) s)) (s1 : ∀ a b, a < b → b < n → ∀ s, Goes (.ok s) (fun s => L2 (a : Int) (b : Int) ((b + 1 : Nat) : Int) s) (L1 (a : Int) (b : Int) s))
  (e2 : ∀ a b, a < b → b < n → ∀ s, Goes (.ok s) (fun s => L1 (a : Int) ((b + 1 : Nat) : Int) s) (L2 (a : Int) (b : Int) (n : Int) s)) (s2 : ∀ a b c, a < b → b < c → c < n → ∀ s, Goes (.ok s) (fun s => L3 (a : Int) (b : Int) (c : Int) ((c + 1 : Nat) : Int) s) (L2 (a : Int) (b : Int) (c : Int) s))
  (e3 : ∀ a b c, a < b → b < c → c < n → ∀ s, Goes (.ok s) (fun s => L2 (a : Int) (b : Int) ((c + 1 : Nat) : Int) s) (L3 (a : Int) (b : Int) (c : Int) (n : Int) s))
  (hb : ∀ a b c d, a < b → b < c → c < d → d < n → ∀ s, len s ≤ B + 2401 → Goes (dec s (a, b, c, d)) (fun s => L3 (a : Int) (b : Int) (c : Int) ((d + 1 : Nat) : Int) s) (L3 (a : Int) (b : Int) (c : Int) (d : Int) s)) (s : σ) (hs : len s ≤ B) : Goes ((Z4 n).foldlM dec s) K (L0 0 s) := by
 have f3 : ∀ a b c : Nat, ∀ s s', (Yn n c).foldlM (fun s d => dec s (a, b, c, d)) s = .ok s' → len s' ≤ len s + 7 := fun a b c s s' h => by
  have := jBy len (fun s x s' => hl s (a, b, c, x) s') _ _ _ h
  rw [Y8] at this
  omega
 have f2 : ∀ a b : Nat, ∀ s s', (Yn n b).foldlM (fun s c => (Yn n c).foldlM (fun s d => dec s (a, b, c, d)) s) s = .ok s' → len s' ≤ len s + 49 := fun a b s s' h => by
  have := jEz hn len 7 (fun s x s' => f3 a b x s s') _ _ _ h
  rw [Y8] at this
  omega
 have f1 : ∀ a : Nat, ∀ s s', (Yn n a).foldlM (fun s b => (Yn n b).foldlM (fun s c => (Yn n c).foldlM (fun s d => dec s (a, b, c, d)) s) s) s = .ok s' → len s' ≤ len s + 343 := fun a s s' h => by
  have := jEz hn len 49 (fun s x s' => f2 a x s s') _ _ _ h
  rw [Y8] at this
  omega
 have h := X7 (K := K) (L := L0) (lo := 0) (n := n) (fun a s => len s ≤ B + 343 * a) (fun s a => (Yn n a).foldlM (fun s b => (Yn n b).foldlM (fun s c => (Yn n c).foldlM (fun s d => dec s (a, b, c, d)) s) s) s) (fun s _ => e0 s) (fun a _ ha s hs => ?_) (fun a _ ha s hs s' e => by have := f1 a _ _ e; omega) (by omega) s (by omega)
 ·refine Goes.cast h ?_
  rw [Z4, Yo]
  simp only [Kg, Yo, Nat.sub_zero]
 ·refine Goes.map (fun _ => s0 a ha s _) (X7 (lo := a + 1) (n := n) (K := fun s => L0 ((a + 1 : Nat) : Int) s) (L := L1 (a : Int)) (fun b s => len s ≤ B + 343 * a + 49 * b) (fun s b => (Yn n b).foldlM (fun s c => (Yn n c).foldlM (fun s d => dec s (a, b, c, d)) s) s) (fun s _ => e1 a ha s)
   (fun b hlo hb' s hs => ?_) (fun b hlo hb' s hs s' e => by have := f2 a b _ _ e; omega) (by omega) s (by omega))
  refine Goes.map (fun _ => s1 a b (by omega) hb' s _) (X7 (lo := b + 1) (n := n) (K := fun s => L1 (a : Int) ((b + 1 : Nat) : Int) s) (L := L2 (a : Int) (b : Int)) (fun c s => len s ≤ B + 343 * a + 49 * b + 7 * c) (fun s c => (Yn n c).foldlM (fun s d => dec s (a, b, c, d)) s) (fun s _ => e2 a b (by omega) hb' s)
   (fun c hl' hc s hs => ?_) (fun c hl' hc s hs s' e => by have := f3 a b c _ _ e; omega) (by omega) s (by omega))
  exact Goes.map (fun _ => s2 a b c (by omega) (by omega) hc s _) (X7 (lo := c + 1) (n := n) (K := fun s => L2 (a : Int) (b : Int) ((c + 1 : Nat) : Int) s) (L := L3 (a : Int) (b : Int) (c : Int)) (fun d s => len s ≤ B + 343 * a + 49 * b + 7 * c + d) (fun s d => dec s (a, b, c, d)) (fun s _ => e3 a b c (by omega) (by omega) hc s)
   (fun d hd' hd s hs => hb a b c d (by omega) (by omega) (by omega) hd s (by omega)) (fun d hd' hd s hs s' e => by have := hl _ _ _ e; omega) (by omega) s (by omega))
theorem Wq {α : Type} (g : σ → α → σ) (len : σ → Nat) (hg : ∀ s a, len (g s a) ≤ len s + 1) : ∀ s x s', (fun s a => (.ok (g s a) : Except ρ σ)) s x = .ok s' → len s' ≤ len s + 1 := by
 intro s x s' h
 cases h
 exact hg s x
end
end Go.Proofs.Ytckkfjdkaimmhaa.M
namespace Go.Proofs.Ytckkfjdkaimmhaa.M
open Go.RowKit Go.Proofs.YtckkfjdkaimmhaaW.PrintWords Go.Proofs.Ytckkfjdkaimmhaa.PX
def Xt (n : Nat) : List S99 := (List.range n).flatMap fun (i : Nat) => (List.range n).flatMap fun (j : Nat) => (List.range n).flatMap fun (k : Nat) => if i < j ∧ j < k then [(⟨(i : Int), (j : Int), (k : Int)⟩ : S99)] else []
theorem jC6 : (Qk.f 200 3 = some (Xt 3) ∧ Qk.f 200 4 = some (Xt 4) ∧ Qk.f 200 5 = some (Xt 5)) ∧ Qk.f 200 6 = some (Xt 6) ∧ Qk.f 200 7 = some (Xt 7) := by
 refine ⟨⟨?_, ?_, ?_⟩, ?_, ?_⟩ <;> kernel_rfl
theorem five {n : Nat} (h0 : 3 ≤ n) (h1 : n ≤ 7) {p : Nat → Prop} (a : p 3) (b : p 4) (c : p 5) (d : p 6) (e : p 7) : p n := by
 have : n = 3 ∨ n = 4 ∨ n = 5 ∨ n = 6 ∨ n = 7 := by omega
 rcases this with rfl | rfl | rfl | rfl | rfl <;> assumption
theorem jDa {n : Nat} (h0 : 3 ≤ n) (h1 : n ≤ 7) : Ev (fun k => Qk.f k (n : Int)) (Xt n) := by
 obtain ⟨⟨h3, h4, h5⟩, h6, h7⟩ := jC6
 refine five (p := fun n => Ev (fun k => Qk.f k (n : Int)) (Xt n)) h0 h1 ?_ ?_ ?_ ?_ ?_
 ·exact Ev.of (Qk.mono 3) h3
 ·exact Ev.of (Qk.mono 4) h4
 ·exact Ev.of (Qk.mono 5) h5
 ·exact Ev.of (Qk.mono 6) h6
 ·exact Ev.of (Qk.mono 7) h7
theorem jHc {n : Nat} (h0 : 3 ≤ n) (h1 : n ≤ 7) : Xt n = (Xi n).map fun q => ⟨(q.1 : Int), (q.2.1 : Int), (q.2.2 : Int)⟩ := by
 refine five (p := fun n => Xt n = (Xi n).map fun q => ⟨(q.1 : Int), (q.2.1 : Int), (q.2.2 : Int)⟩) h0 h1 ?_ ?_ ?_ ?_ ?_ <;> kernel_rfl
theorem jPr {ts : List S99} {i : Nat} (h : i < ts.length) : Qu ts (i : Int) = ts[i] := by
 unfold Qu
 rw [Int.toNat_natCast, List.getD_eq_getElem?_getD, List.getElem?_eq_getElem h]
 rfl
end Go.Proofs.Ytckkfjdkaimmhaa.M
namespace Go.Proofs.Ytckkfjdkaimmhaa.M
open Go.RowKit Go.Proofs.YtckkfjdkaimmhaaW.PrintWords Go.Proofs.Ytckkfjdkaimmhaa.PX Go.Proofs.Ytckkfjdkaimmhaa.G
def sgB (t : ByteArray) (m : Nat) : Int := if bt t (m : Int) = 45 then -1 else 1
theorem jF6 (t : ByteArray) (m : Nat) : sgB t m = 1 ∨ sgB t m = -1 := by unfold sgB; split <;> simp
def six (i j k m x : Nat) : Option (Bool × Nat) :=
 if x = ix3 j i k then some (true, m) else if x = ix3 k j i then some (true, m) else if x = ix3 i k j then some (true, m)
 else if x = ix3 k i j then some (false, m) else if x = ix3 j k i then some (false, m) else if x = ix3 i j k then some (false, m) else none
def V3 : List S99 → Nat → Nat → Option (Bool × Nat)
 | [], _, _ => none
 | y :: r, m, x => match V3 r (m + 1) x with
  | some z => some z
  | none => six y.f0.toNat y.f1.toNat y.f2.toNat m x
def sgv (neg : Bool) (s : Int) : Int := if neg then -s else s
def Wh (t : ByteArray) : List Int → List S99 → Nat → List Int
 | l, [], _ => l
 | l, y :: r, m => Wh t (jLm l y.f0.toNat y.f1.toNat y.f2.toNat (sgB t m)) r (m + 1)
theorem Wl (l : List Int) (m x : Nat) (v : Int) (hx : x < l.length) : (l.set m v).getD x 0 = if x = m then v else l.getD x 0 := by
 simp only [List.getD_eq_getElem?_getD, List.getElem?_set]
 by_cases h : m = x
 ·subst h; simp [hx]
 ·rw [if_neg h, if_neg (fun e => h e.symm)]
theorem jJo (l : List Int) (i j k m x : Nat) (s : Int) (hx : x < l.length) :
  (jLm l i j k s).getD x 0 = match six i j k m x with | some z => sgv z.1 s | none => l.getD x 0 := by
 unfold jLm six
 rw [Wl _ _ _ _ (by simp only [List.length_set]; exact hx), Wl _ _ _ _ (by simp only [List.length_set]; exact hx), Wl _ _ _ _ (by simp only [List.length_set]; exact hx),
  Wl _ _ _ _ (by simp only [List.length_set]; exact hx), Wl _ _ _ _ (by simp only [List.length_set]; exact hx), Wl _ _ _ _ hx]
 split
 ·rfl
 split
 ·rfl
 split
 ·rfl
 split
 ·rfl
 split
 ·rfl
 split <;> rfl
theorem jOw {i j k m x : Nat} {z : Bool × Nat} (h : six i j k m x = some z) : z.2 = m := by
 unfold six at h
 (repeat' split at h) <;> first | (cases h; rfl) | cases h
theorem jAa (t : ByteArray) : ∀ (ts : List S99) (l : List Int) (m : Nat), (Wh t l ts m).length = l.length
 | [], _, _ => rfl
 | y :: r, l, m => by rw [Wh, jAa t r, Uq]
theorem U8 (t : ByteArray) (x : Nat) : ∀ (ts : List S99) (l : List Int) (m : Nat), x < l.length →
  (Wh t l ts m).getD x 0 = match V3 ts m x with | some z => sgv z.1 (sgB t z.2) | none => l.getD x 0
 | [], _, _, _ => rfl
 | y :: r, l, m, hx => by
  rw [Wh, U8 t x r _ _ (by rw [Uq]; exact hx), V3]
  cases V3 r (m + 1) x with
  | some z => rfl
  | none =>
   simp only []
   rw [jJo _ _ _ _ m _ _ hx]
   cases hz : six y.f0.toNat y.f1.toNat y.f2.toNat m x with
   | none => rfl
   | some z => rw [← jOw hz]
def Vv (n : Nat) (t : ByteArray) : List Int := Wh t ((n : Int) :: List.replicate 343 (0 : Int)) (Xt n) 0
theorem Vw (n : Nat) (t : ByteArray) : (Vv n t).length = 344 := by
 unfold Vv
 rw [jAa, List.length_cons, List.length_replicate]
def chi (n : Nat) (t : ByteArray) (i j k : Nat) : Int := match V3 (Xt n) 0 (ix3 i j k) with | some z => sgv z.1 (sgB t z.2) | none => 0
theorem Wi (n : Nat) (t : ByteArray) (i j k : Nat) (hi : i < 7) (hj : j < 7) (hk : k < 7) : rd3 (Vv n t) (i : Int) (j : Int) (k : Int) = chi n t i j k := by
 have hx : ix3 i j k < 344 := by unfold ix3; omega
 have e : rd3 (Vv n t) (i : Int) (j : Int) (k : Int) = (Vv n t).getD (ix3 i j k) 0 := by
  unfold rd3 rd
  have : (1 + (i : Int) * 49 + (j : Int) * 7 + (k : Int)).toNat = ix3 i j k := by unfold ix3; omega
  rw [this]
 rw [e]
 unfold Vv chi
 rw [U8 t _ _ _ _ (by rw [List.length_cons, List.length_replicate]; exact hx)]
 have h0 : ((n : Int) :: List.replicate 343 (0 : Int)).getD (ix3 i j k) 0 = 0 := by
  have : ix3 i j k = (i * 49 + j * 7 + k) + 1 := by unfold ix3; omega
  rw [this, List.getD_cons_succ, List.getD_eq_getElem?_getD, List.getElem?_replicate]
  split <;> rfl
 rw [h0]
theorem jEa (n : Nat) (t : ByteArray) : rd (Vv n t) 0 = n := by
 have e : rd (Vv n t) 0 = (Vv n t).getD 0 0 := rfl
 rw [e]
 unfold Vv
 rw [U8 t 0 _ _ _ (by rw [List.length_cons]; omega)]
 have h : ∀ (ts : List S99) (m : Nat), V3 ts m 0 = none := by
  intro ts
  induction ts with
  | nil => intro m; rfl
  | cons y r ih =>
   intro m
   rw [V3, ih]
   have hp : ∀ a b c : Nat, ¬ 0 = ix3 a b c := fun a b c => by unfold ix3; omega
   simp only [six]
   rw [if_neg (hp _ _ _), if_neg (hp _ _ _), if_neg (hp _ _ _), if_neg (hp _ _ _), if_neg (hp _ _ _), if_neg (hp _ _ _)]
 rw [h]
 rfl
def jJe (ts : List S99) : Bool := ts.all fun y => decide (0 ≤ y.f0) && decide (y.f0 < 7) && decide (0 ≤ y.f1) && decide (y.f1 < 7) && decide (0 ≤ y.f2) && decide (y.f2 < 7)
theorem jHp (l : List Int) (a b c s : Int) (hl : l.length = 344) (ha : 0 ≤ a ∧ a < 7) (hb : 0 ≤ b ∧ b < 7) (hc : 0 ≤ c ∧ c < 7) (hs : s = 1 ∨ s = -1) : J9.f l a b c s = some (jLm l a.toNat b.toNat c.toNat s) := by
 unfold J9.f
 rw [if_pos ⟨hl, ha, hb, hc, by omega, by omega⟩]
theorem jF4 (n : Int) (t : ByteArray) (ts : List S99) (hts : jJe ts = true) (hn : ts.length ≤ 100) (htt : ts.length ≤ t.size) (d : Nat) : ∀ (i : Nat) (l : List Int), i + d = ts.length → l.length = 344 →
  Ev (fun k => Zy.l0 k l ts (ts.length : Int) (i : Int) n t) (Wh t l (ts.drop i) i) := by
 induction d with
 | zero =>
  intro i l hi hl
  rw [List.drop_of_length_le (by omega)]
  refine Ji ?_
  simp only [Zy.l0]
  exact Jn (by omega) (Ev.now _)
 | succ d ih =>
  intro i l hi hl
  have hlt : i < ts.length := by omega
  rw [List.drop_eq_getElem_cons hlt, Wh]
  have hy := List.all_eq_true.1 hts ts[i] (List.getElem_mem hlt)
  simp only [Bool.and_eq_true, decide_eq_true_eq] at hy
  obtain ⟨⟨⟨⟨⟨a0, a1⟩, b0⟩, b1⟩, c0⟩, c1⟩ := hy
  have hr : Qu ts (i : Int) = ts[i] := by
   unfold Qu
   rw [Int.toNat_natCast, List.getD_eq_getElem?_getD, List.getElem?_eq_getElem hlt]
   rfl
  refine Ji ?_
  simp only [Zy.l0, hr]
  refine Qm (by omega) (Qm (by omega) (Qm (by omega) (Qm (by omega) ?_)))
  rw [Qp (by omega) (by omega)]
  have hn := fun s => ih (i + 1) (jLm l ts[i].f0.toNat ts[i].f1.toNat ts[i].f2.toNat s) (by omega) (by rw [Uq]; exact hl)
  by_cases h : bt t (i : Int) = 45
  ·have hsg : sgB t i = -1 := by unfold sgB; rw [if_pos h]
   rw [hsg]
   exact Qm h (Qm hl (Zv (jHp l _ _ _ (-1) hl ⟨a0, a1⟩ ⟨b0, b1⟩ ⟨c0, c1⟩ (Or.inr rfl)) (hn _)))
  ·have hsg : sgB t i = 1 := by unfold sgB; rw [if_neg h]
   rw [hsg]
   exact Jn h (Qm hl (Zv (jHp l _ _ _ 1 hl ⟨a0, a1⟩ ⟨b0, b1⟩ ⟨c0, c1⟩ (Or.inl rfl)) (hn _)))
def jKp (n : Nat) : Bool := jJe (Xt n) && decide (((Xt n).length : Int) = jI4 n)
theorem jBf {n : Nat} (h0 : 3 ≤ n) (h1 : n ≤ 7) : jJe (Xt n) = true ∧ ((Xt n).length : Int) = jI4 n := by
 have h : jKp n = true := by refine five (p := fun n => jKp n = true) h0 h1 ?_ ?_ ?_ ?_ ?_ <;> decide +kernel
 simpa [jKp] using h
theorem jBg {n : Nat} {t : ByteArray} (h : Y1 n t = true) : Ev (fun k => Zy.f k (n : Int) t) (Vv n t) := by
 obtain ⟨⟨h0, h1⟩, h2, _⟩ := (Z7 _ _).1 h
 have h0 : 3 ≤ n := by omega
 have h1 : n ≤ 7 := by omega
 obtain ⟨hs, hc⟩ := jBf h0 h1
 have hz := jBm h
 unfold Zy.f Vv
 refine Ev.bind (jDa h0 h1) ?_
 have := jF4 n t (Xt n) hs (by omega) (by omega) (Xt n).length 0 ((n : Int) :: List.replicate 343 (0 : Int)) (by omega) (by rw [List.length_cons, List.length_replicate])
 exact this
end Go.Proofs.Ytckkfjdkaimmhaa.M
namespace Go.Proofs.Ytckkfjdkaimmhaa.M
open Go.RowKit Go.Proofs.YtckkfjdkaimmhaaW.PrintWords Go.Proofs.Ytckkfjdkaimmhaa.G
def jRz (z : Option (Bool × Nat)) : Option (Bool × Nat) := z.map fun z => (!z.1, z.2)
def jQv (n a b c : Nat) : Bool := decide (V3 (Xt n) 0 (ix3 b a c) = jRz (V3 (Xt n) 0 (ix3 a b c))) && decide (V3 (Xt n) 0 (ix3 a c b) = jRz (V3 (Xt n) 0 (ix3 a b c))) && (!(decide (a < n) && decide (b < n) && decide (c < n) && decide (a ≠ b) && decide (b ≠ c) && decide (a ≠ c)) || (V3 (Xt n) 0 (ix3 a b c)).isSome)
def jQ3 (n : Nat) : Bool := (List.range 7).all fun a => (List.range 7).all fun b => (List.range 7).all fun c => jQv n a b c
theorem jK3 {n : Nat} (h0 : 3 ≤ n) (h1 : n ≤ 7) : jQ3 n = true := by
 refine five (p := fun n => jQ3 n = true) h0 h1 ?_ ?_ ?_ ?_ ?_ <;> decide +kernel
theorem jG9 {n a b c : Nat} (h0 : 3 ≤ n) (h1 : n ≤ 7) (ha : a < 7) (hb : b < 7) (hc : c < 7) : jQv n a b c = true := by
 have h := jK3 h0 h1
 have h := List.all_eq_true.1 h a (List.mem_range.2 ha)
 have h := List.all_eq_true.1 h b (List.mem_range.2 hb)
 exact List.all_eq_true.1 h c (List.mem_range.2 hc)
theorem jKn {n a b c a' b' c' : Nat} (t : ByteArray) (h : V3 (Xt n) 0 (ix3 a' b' c') = jRz (V3 (Xt n) 0 (ix3 a b c))) : chi n t a' b' c' = -chi n t a b c := by
 unfold chi
 rw [h]
 cases V3 (Xt n) 0 (ix3 a b c) with
 | none => rfl
 | some z =>
  obtain ⟨b, m⟩ := z
  cases b
  ·rfl
  ·show sgB t m = - -sgB t m
   omega
theorem Vl {n a b c : Nat} (t : ByteArray) (h0 : 3 ≤ n) (h1 : n ≤ 7) (ha : a < 7) (hb : b < 7) (hc : c < 7) : chi n t b a c = -chi n t a b c := by
 have h := jG9 h0 h1 ha hb hc
 simp only [jQv, Bool.and_eq_true, decide_eq_true_eq] at h
 exact jKn t h.1.1
theorem Vm {n a b c : Nat} (t : ByteArray) (h0 : 3 ≤ n) (h1 : n ≤ 7) (ha : a < 7) (hb : b < 7) (hc : c < 7) : chi n t a c b = -chi n t a b c := by
 have h := jG9 h0 h1 ha hb hc
 simp only [jQv, Bool.and_eq_true, decide_eq_true_eq] at h
 exact jKn t h.1.2
theorem Vf {n a b c : Nat} (t : ByteArray) (h0 : 3 ≤ n) (h1 : n ≤ 7) (ha : a < n) (hb : b < n) (hc : c < n) (hab : a ≠ b) (hbc : b ≠ c) (hac : a ≠ c) : chi n t a b c = 1 ∨ chi n t a b c = -1 := by
 have h := jG9 (n := n) (a := a) (b := b) (c := c) h0 h1 (by omega) (by omega) (by omega)
 simp only [jQv, Bool.and_eq_true] at h
 have h := h.2
 rw [decide_eq_true ha, decide_eq_true hb, decide_eq_true hc, decide_eq_true hab, decide_eq_true hbc, decide_eq_true hac] at h
 simp only [Bool.and_self, Bool.not_true, Bool.false_or] at h
 unfold chi
 cases hl : V3 (Xt n) 0 (ix3 a b c) with
 | none => rw [hl] at h; cases h
 | some z =>
  obtain ⟨b, m⟩ := z
  rcases jF6 t m with e | e <;> cases b <;> simp [sgv, e]
theorem jE3 (n : Nat) (t : ByteArray) (a b c : Nat) : chi n t a b c = 1 ∨ chi n t a b c = -1 ∨ chi n t a b c = 0 := by
 unfold chi
 cases V3 (Xt n) 0 (ix3 a b c) with
 | none => exact Or.inr (Or.inr rfl)
 | some z =>
  obtain ⟨b, m⟩ := z
  rcases jF6 t m with e | e <;> cases b <;> simp [sgv, e]
end Go.Proofs.Ytckkfjdkaimmhaa.M
namespace Go.Proofs.Ytckkfjdkaimmhaa.PX
open Go.RowKit Go.Proofs.Ytckkfjdkaimmhaa.G Go.Proofs.YtckkfjdkaimmhaaW.PrintWords Go.Proofs.YtckkfjdkaimmhaaW.PrintLast Go.Proofs.YtckkfjdkaimmhaaW.PrintMore
attribute [local go_sem] max2_int min2_int Yd Yg Xh Xf Xq Xp   -- for this text's walks alone
set_option linter.unusedVariables false
set_option linter.unusedSimpArgs false
mutual
def Ja.l0 : Nat → Int → Int → Int → Int → Int → Int → Option (Int)
 | 0, _, _, _, _, _, _ => none
 | k + 1, x0, x1, x2, x3, x9, aA => if aA < x1 then (Ja.l0 k x0 x1 x2 x3 (wrap64 (x9 + (wrap64 (Int.tdiv (wrap64 ((wrap64 ((wrap64 (x0 - 1)) - aA)) * (wrap64 ((wrap64 (x0 - 2)) - aA)))) 2)))) (wrap64 (aA + 1))) else (Ja.l1 k x0 x2 x3 x9 (wrap64 (x1 + 1)))
def Ja.l1 : Nat → Int → Int → Int → Int → Int → Option (Int)
 | 0, _, _, _, _, _ => none
 | k + 1, x0, x2, x3, x9, aA => if aA < x2 then (Ja.l1 k x0 x2 x3 (wrap64 ((wrap64 ((wrap64 (x9 + x0)) - 1)) - aA)) (wrap64 (aA + 1))) else (some (wrap64 ((wrap64 ((wrap64 (x9 + x3)) - x2)) - 1)))
end
def Ja.f (k : Nat) (a0 : Int) (a1 : Int) (a2 : Int) (a3 : Int) : Option (Int) := Ja.l0 k a0 a1 a2 a3 0 0
theorem Ja.mono_l : ∀ k, (∀ y0 y1 y2 y3 y4 y5, LeO (Ja.l0 k y0 y1 y2 y3 y4 y5) (Ja.l0 (k + 1) y0 y1 y2 y3 y4 y5)) ∧ (∀ y0 y1 y2 y3 y4, LeO (Ja.l1 k y0 y1 y2 y3 y4) (Ja.l1 (k + 1) y0 y1 y2 y3 y4))
 | 0 => ⟨fun _ _ _ _ _ _ r h => by simp [Ja.l0] at h, fun _ _ _ _ _ r h => by simp [Ja.l1] at h⟩
 | k + 1 => by
  obtain ⟨aA, ih1⟩ := Ja.mono_l k
  refine ⟨?_, ?_⟩ <;> intros <;> (first | unfold Ja.l0 | unfold Ja.l1) <;> repeat' first
  | (with_reducible first | exact aA .. | exact ih1 .. | exact LeO.refl _ | exact LeO.none _ | refine LeO.ite ?_ ?_ | refine LeO.bind ?_ (fun _ => ?_))
  | exact aA .. | exact ih1 .. | exact LeO.none _ | refine LeO.ite ?_ ?_ | refine LeO.bind ?_ (fun _ => ?_)
theorem Ja.mono : ∀ a0 a1 a2 a3 k, LeO (Ja.f k a0 a1 a2 a3) (Ja.f (k + 1) a0 a1 a2 a3) := by
 intro a0 a1 a2 a3 k
 obtain ⟨aA, ih1⟩ := Ja.mono_l k
 unfold Ja.f
 repeat' first
   | (with_reducible first | exact aA .. | exact ih1 .. | exact LeO.refl _ | exact LeO.none _ | refine LeO.ite ?_ ?_ | refine LeO.bind ?_ (fun _ => ?_))
   | exact aA .. | exact ih1 .. | exact LeO.none _ | refine LeO.ite ?_ ?_ | refine LeO.bind ?_ (fun _ => ?_)
set_option maxHeartbeats 8000000 in
set_option maxRecDepth 100000 in
theorem Ja.calls (k : Nat) (a0 : Int) (a1 : Int) (a2 : Int) (a3 : Int) (r : Int) (w : World) (h : Ja.f k a0 a1 a2 a3 = some r) :
  Calls Try.prog 156 #[.int .i64 a0, .int .i64 a1, .int .i64 a2, .int .i64 a3] w fun e w' => e = .returned (.int .i64 r) ∧ Qs w w' := by
 have H := h
 unfold Ja.f at H
 clear h
 have H' := Qa.mk H; clear H
 go_enter Try.func156, Try.ntmps156
 go_wp2
 go_loopg [9, 10] k (fun kq v9 v10 w' => ∃ (aD : Int) (aA : Int), v9 = .int .i64 aD ∧ v10 = .int .i64 aA ∧ Qa (Ja.l0 kq a0 a1 a2 a3 aD aA = some r) ∧ Qa (kq ≤ k) ∧ Qs w w')
 case atStart => exact ⟨(0), (0), zF, zF, H', ⟨Nat.le_refl _⟩, by repeat (first | exact Qs.refl _ | apply Qs.step)⟩
 case round =>
 clear H'
 obtain ⟨aD, aA, rfl, rfl, HA, aI, ⟨m1, rfl⟩⟩ := hrel
 cases gk with
 | zero => exact absurd HA.out (by simp [Ja.l0])
 | succ k1 =>
 have H := HA.out
 clear HA
 simp only [Ja.l0] at H
 replace H := Z5 H
 rcases H with ⟨aH, H⟩ | ⟨aH, H⟩
 ·have H' := Qa.mk H; clear H
  go_wp2
  go_roundg k1
  case measure => have := aI.out; omega
  case rel => exact ⟨(wrap64 (aD + (wrap64 (Int.tdiv (wrap64 ((wrap64 ((wrap64 (a0 - 1)) - aA)) * (wrap64 ((wrap64 (a0 - 2)) - aA)))) 2)))), (wrap64 (aA + 1)), zF, zF, H', ⟨by have := aI.out; omega⟩, by repeat (first | exact Qs.refl _ | apply Qs.step)⟩
 have H' := Qa.mk H; clear H
 go_wp2
 go_loopg [9, 11] k1 (fun kq v9 v11 w' => ∃ (aG : Int) (aC : Int), v9 = .int .i64 aG ∧ v11 = .int .i64 aC ∧ Qa (Ja.l1 kq a0 a2 a3 aG aC = some r) ∧ Qa (kq ≤ k1) ∧ Qs w w')
 case atStart => exact ⟨(aD), (wrap64 (a1 + 1)), zF, zF, H', ⟨Nat.le_refl _⟩, by repeat (first | exact Qs.refl _ | apply Qs.step)⟩
 case round =>
 clear H'
 try clear c5
 try clear aH
 obtain ⟨aG, aC, rfl, rfl, HA, aK, ⟨m2, rfl⟩⟩ := hrel
 cases gk with
 | zero => exact absurd HA.out (by simp [Ja.l1])
 | succ k2 =>
 have H := HA.out
 clear HA
 simp only [Ja.l1] at H
 replace H := Z5 H
 rcases H with ⟨aJ, H⟩ | ⟨aJ, H⟩
 ·have H' := Qa.mk H; clear H
  go_wp2
  go_roundg k2
  case measure => have := aI.out; have := aK.out; omega
  case rel => exact ⟨(wrap64 ((wrap64 ((wrap64 (aG + a0)) - 1)) - aC)), (wrap64 (aC + 1)), zF, zF, H', ⟨by have := aI.out; have := aK.out; omega⟩, by repeat (first | exact Qs.refl _ | apply Qs.step)⟩
 obtain rfl := Option.some.inj H
 go_wp2
 go_ret
 exact ⟨by first | rfl | (simp; done) | (simp [*]; done), by repeat (first | exact Qs.refl _ | apply Qs.step)⟩
mutual
def Jp.j0 : Nat → Int → Int → Int → Int → Int → ByteArray → Option (Int)
 | 0, _, _, _, _, _, _ => none
 | k + 1, x1, x2, x3, x9, aA, aC => if x2 > x3 then (Jp.j1 k x1 x3 x2 (wrap64 (-x9)) aA aC) else (Jp.j1 k x1 x2 x3 x9 aA aC)
def Jp.j1 : Nat → Int → Int → Int → Int → Int → ByteArray → Option (Int)
 | 0, _, _, _, _, _, _ => none
 | k + 1, x1, x2, x3, x9, aC, aA => if x1 > x2 then ((Ja.f k aC x2 x1 x3).bind fun aD => (if 0 ≤ aD then (if aD < (aA.size : Int) then (if (bt aA aD) = 45 then (some (wrap64 (-(wrap64 (-x9))))) else (some (wrap64 (-x9)))) else (none)) else (none))) else ((Ja.f k aC x1 x2 x3).bind fun aG => (if 0 ≤ aG then (if aG < (aA.size : Int) then (if (bt aA aG) = 45 then (some (wrap64 (-x9))) else (some x9)) else (none)) else (none)))
end
def Jp.f (k : Nat) (aA : Int) (aC : ByteArray) (a1 : Int) (a2 : Int) (a3 : Int) : Option (Int) := if a1 > a2 then (Jp.j0 k a2 a1 a3 (-1) aA aC) else (Jp.j0 k a1 a2 a3 1 aA aC)
set_option maxHeartbeats 8000000 in
set_option maxRecDepth 100000 in
theorem Jp.calls (k : Nat) (aG : Int) (aA : ByteArray) (a1 : Int) (a2 : Int) (a3 : Int) (r : Int) (w : World) (h : Jp.f k aG aA a1 a2 a3 = some r) :
  Calls Try.prog 144 #[.agg #[.int .i64 aG, .string aA], .int .i64 a1, .int .i64 a2, .int .i64 a3] w fun e w' => e = .returned (.int .i64 r) ∧ Below w.heap.size w w' := by
 have dF := Try.underlying25
 have HB := Qa.mk (Below.refl w.heap.size w)
 have H := h
 unfold Jp.f at H
 clear h
 have cO := Qa.mk H
 clear H
 go_enter Try.func144, Try.ntmps144
 go_upto_if 15 with (first | ((with_reducible refine Qf (N := 4) rfl ?_); refine zBx (N := 4) #[.int .i64 aG, .string aA] 25 ?_; intro aW hg w6 hbox hb; have aH := Qa.mk (hbox); have bD := zS hg; have aK := zS hg; replace HB := zX hb; clear hb hbox hg))
 repeat (go_quiet (first | ((with_reducible refine Qf (N := 4) rfl ?_); refine zBx (N := 4) #[.int .i64 aG, .string aA] 25 ?_; intro aW hg w6 hbox hb; have aH := Qa.mk (hbox); have bD := zS hg; have aK := zS hg; replace HB := zX hb; clear hb hbox hg)); go_upto_if 15 with (first | ((with_reducible refine Qf (N := 4) rfl ?_); refine zBx (N := 4) #[.int .i64 aG, .string aA] 25 ?_; intro aW hg w6 hbox hb; have aH := Qa.mk (hbox); have bD := zS hg; have aK := zS hg; replace HB := zX hb; clear hb hbox hg)))
 (try simp only [Act.put, List.setIfInBounds_toArray, List.set_cons_zero, List.set_cons_succ])
 go_cut [1, 2, 9] (fun v1 v2 v9 wc => ∃ (kq : Nat) (aI : Int) (aV : Int) (aY : Int), v1 = .int .i64 aI ∧ v2 = .int .i64 aV ∧ v9 = .int .i64 aY ∧ Qa (Jp.j0 kq aI aV a3 aY aG aA = some r) ∧ Qa (kq ≤ k) ∧ Qa (wc.heap[aW]? = some (.cells #[.int .i64 aG, .string aA] 25 (0, 0))) ∧ Qa (Below w.heap.size w wc))
 case first =>
  have H := cO.out
  clear cO
  replace H := Vt H
  rcases H with ⟨c7, H⟩ | ⟨c7, H⟩
  ·have aZ : decide (a2 < a1) = true := decide_eq_true c7
   clear c7
   (first | rw [aZ] | (simp only [Zu, Xo]; rw [aZ]) | skip)
   have H' := Qa.mk H; clear H
   go_wp2
   repeat (go_quiet (fail); try go_wp2)
   go_meet
   case rel => exact ⟨_, (a2), (a1), (-1), zF, zF, zF, H', ⟨by first | omega | exact Nat.le_refl _⟩, ⟨zK aH.out⟩, ⟨zG aK.out⟩⟩
  have aZ : decide (a2 < a1) = false := decide_eq_false c7
  clear c7
  (first | rw [aZ] | (simp only [Zu, Xo]; rw [aZ]) | skip)
  have H' := Qa.mk H; clear H
  go_wp2
  repeat (go_quiet (fail); try go_wp2)
  go_meet
  case rel => exact ⟨_, (a1), (a2), (1), zF, zF, zF, H', ⟨by first | omega | exact Nat.le_refl _⟩, ⟨zK aH.out⟩, ⟨zG aK.out⟩⟩
 case rest =>
 clear cO
 obtain ⟨kq, aI, aV, aY, rfl, rfl, rfl, HA, dA, aH, HB⟩ := hcut
 cases kq with
 | zero => exact absurd HA.out (by simp [Jp.j0])
 | succ dG =>
 have H := HA.out
 clear HA
 simp only [Jp.j0] at H
 have cZ := Qa.mk H
 clear H
 go_upto_if 23 with (fail)
 repeat (go_quiet (fail); go_upto_if 23 with (fail))
 go_cut [2, 3, 9] (fun v2 v3 v9 wc => ∃ (kq : Nat) (aJ : Int) (aM : Int) (bE : Int), v2 = .int .i64 aJ ∧ v3 = .int .i64 aM ∧ v9 = .int .i64 bE ∧ Qa (Jp.j1 kq aI aJ aM bE aG aA = some r) ∧ Qa (kq ≤ dG) ∧ Qa (wc.heap[aW]? = some (.cells #[.int .i64 aG, .string aA] 25 (0, 0))) ∧ Qa (Below w.heap.size w wc))
 case first =>
  have H := cZ.out
  clear cZ
  replace H := Vt H
  rcases H with ⟨c9, H⟩ | ⟨c9, H⟩
  ·have bA : decide (a3 < aV) = true := decide_eq_true c9
   clear c9
   (first | rw [bA] | (simp only [Zu, Xo]; rw [bA]) | skip)
   have H' := Qa.mk H; clear H
   go_wp2
   repeat (go_quiet (fail); try go_wp2)
   go_meet
   case rel => exact ⟨_, (a3), (aV), (wrap64 (-aY)), zF, zF, zF, H', ⟨by have := dA.out; first | omega | exact Nat.le_refl _⟩, ⟨zK aH.out⟩, ⟨zG aK.out⟩⟩
  have bA : decide (a3 < aV) = false := decide_eq_false c9
  clear c9
  (first | rw [bA] | (simp only [Zu, Xo]; rw [bA]) | skip)
  have H' := Qa.mk H; clear H
  go_wp2
  repeat (go_quiet (fail); try go_wp2)
  go_meet
  case rel => exact ⟨_, (aV), (a3), (aY), zF, zF, zF, H', ⟨by have := dA.out; first | omega | exact Nat.le_refl _⟩, ⟨zK aH.out⟩, ⟨zG aK.out⟩⟩
 case rest =>
 clear cZ
 obtain ⟨kq, aJ, aM, bE, rfl, rfl, rfl, HA, dH, aH, HB⟩ := hcut
 cases kq with
 | zero => exact absurd HA.out (by simp [Jp.j1])
 | succ aX =>
 have H := HA.out
 clear HA
 simp only [Jp.j1] at H
 replace H := Vt H
 rcases H with ⟨c10, H⟩ | ⟨c10, H⟩
 ·have bH : decide (aJ < aI) = true := decide_eq_true c10
  clear c10
  obtain ⟨aC, bF, H⟩ := zO H
  replace H := Zq H
  rcases H with ⟨dB, H⟩ | ⟨c12, H⟩
  ·replace H := Zq H
   rcases H with ⟨dC, H⟩ | ⟨c13, H⟩
   ·replace H := Zi H
    rcases H with ⟨bI, bJ, H⟩ | ⟨c15, bI, bJ, H⟩
    ·obtain rfl := Option.some.inj H
     obtain ⟨bM, bN, bO, bP⟩ := zq2 aH.out
     go_wp2_with (first | (go_at_call 156; (with_reducible refine (Ja.calls aX aG aJ aI aM aC _ bF.out).mono ?_); rintro e w' ⟨rfl, ⟨nd, rfl⟩⟩; (try first | exact ⟨rfl, _, World.drewN_drewN _ _ _⟩ | exact ⟨rfl, _, Eq.trans (World.drewN_drewN _ _ _) (congrArg (World.drewN _) (Nat.add_assoc _ _ _))⟩); have aN : 0 ≤ (aC : Int) := zA; have aQ : aC < (aA.size : Int) := zA; have bB := Ka aA aC; replace aN := eq_true aN; replace aQ := eq_true aQ))
     repeat (go_quiet (first | (go_at_call 156; (with_reducible refine (Ja.calls aX aG aJ aI aM aC _ bF.out).mono ?_); rintro e w' ⟨rfl, ⟨nd, rfl⟩⟩; (try first | exact ⟨rfl, _, World.drewN_drewN _ _ _⟩ | exact ⟨rfl, _, Eq.trans (World.drewN_drewN _ _ _) (congrArg (World.drewN _) (Nat.add_assoc _ _ _))⟩); have aN : 0 ≤ (aC : Int) := zA; have aQ : aC < (aA.size : Int) := zA; have bB := Ka aA aC; replace aN := eq_true aN; replace aQ := eq_true aQ)); try go_wp2_with (first | (go_at_call 156; (with_reducible refine (Ja.calls aX aG aJ aI aM aC _ bF.out).mono ?_); rintro e w' ⟨rfl, ⟨nd, rfl⟩⟩; (try first | exact ⟨rfl, _, World.drewN_drewN _ _ _⟩ | exact ⟨rfl, _, Eq.trans (World.drewN_drewN _ _ _) (congrArg (World.drewN _) (Nat.add_assoc _ _ _))⟩); have aN : 0 ≤ (aC : Int) := zA; have aQ : aC < (aA.size : Int) := zA; have bB := Ka aA aC; replace aN := eq_true aN; replace aQ := eq_true aQ)))
     go_ret
     exact ⟨zE, zG aK.out⟩
    obtain rfl := Option.some.inj H
    obtain ⟨bQ, bR, bS, bT⟩ := zq2 aH.out
    go_wp2_with (first | (go_at_call 156; (with_reducible refine (Ja.calls aX aG aJ aI aM aC _ bF.out).mono ?_); rintro e w' ⟨rfl, ⟨nd, rfl⟩⟩; (try first | exact ⟨rfl, _, World.drewN_drewN _ _ _⟩ | exact ⟨rfl, _, Eq.trans (World.drewN_drewN _ _ _) (congrArg (World.drewN _) (Nat.add_assoc _ _ _))⟩); have aN : 0 ≤ (aC : Int) := zA; have aQ : aC < (aA.size : Int) := zA; have bB := Ka aA aC; replace aN := eq_true aN; replace aQ := eq_true aQ))
    repeat (go_quiet (first | (go_at_call 156; (with_reducible refine (Ja.calls aX aG aJ aI aM aC _ bF.out).mono ?_); rintro e w' ⟨rfl, ⟨nd, rfl⟩⟩; (try first | exact ⟨rfl, _, World.drewN_drewN _ _ _⟩ | exact ⟨rfl, _, Eq.trans (World.drewN_drewN _ _ _) (congrArg (World.drewN _) (Nat.add_assoc _ _ _))⟩); have aN : 0 ≤ (aC : Int) := zA; have aQ : aC < (aA.size : Int) := zA; have bB := Ka aA aC; replace aN := eq_true aN; replace aQ := eq_true aQ)); try go_wp2_with (first | (go_at_call 156; (with_reducible refine (Ja.calls aX aG aJ aI aM aC _ bF.out).mono ?_); rintro e w' ⟨rfl, ⟨nd, rfl⟩⟩; (try first | exact ⟨rfl, _, World.drewN_drewN _ _ _⟩ | exact ⟨rfl, _, Eq.trans (World.drewN_drewN _ _ _) (congrArg (World.drewN _) (Nat.add_assoc _ _ _))⟩); have aN : 0 ≤ (aC : Int) := zA; have aQ : aC < (aA.size : Int) := zA; have bB := Ka aA aC; replace aN := eq_true aN; replace aQ := eq_true aQ)))
    go_ret
    exact ⟨zE, zG aK.out⟩
   exact absurd H (by simp)
  exact absurd H (by simp)
 have bH : decide (aJ < aI) = false := decide_eq_false c10
 clear c10
 obtain ⟨aD, bG, H⟩ := zO H
 replace H := Zq H
 rcases H with ⟨dD, H⟩ | ⟨c19, H⟩
 ·replace H := Zq H
  rcases H with ⟨dE, H⟩ | ⟨c20, H⟩
  ·replace H := Zi H
   rcases H with ⟨bK, bL, H⟩ | ⟨dI, bK, bL, H⟩
   ·obtain rfl := Option.some.inj H
    obtain ⟨bU, bV, bW, bX⟩ := zq2 aH.out
    go_wp2_with (first | (go_at_call 156; (with_reducible refine (Ja.calls aX aG aI aJ aM aD _ bG.out).mono ?_); rintro e w' ⟨rfl, ⟨nd, rfl⟩⟩; (try first | exact ⟨rfl, _, World.drewN_drewN _ _ _⟩ | exact ⟨rfl, _, Eq.trans (World.drewN_drewN _ _ _) (congrArg (World.drewN _) (Nat.add_assoc _ _ _))⟩); have aT : 0 ≤ (aD : Int) := zA; have aU : aD < (aA.size : Int) := zA; have bC := Ka aA aD; replace aT := eq_true aT; replace aU := eq_true aU))
    repeat (go_quiet (first | (go_at_call 156; (with_reducible refine (Ja.calls aX aG aI aJ aM aD _ bG.out).mono ?_); rintro e w' ⟨rfl, ⟨nd, rfl⟩⟩; (try first | exact ⟨rfl, _, World.drewN_drewN _ _ _⟩ | exact ⟨rfl, _, Eq.trans (World.drewN_drewN _ _ _) (congrArg (World.drewN _) (Nat.add_assoc _ _ _))⟩); have aT : 0 ≤ (aD : Int) := zA; have aU : aD < (aA.size : Int) := zA; have bC := Ka aA aD; replace aT := eq_true aT; replace aU := eq_true aU)); try go_wp2_with (first | (go_at_call 156; (with_reducible refine (Ja.calls aX aG aI aJ aM aD _ bG.out).mono ?_); rintro e w' ⟨rfl, ⟨nd, rfl⟩⟩; (try first | exact ⟨rfl, _, World.drewN_drewN _ _ _⟩ | exact ⟨rfl, _, Eq.trans (World.drewN_drewN _ _ _) (congrArg (World.drewN _) (Nat.add_assoc _ _ _))⟩); have aT : 0 ≤ (aD : Int) := zA; have aU : aD < (aA.size : Int) := zA; have bC := Ka aA aD; replace aT := eq_true aT; replace aU := eq_true aU)))
    go_ret
    exact ⟨zE, zG aK.out⟩
   obtain rfl := Option.some.inj H
   obtain ⟨bY, bZ, cB, cK⟩ := zq2 aH.out
   go_wp2_with (first | (go_at_call 156; (with_reducible refine (Ja.calls aX aG aI aJ aM aD _ bG.out).mono ?_); rintro e w' ⟨rfl, ⟨nd, rfl⟩⟩; (try first | exact ⟨rfl, _, World.drewN_drewN _ _ _⟩ | exact ⟨rfl, _, Eq.trans (World.drewN_drewN _ _ _) (congrArg (World.drewN _) (Nat.add_assoc _ _ _))⟩); have aT : 0 ≤ (aD : Int) := zA; have aU : aD < (aA.size : Int) := zA; have bC := Ka aA aD; replace aT := eq_true aT; replace aU := eq_true aU))
   repeat (go_quiet (first | (go_at_call 156; (with_reducible refine (Ja.calls aX aG aI aJ aM aD _ bG.out).mono ?_); rintro e w' ⟨rfl, ⟨nd, rfl⟩⟩; (try first | exact ⟨rfl, _, World.drewN_drewN _ _ _⟩ | exact ⟨rfl, _, Eq.trans (World.drewN_drewN _ _ _) (congrArg (World.drewN _) (Nat.add_assoc _ _ _))⟩); have aT : 0 ≤ (aD : Int) := zA; have aU : aD < (aA.size : Int) := zA; have bC := Ka aA aD; replace aT := eq_true aT; replace aU := eq_true aU)); try go_wp2_with (first | (go_at_call 156; (with_reducible refine (Ja.calls aX aG aI aJ aM aD _ bG.out).mono ?_); rintro e w' ⟨rfl, ⟨nd, rfl⟩⟩; (try first | exact ⟨rfl, _, World.drewN_drewN _ _ _⟩ | exact ⟨rfl, _, Eq.trans (World.drewN_drewN _ _ _) (congrArg (World.drewN _) (Nat.add_assoc _ _ _))⟩); have aT : 0 ≤ (aD : Int) := zA; have aU : aD < (aA.size : Int) := zA; have bC := Ka aA aD; replace aT := eq_true aT; replace aU := eq_true aU)))
   go_ret
   exact ⟨zE, zG aK.out⟩
  exact absurd H (by simp)
 exact absurd H (by simp)
end Go.Proofs.Ytckkfjdkaimmhaa.PX
namespace Go.Proofs.Ytckkfjdkaimmhaa.M
open Go.RowKit Go.Proofs.YtckkfjdkaimmhaaW.PrintWords Go.Proofs.Ytckkfjdkaimmhaa.PX Go.Proofs.Ytckkfjdkaimmhaa.G
def jSg (n a b c : Nat) : Bool :=
 match V3 (Xt n) 0 (ix3 a b c) with
 | some (false, p) => decide (p < (Xt n).length) && (Ja.f 60 (n : Int) (a : Int) (b : Int) (c : Int) == some (p : Int)) &&
   (V3 (Xt n) 0 (ix3 b c a) == some (false, p)) && (V3 (Xt n) 0 (ix3 c a b) == some (false, p)) &&
   (V3 (Xt n) 0 (ix3 a c b) == some (true, p)) && (V3 (Xt n) 0 (ix3 c b a) == some (true, p)) && (V3 (Xt n) 0 (ix3 b a c) == some (true, p))
 | _ => false
def jSd (n : Nat) : Bool := (List.range n).all fun a => (List.range n).all fun b => (List.range n).all fun c => !(decide (a < b) && decide (b < c)) || jSg n a b c
theorem jL7 {n : Nat} (h0 : 3 ≤ n) (h1 : n ≤ 7) : jSd n = true := by
 refine five (p := fun n => jSd n = true) h0 h1 ?_ ?_ ?_ ?_ ?_ <;> decide +kernel
theorem jBd {n a b c : Nat} (t : ByteArray) (h0 : 3 ≤ n) (h1 : n ≤ 7) (hab : a < b) (hbc : b < c) (hc : c < n) :
  ∃ p, p < (Xt n).length ∧ Ev (fun k => Ja.f k (n : Int) (a : Int) (b : Int) (c : Int)) (p : Int) ∧ chi n t a b c = sgB t p ∧ chi n t b c a = sgB t p ∧ chi n t c a b = sgB t p ∧
   chi n t a c b = -sgB t p ∧ chi n t c b a = -sgB t p ∧ chi n t b a c = -sgB t p := by
 have h := jL7 h0 h1
 have h := List.all_eq_true.1 h a (List.mem_range.2 (by omega))
 have h := List.all_eq_true.1 h b (List.mem_range.2 (by omega))
 have h := List.all_eq_true.1 h c (List.mem_range.2 hc)
 rw [decide_eq_true hab, decide_eq_true hbc] at h
 simp only [Bool.and_self, Bool.not_true, Bool.false_or] at h
 unfold jSg at h
 split at h
 ·rename_i p hp
  simp only [Bool.and_eq_true, decide_eq_true_eq, beq_iff_eq] at h
  obtain ⟨⟨⟨⟨⟨⟨g0, g1⟩, g2⟩, g3⟩, g4⟩, g5⟩, g6⟩ := h
  refine ⟨p, g0, Ev.of (Ja.mono _ _ _ _) g1, ?_⟩
  unfold chi
  rw [hp, g2, g3, g4, g5, g6]
  exact ⟨rfl, rfl, rfl, rfl, rfl, rfl⟩
 ·cases h
def jSi (n : Nat) : Bool := (List.range 7).all fun a => (List.range 7).all fun b => (V3 (Xt n) 0 (ix3 a a b) == none) && (V3 (Xt n) 0 (ix3 a b a) == none) && (V3 (Xt n) 0 (ix3 b a a) == none)
theorem jM4 {n : Nat} (h0 : 3 ≤ n) (h1 : n ≤ 7) : jSi n = true := by
 refine five (p := fun n => jSi n = true) h0 h1 ?_ ?_ ?_ ?_ ?_ <;> decide +kernel
theorem Vq {n a b : Nat} (t : ByteArray) (h0 : 3 ≤ n) (h1 : n ≤ 7) (ha : a < 7) (hb : b < 7) : chi n t a a b = 0 ∧ chi n t a b a = 0 ∧ chi n t b a a = 0 := by
 have h := jM4 h0 h1
 have h := List.all_eq_true.1 h a (List.mem_range.2 ha)
 have h := List.all_eq_true.1 h b (List.mem_range.2 hb)
 simp only [Bool.and_eq_true, beq_iff_eq] at h
 obtain ⟨⟨g0, g1⟩, g2⟩ := h
 unfold chi
 rw [g0, g1, g2]
 exact ⟨rfl, rfl, rfl⟩
theorem Vz : wrap64 (- -1) = 1 := by decide +kernel
theorem Ue : wrap64 (-(1 : Int)) = -1 := by decide +kernel
theorem at_end {n : Nat} {t : ByteArray} (h : Y1 n t = true) {a b c : Nat} {p : Nat} (hp : p < (Xt n).length) (he : Ev (fun k => Ja.f k (n : Int) (a : Int) (b : Int) (c : Int)) (p : Int)) (x y : Int) :
  Ev (fun k => (Ja.f k (n : Int) (a : Int) (b : Int) (c : Int)).bind fun z => if 0 ≤ z then (if z < (t.size : Int) then (if bt t z = 45 then some y else some x) else none) else none) (if bt t (p : Int) = 45 then y else x) := by
 obtain ⟨⟨h0, h1⟩, h2, _⟩ := (Z7 _ _).1 h
 have hc := (jBf (n := n) (by omega) (by omega)).2
 refine Ev.bind he (Qm (by omega) (Qm (by omega) ?_))
 split <;> exact Ev.now _
theorem Km {n : Nat} {t : ByteArray} (h : Y1 n t = true) {i j k : Nat} (hi : i < n) (hj : j < n) (hk : k < n) (hij : i ≠ j) (hjk : j ≠ k) (hik : i ≠ k) :
  Ev (fun q => Jp.f q (n : Int) t (i : Int) (j : Int) (k : Int)) (chi n t i j k) := by
 obtain ⟨⟨h0, h1⟩, _, _⟩ := (Z7 _ _).1 h
 have h0 : 3 ≤ n := by omega
 have h1 : n ≤ 7 := by omega
 unfold Jp.f
 rcases Nat.lt_or_gt_of_ne hij with ij | ij
 ·refine Jn (by omega) (Ji ?_)
  simp only [Jp.j0]
  rcases Nat.lt_or_gt_of_ne hjk with jk | jk
  ·refine Jn (by omega) (Ji ?_)
   simp only [Jp.j1]
   refine Jn (by omega) ?_
   obtain ⟨p, hp, he, e1, _⟩ := jBd t h0 h1 ij jk hk
   refine Y5 (at_end h hp he _ _) ?_
   rw [e1, Ue]; rfl
  ·refine Qm (by omega) (Ji ?_)
   simp only [Jp.j1]
   rcases Nat.lt_or_gt_of_ne hik with ik | ik
   ·refine Jn (by omega) ?_
    obtain ⟨p, hp, he, _, _, _, e1, _⟩ := jBd t h0 h1 ik jk hj
    refine Y5 (at_end h hp he _ _) ?_
    rw [e1, Ue, Vz]; unfold sgB; split <;> rfl
   ·refine Qm (by omega) ?_
    obtain ⟨p, hp, he, _, e1, _⟩ := jBd t h0 h1 ik ij hj
    refine Y5 (at_end h hp he _ _) ?_
    rw [e1, Ue, Vz, Ue]; rfl
 ·refine Qm (by omega) (Ji ?_)
  simp only [Jp.j0]
  rcases Nat.lt_or_gt_of_ne hik with ik | ik
  ·refine Jn (by omega) (Ji ?_)
   simp only [Jp.j1]
   refine Jn (by omega) ?_
   obtain ⟨p, hp, he, _, _, _, _, _, e1⟩ := jBd t h0 h1 ij ik hk
   refine Y5 (at_end h hp he _ _) ?_
   rw [e1, Vz]; unfold sgB; split <;> rfl
  ·refine Qm (by omega) (Ji ?_)
   simp only [Jp.j1]
   rcases Nat.lt_or_gt_of_ne hjk with jk | jk
   ·refine Jn (by omega) ?_
    obtain ⟨p, hp, he, _, _, e1, _⟩ := jBd t h0 h1 jk ik hi
    refine Y5 (at_end h hp he _ _) ?_
    rw [e1, Vz, Ue]; rfl
   ·refine Qm (by omega) ?_
    obtain ⟨p, hp, he, _, _, _, _, e1, _⟩ := jBd t h0 h1 jk ij hi
    refine Y5 (at_end h hp he _ _) ?_
    rw [e1, Vz, Ue, Vz]; unfold sgB; split <;> rfl
end Go.Proofs.Ytckkfjdkaimmhaa.M
namespace Go.Proofs.Ytckkfjdkaimmhaa.PX
open Go.RowKit Go.Proofs.Ytckkfjdkaimmhaa.G Go.Proofs.YtckkfjdkaimmhaaW.PrintWords Go.Proofs.YtckkfjdkaimmhaaW.PrintLast Go.Proofs.YtckkfjdkaimmhaaW.PrintMore
attribute [local go_sem] max2_int min2_int Yd Yg Xh Xf Xq Xp   -- for this text's walks alone
set_option linter.unusedVariables false
set_option linter.unusedSimpArgs false
def Zc.l0 : Nat → Int → Int → List Int → Int → Option (List Int)
 | 0, _, _, _, _ => none
 | k + 1, x0, x1, x5, x6 => if x6 < x0 then (if x6 = x1 then (Zc.l0 k x0 x1 x5 (wrap64 (x6 + 1))) else (if x5.length < 17592186044416 then (Zc.l0 k x0 x1 (x5 ++ [x6]) (wrap64 (x6 + 1))) else (none))) else (some x5)
def Zc.f (k : Nat) (a0 : Int) (a1 : Int) : Option (List Int) := Zc.l0 k a0 a1 (([] : List Int)) 0
theorem Zc.mono_l : ∀ k, (∀ y0 y1 y2 y3, LeO (Zc.l0 k y0 y1 y2 y3) (Zc.l0 (k + 1) y0 y1 y2 y3))
 | 0 => fun _ _ _ _ r h => by simp [Zc.l0] at h
 | k + 1 => by
  have aA := Zc.mono_l k
  ·intro y0 y1 y2 y3
   unfold Zc.l0
   repeat' first
   | (with_reducible first | exact aA .. | exact LeO.refl _ | exact LeO.none _ | refine LeO.ite ?_ ?_ | refine LeO.bind ?_ (fun _ => ?_))
   | exact aA .. | exact LeO.none _ | refine LeO.ite ?_ ?_ | refine LeO.bind ?_ (fun _ => ?_)
theorem Zc.mono : ∀ a0 a1 k, LeO (Zc.f k a0 a1) (Zc.f (k + 1) a0 a1) := by
 intro a0 a1 k
 have aA := Zc.mono_l k
 unfold Zc.f
 repeat' first
   | (with_reducible first | exact aA .. | exact LeO.refl _ | exact LeO.none _ | refine LeO.ite ?_ ?_ | refine LeO.bind ?_ (fun _ => ?_))
   | exact aA .. | exact LeO.none _ | refine LeO.ite ?_ ?_ | refine LeO.bind ?_ (fun _ => ?_)
set_option maxHeartbeats 8000000 in
set_option maxRecDepth 100000 in
theorem Zc.calls (k : Nat) (a0 : Int) (a1 : Int) (r : List Int) (w : World) (h : Zc.f k a0 a1 = some r) :
  Calls Try.prog 93 #[.int .i64 a0, .int .i64 a1] w fun e w' => ∃ aZ : Value, e = .returned (aZ) ∧ Kd.R (Kd.int .i64) 3 w' w.heap.size (fun _ => True) aZ r ∧ Below w.heap.size w w' := by
 have HB := Qa.mk (Below.refl w.heap.size w)
 have H := h
 unfold Zc.f at H
 clear h
 generalize aG : (([] : List Int) : List Int) = aT at H
 have aH := Qa.mk aG.symm
 clear aG
 have H' := Qa.mk H; clear H
 go_enter Try.func93, Try.ntmps93
 go_wp2_with (first | ((with_reducible refine Qf (N := 7) rfl ?_); refine Kd.R_lit (Kd.int .i64) _ 3 ?hg (N := 7) ?hd (xs := ([] : List Int)) (inner := []) (ok := fun _ => True) (okp := fun _ => True) ?hr ?hp (fun _ hk => hk) trivial (Below.refl _ _) (Nat.le_refl _) (by simp) ?_; (case hd => rfl); (case hg => rfl); (case hr => first | (go_simp; done) | (go_simp; rfl)); (case hp => exact (Xb.none _ _)); intro bA w3 aJ hb hg_ hnew_; clear hg_ hnew_; (first | rw [← aH.out] at aJ | (simp only [Int.reduceToNat] at aJ; rw [← aH.out] at aJ)); have aK := Qa.mk (Kd.R_lower aJ (Ql zB)); replace HB := zX hb; clear hb aJ))
 go_loopg [5, 6] k (fun kq v5 v6 w' => ∃ (aC : List Int) (aA : Int), v6 = .int .i64 aA ∧ Qa (Zc.l0 kq a0 a1 aC aA = some r) ∧ Qa (kq ≤ k) ∧ Qa (Kd.R (Kd.int .i64) 3 w' w.heap.size (fun _ => True) v5 aC) ∧ Qa (Below w.heap.size w w'))
 case atStart => exact ⟨(aT), (0), zF, H', ⟨Nat.le_refl _⟩, ⟨zR aK.out⟩, ⟨zB⟩⟩
 case round =>
 clear H'
 obtain ⟨aC, aA, rfl, HA, aQ, aD, HB⟩ := hrel
 cases gk with
 | zero => exact absurd HA.out (by simp [Zc.l0])
 | succ k1 =>
 have H := HA.out
 clear HA
 simp only [Zc.l0] at H
 replace H := Z5 H
 rcases H with ⟨aU, H⟩ | ⟨aU, H⟩
 ·replace H := Zi H
  rcases H with ⟨aV, aW, H⟩ | ⟨c6, aV, aW, H⟩
  ·have H' := Qa.mk H; clear H
   go_wp2
   go_roundg k1
   case measure => have := aQ.out; omega
   case rel => exact ⟨(aC), (wrap64 (aA + 1)), zF, H', ⟨by have := aQ.out; omega⟩, ⟨zR aD.out⟩, ⟨zB⟩⟩
  replace H := Vt H
  rcases H with ⟨c7, H⟩ | ⟨c7, H⟩
  ·have aX := Qa.mk c7
   clear c7
   generalize aI : (aC ++ [aA] : List Int) = aY at H
   have aM := Qa.mk aI.symm
   clear aI
   have H' := Qa.mk H; clear H
   go_wp2_with (first | ((with_reducible refine Z9 (b := .append) (xs := #[.tmp 16, .tmp 18]) rfl ?_); at_builtin; refine Kd.R_append (Kd.int .i64) (w0 := w) w.heap.size rfl (.tmp 16) (.tmp 18) 27 3 (.int .i64 0) 8 rfl Try.underlying27 info3 rfl (by decide) (by omega) u5 aC aA [.int .i64 aA] (fun _ => True) (fun _ => False) rfl rfl ?aP (fun _ hk => hk.elim) ?aF ?aO ?aB ?aS ?aL ?_; (case aP => exact rfl); (case aB => exact zB); (case aF => exact (fun _ _ => trivial)); (case aO => exact (zR aD.out)); (case aS => exact (Ql zB)); (case aL => have := aX.out; omega); intro bB w8 ho hb hg hat; rw [← aM.out] at ho; have aN := Qa.mk (ho); replace HB := Qa.mk (hb); clear aD; clear ho hb hg hat))
   go_roundg k1
   case measure => have := aQ.out; omega
   case rel => exact ⟨(aY), (wrap64 (aA + 1)), zF, H', ⟨by have := aQ.out; omega⟩, ⟨zR aN.out⟩, ⟨zB⟩⟩
  exact absurd H (by simp)
 obtain rfl := Option.some.inj H
 go_wp2
 go_ret
 exact ⟨_, zE, zR aD.out, zB⟩
end Go.Proofs.Ytckkfjdkaimmhaa.PX
namespace Go.Proofs.Ytckkfjdkaimmhaa.M
open Go.RowKit Go.Proofs.YtckkfjdkaimmhaaW.PrintWords Go.Proofs.Ytckkfjdkaimmhaa.PX
def up (l : List Nat) : List Int := l.map fun (x : Nat) => (x : Int)
theorem Kj (l : List Nat) : (up l).length = l.length := List.length_map ..
theorem jNf {l : List Nat} {i : Nat} (h : i < l.length) : rd (up l) (i : Int) = ((l.getD i 0 : Nat) : Int) := by
 unfold rd up
 rw [Int.toNat_natCast, List.getD_eq_getElem?_getD, List.getD_eq_getElem?_getD, List.getElem?_map, List.getElem?_eq_getElem h]
 rfl
def Yk (n x : Nat) : List Nat := (List.range n).filter (fun y => y != x)
def jJa : Bool := (List.range 8).all fun n => (List.range 8).all fun x => decide (Zc.f 30 (n : Int) (x : Int) = some (up (Yk n x)))
theorem jE5 : jJa = true := by decide +kernel
theorem jKc {n x : Nat} (hn : n ≤ 7) (hx : x ≤ 7) : Ev (fun k => Zc.f k (n : Int) (x : Int)) (up (Yk n x)) := by
 have h := jE5
 have h := List.all_eq_true.1 h n (List.mem_range.2 (by omega))
 have h := List.all_eq_true.1 h x (List.mem_range.2 (by omega))
 exact Ev.of (Zc.mono _ _) (of_decide_eq_true h)
def jSj (n : Nat) : Bool := (List.range n).all fun x => decide ((Yk n x).length = n - 1) && decide ((Yk n x).Nodup) && (Yk n x).all fun y => decide (y < n)
theorem jO6 {n : Nat} (h0 : 3 ≤ n) (h1 : n ≤ 7) : jSj n = true := by
 refine five (p := fun n => jSj n = true) h0 h1 ?_ ?_ ?_ ?_ ?_ <;> decide +kernel
theorem jFu {n x : Nat} (h0 : 3 ≤ n) (h1 : n ≤ 7) (hx : x < n) : (Yk n x).length = n - 1 ∧ (Yk n x).Nodup ∧ ∀ y ∈ Yk n x, y < n := by
 have h := List.all_eq_true.1 (jO6 h0 h1) x (List.mem_range.2 hx)
 simp only [Bool.and_eq_true, decide_eq_true_eq, List.all_eq_true] at h
 exact ⟨h.1.1, h.1.2, h.2⟩
end Go.Proofs.Ytckkfjdkaimmhaa.M
namespace Go.Proofs.Ytckkfjdkaimmhaa.PX
open Go.RowKit Go.Proofs.Ytckkfjdkaimmhaa.G Go.Proofs.YtckkfjdkaimmhaaW.PrintWords Go.Proofs.YtckkfjdkaimmhaaW.PrintLast Go.Proofs.YtckkfjdkaimmhaaW.PrintMore
attribute [local go_sem] max2_int min2_int Yd Yg Xh Xf Xq Xp   -- for this text's walks alone
set_option linter.unusedVariables false
set_option linter.unusedSimpArgs false
def Jd.f (k : Nat) (aA : Int) (aC : ByteArray) (a1 : Int) (a2 : Int) (a3 : Int) (a4 : Int) (a5 : Int) : Option (Bool) := (Jp.f k aA aC a1 a2 a3).bind fun aH => ((Jp.f k aA aC a1 a4 a5).bind fun aI => ((Jp.f k aA aC a1 a2 a5).bind fun aD => ((Jp.f k aA aC a1 a3 a4).bind fun aG => ((Jp.f k aA aC a1 a2 a4).bind fun aJ => ((Jp.f k aA aC a1 a3 a5).bind fun aK => (if (wrap64 (aH * aI)) = (wrap64 (aD * aG)) then (some ((wrap64 (aD * aG)) == (wrap64 ((wrap64 (-aJ)) * aK)))) else (some false)))))))
def Jd.T1 : Bool × List (List Nat × List Nat) := (true, [([], []), ([], []), ([], []), ([], []), ([0, 1, 2, 3], [0, 1, 2, 3]), ([], []), ([], []), ([], []), ([], []), ([5, 6, 7, 8, 4], [5, 6, 7, 8]), ([4, 9], [4, 9]), ([10, 9, 0, 1, 2, 3, 4, 5, 6, 7, 8, 9, 10], [10])])
def Jd.B1 : List Nat := [0, 0, 0, 0, 15, 0, 0, 0, 0, 511, 1023, 2047]
theorem Jd.tab1 : Uc .any (opsOf Try.f94 1) = Jd.T1 := by kernel_rfl
theorem Jd.bits1 : X6 Jd.T1.2 Jd.B1 = true := by kernel_rfl
def Jd.T2 : Bool × List (List Nat × List Nat) := (true, [([], []), ([], []), ([], []), ([], []), ([0, 1, 2, 3], [0, 1, 2, 3]), ([], []), ([], []), ([], []), ([], []), ([5, 6, 7, 8, 4], [5, 6, 7, 8]), ([4, 9], [4, 9]), ([10, 9, 0, 1, 2, 3, 4, 5, 6, 7, 8, 9, 10], [10])])
def Jd.B2 : List Nat := [0, 0, 0, 0, 15, 0, 0, 0, 0, 511, 1023, 2047]
theorem Jd.tab2 : Uc .any (opsOf Try.f94 2) = Jd.T2 := by kernel_rfl
theorem Jd.bits2 : X6 Jd.T2.2 Jd.B2 = true := by kernel_rfl
def Jd.T3 : Bool × List (List Nat × List Nat) := (true, [([], []), ([], []), ([], []), ([], []), ([0, 1, 2, 3], [0, 1, 2, 3]), ([4], [4]), ([], []), ([], []), ([], []), ([], []), ([6, 7, 8, 9, 4], [6, 7, 8, 9]), ([5, 10], [5, 10]), ([11, 10, 0, 1, 2, 3, 4, 5, 6, 7, 8, 9, 10, 11], [11])])
def Jd.B3 : List Nat := [0, 0, 0, 0, 15, 31, 0, 0, 0, 0, 991, 2047, 4095]
theorem Jd.tab3 : Uc .any (opsOf Try.f94 3) = Jd.T3 := by kernel_rfl
theorem Jd.bits3 : X6 Jd.T3.2 Jd.B3 = true := by kernel_rfl
set_option maxHeartbeats 8000000 in
set_option maxRecDepth 100000 in
theorem Jd.calls (k : Nat) (aC : Int) (aD : ByteArray) (a1 : Int) (a2 : Int) (a3 : Int) (a4 : Int) (a5 : Int) (r : Bool) (w : World) (h : Jd.f k aC aD a1 a2 a3 a4 a5 = some r) :
  Calls Try.prog 94 #[.agg #[.int .i64 aC, .string aD], .int .i64 a1, .int .i64 a2, .int .i64 a3, .int .i64 a4, .int .i64 a5] w fun e w' => e = .returned (.bool r) ∧ Below w.heap.size w w' := by
 have aZ := Try.underlying25
 have HB := Qa.mk (Below.refl w.heap.size w)
 have H := h
 unfold Jd.f at H
 clear h
 obtain ⟨aI, A7, H⟩ := zO H
 obtain ⟨aJ, A8, H⟩ := zO H
 obtain ⟨aK, A9, H⟩ := zO H
 obtain ⟨aM, aW, H⟩ := zO H
 obtain ⟨aN, aX, H⟩ := zO H
 obtain ⟨aQ, aY, H⟩ := zO H
 replace H := Zi H
 rcases H with ⟨aT, aU, H⟩ | ⟨c13, aT, aU, H⟩
 ·obtain rfl := Option.some.inj H
  go_enter Try.func94, Try.ntmps94
  try go_wp2_with (first | ((with_reducible refine Qf (N := 6) rfl ?_); refine zBx (N := 6) #[.int .i64 aC, .string aD] 25 ?_; intro aH hg bA hbox hb; have aA := Qa.mk (hbox); have aV := zS hg; have aG := zS hg; replace HB := zX hb; clear hb hbox hg))
  replace aA := Qa.mk (Jo aA.out)
  replace HB := Qa.mk (Qt HB.out)
  refine Ya (n := 12) (S := fun w' => w'.cell? ⟨aH, 0, none⟩ = some (.int .i64 aC) ∧ w'.cell? ⟨aH, 1, none⟩ = some (.string aD)) (ds := []) #[false, false, false, false, false, false, false, false, false, false, false, false] (by kernel_rfl) rfl rfl ⟨(Qo aA.out 0).trans rfl, (Qo aA.out 1).trans rfl⟩ (fun hHeld => ?_); refine Z0 Jd.tab1 Jd.bits1 (fun HT_ HW_ => ?_)
  generalize bA.drew = bG at aA HB hHeld ⊢
  refine zP 1 (some 17) rfl rfl ?_
  refine zP 2 (some 18) rfl rfl ?_
  refine zP 3 (some 19) rfl rfl ?_
  refine zP 6 (some 22) rfl rfl ?_
  refine zP 7 (some 23) rfl rfl ?_
  refine zP 8 (some 24) rfl rfl ?_
  refine zY2 0 (some 16) rfl rfl hHeld ?_
  refine zY2 5 (some 21) rfl rfl hHeld ?_
  refine zU 4 (some 20) rfl rfl (fun K hK => ?_)
  refine Xx Try.func144 (by kernel_rfl) rfl #[.agg #[.int .i64 aC, .string aD], .int .i64 a1, .int .i64 a2, .int .i64 a3] (by rfl) rfl rfl zM ?_
  with_reducible refine (Jp.calls k aC aD a1 a2 a3 aI _ A7.out).mono ?_
  rintro e w16 ⟨rfl, hb⟩
  refine ⟨_, rfl, ?_⟩
  replace aA := zV aA.out hb
  replace HB := zX1 aG.out hb
  (try clear hb)
  refine hK.out _ _ (zh2 aA.out) (fun hHeld => ?_)
  clear hK K
  refine zN ?_
  refine zU 9 (some 25) rfl rfl (fun K hK => ?_)
  refine Xx Try.func144 (by kernel_rfl) rfl #[.agg #[.int .i64 aC, .string aD], .int .i64 a1, .int .i64 a4, .int .i64 a5] (by rfl) rfl rfl zM ?_
  with_reducible refine (Jp.calls k aC aD a1 a4 a5 aJ _ A8.out).mono ?_
  rintro e bB ⟨rfl, hb⟩
  refine ⟨_, rfl, ?_⟩
  replace aA := zV aA.out hb
  replace HB := zX1 aG.out hb
  (try clear hb)
  refine hK.out _ _ (zh2 aA.out) (fun hHeld => ?_)
  clear hK K
  refine zN ?_
  refine zP 10 (some 26) rfl rfl ?_
  refine zP 11 (some 13) rfl rfl ?_
  refine Vh (Xu HT_.out (by kernel_rfl)) ?_
  try go_wp2
  replace aA := Qa.mk (Jo aA.out)
  replace HB := Qa.mk (Qt HB.out)
  refine Ya (n := 12) (S := fun w' => w'.cell? ⟨aH, 0, none⟩ = some (.int .i64 aC) ∧ w'.cell? ⟨aH, 1, none⟩ = some (.string aD)) (ds := []) #[false, false, false, false, false, false, false, false, false, false, false, false] (by kernel_rfl) rfl rfl ⟨(Qo aA.out 0).trans rfl, (Qo aA.out 1).trans rfl⟩ (fun hHeld => ?_); refine Z0 Jd.tab2 Jd.bits2 (fun HT_ HW_ => ?_)
  generalize bB.drew = bH at aA HB hHeld ⊢
  refine zP 1 (some 28) rfl rfl ?_
  refine zP 2 (some 29) rfl rfl ?_
  refine zP 3 (some 30) rfl rfl ?_
  refine zP 6 (some 33) rfl rfl ?_
  refine zP 7 (some 34) rfl rfl ?_
  refine zP 8 (some 35) rfl rfl ?_
  refine zY2 0 (some 27) rfl rfl hHeld ?_
  refine zY2 5 (some 32) rfl rfl hHeld ?_
  refine zU 4 (some 31) rfl rfl (fun K hK => ?_)
  refine Xx Try.func144 (by kernel_rfl) rfl #[.agg #[.int .i64 aC, .string aD], .int .i64 a1, .int .i64 a2, .int .i64 a5] (by rfl) rfl rfl zM ?_
  with_reducible refine (Jp.calls k aC aD a1 a2 a5 aK _ A9.out).mono ?_
  rintro e bI ⟨rfl, hb⟩
  refine ⟨_, rfl, ?_⟩
  replace aA := zV aA.out hb
  replace HB := zX1 aG.out hb
  (try clear hb)
  refine hK.out _ _ (zh2 aA.out) (fun hHeld => ?_)
  clear hK K
  refine zN ?_
  refine zU 9 (some 36) rfl rfl (fun K hK => ?_)
  refine Xx Try.func144 (by kernel_rfl) rfl #[.agg #[.int .i64 aC, .string aD], .int .i64 a1, .int .i64 a3, .int .i64 a4] (by rfl) rfl rfl zM ?_
  with_reducible refine (Jp.calls k aC aD a1 a3 a4 aM _ aW.out).mono ?_
  rintro e bC ⟨rfl, hb⟩
  refine ⟨_, rfl, ?_⟩
  replace aA := zV aA.out hb
  replace HB := zX1 aG.out hb
  (try clear hb)
  refine hK.out _ _ (zh2 aA.out) (fun hHeld => ?_)
  clear hK K
  refine zN ?_
  refine zP 10 (some 37) rfl rfl ?_
  refine zP 11 (some 14) rfl rfl ?_
  refine Vh (Xu HT_.out (by kernel_rfl)) ?_
  try go_wp2
  replace aA := Qa.mk (Jo aA.out)
  replace HB := Qa.mk (Qt HB.out)
  refine Ya (n := 13) (S := fun w' => w'.cell? ⟨aH, 0, none⟩ = some (.int .i64 aC) ∧ w'.cell? ⟨aH, 1, none⟩ = some (.string aD)) (ds := []) #[false, false, false, false, false, false, false, false, false, false, false, false, false] (by kernel_rfl) rfl rfl ⟨(Qo aA.out 0).trans rfl, (Qo aA.out 1).trans rfl⟩ (fun hHeld => ?_); refine Z0 Jd.tab3 Jd.bits3 (fun HT_ HW_ => ?_)
  generalize bC.drew = bJ at aA HB hHeld ⊢
  refine zP 1 (some 39) rfl rfl ?_
  refine zP 2 (some 40) rfl rfl ?_
  refine zP 3 (some 41) rfl rfl ?_
  refine zP 7 (some 45) rfl rfl ?_
  refine zP 8 (some 46) rfl rfl ?_
  refine zP 9 (some 47) rfl rfl ?_
  refine zY2 0 (some 38) rfl rfl hHeld ?_
  refine zY2 6 (some 44) rfl rfl hHeld ?_
  refine zU 4 (some 42) rfl rfl (fun K hK => ?_)
  refine Xx Try.func144 (by kernel_rfl) rfl #[.agg #[.int .i64 aC, .string aD], .int .i64 a1, .int .i64 a2, .int .i64 a4] (by rfl) rfl rfl zM ?_
  with_reducible refine (Jp.calls k aC aD a1 a2 a4 aN _ aX.out).mono ?_
  rintro e bK ⟨rfl, hb⟩
  refine ⟨_, rfl, ?_⟩
  replace aA := zV aA.out hb
  replace HB := zX1 aG.out hb
  (try clear hb)
  refine hK.out _ _ (zh2 aA.out) (fun hHeld => ?_)
  clear hK K
  refine zN ?_
  refine zP 5 (some 43) rfl rfl ?_
  refine zU 10 (some 48) rfl rfl (fun K hK => ?_)
  refine Xx Try.func144 (by kernel_rfl) rfl #[.agg #[.int .i64 aC, .string aD], .int .i64 a1, .int .i64 a3, .int .i64 a5] (by rfl) rfl rfl zM ?_
  with_reducible refine (Jp.calls k aC aD a1 a3 a5 aQ _ aY.out).mono ?_
  rintro e bL ⟨rfl, hb⟩
  refine ⟨_, rfl, ?_⟩
  replace aA := zV aA.out hb
  replace HB := zX1 aG.out hb
  (try clear hb)
  refine hK.out _ _ (zh2 aA.out) (fun hHeld => ?_)
  clear hK K
  refine zN ?_
  refine zP 11 (some 49) rfl rfl ?_
  refine zP 12 (some 15) rfl rfl ?_
  refine Vh (Xu HT_.out (by kernel_rfl)) ?_
  try go_wp2
  go_ret
  exact ⟨zE, zG aG.out⟩
 obtain rfl := Option.some.inj H
 go_enter Try.func94, Try.ntmps94
 try go_wp2_with (first | ((with_reducible refine Qf (N := 6) rfl ?_); refine zBx (N := 6) #[.int .i64 aC, .string aD] 25 ?_; intro aH hg bD hbox hb; have aA := Qa.mk (hbox); have aV := zS hg; have aG := zS hg; replace HB := zX hb; clear hb hbox hg))
 replace aA := Qa.mk (Jo aA.out)
 replace HB := Qa.mk (Qt HB.out)
 refine Ya (n := 12) (S := fun w' => w'.cell? ⟨aH, 0, none⟩ = some (.int .i64 aC) ∧ w'.cell? ⟨aH, 1, none⟩ = some (.string aD)) (ds := []) #[false, false, false, false, false, false, false, false, false, false, false, false] (by kernel_rfl) rfl rfl ⟨(Qo aA.out 0).trans rfl, (Qo aA.out 1).trans rfl⟩ (fun hHeld => ?_); refine Z0 Jd.tab1 Jd.bits1 (fun HT_ HW_ => ?_)
 generalize bD.drew = bM at aA HB hHeld ⊢
 refine zP 1 (some 17) rfl rfl ?_
 refine zP 2 (some 18) rfl rfl ?_
 refine zP 3 (some 19) rfl rfl ?_
 refine zP 6 (some 22) rfl rfl ?_
 refine zP 7 (some 23) rfl rfl ?_
 refine zP 8 (some 24) rfl rfl ?_
 refine zY2 0 (some 16) rfl rfl hHeld ?_
 refine zY2 5 (some 21) rfl rfl hHeld ?_
 refine zU 4 (some 20) rfl rfl (fun K hK => ?_)
 refine Xx Try.func144 (by kernel_rfl) rfl #[.agg #[.int .i64 aC, .string aD], .int .i64 a1, .int .i64 a2, .int .i64 a3] (by rfl) rfl rfl zM ?_
 with_reducible refine (Jp.calls k aC aD a1 a2 a3 aI _ A7.out).mono ?_
 rintro e bN ⟨rfl, hb⟩
 refine ⟨_, rfl, ?_⟩
 replace aA := zV aA.out hb
 replace HB := zX1 aG.out hb
 (try clear hb)
 refine hK.out _ _ (zh2 aA.out) (fun hHeld => ?_)
 clear hK K
 refine zN ?_
 refine zU 9 (some 25) rfl rfl (fun K hK => ?_)
 refine Xx Try.func144 (by kernel_rfl) rfl #[.agg #[.int .i64 aC, .string aD], .int .i64 a1, .int .i64 a4, .int .i64 a5] (by rfl) rfl rfl zM ?_
 with_reducible refine (Jp.calls k aC aD a1 a4 a5 aJ _ A8.out).mono ?_
 rintro e bE ⟨rfl, hb⟩
 refine ⟨_, rfl, ?_⟩
 replace aA := zV aA.out hb
 replace HB := zX1 aG.out hb
 (try clear hb)
 refine hK.out _ _ (zh2 aA.out) (fun hHeld => ?_)
 clear hK K
 refine zN ?_
 refine zP 10 (some 26) rfl rfl ?_
 refine zP 11 (some 13) rfl rfl ?_
 refine Vh (Xu HT_.out (by kernel_rfl)) ?_
 try go_wp2
 replace aA := Qa.mk (Jo aA.out)
 replace HB := Qa.mk (Qt HB.out)
 refine Ya (n := 12) (S := fun w' => w'.cell? ⟨aH, 0, none⟩ = some (.int .i64 aC) ∧ w'.cell? ⟨aH, 1, none⟩ = some (.string aD)) (ds := []) #[false, false, false, false, false, false, false, false, false, false, false, false] (by kernel_rfl) rfl rfl ⟨(Qo aA.out 0).trans rfl, (Qo aA.out 1).trans rfl⟩ (fun hHeld => ?_); refine Z0 Jd.tab2 Jd.bits2 (fun HT_ HW_ => ?_)
 generalize bE.drew = bO at aA HB hHeld ⊢
 refine zP 1 (some 28) rfl rfl ?_
 refine zP 2 (some 29) rfl rfl ?_
 refine zP 3 (some 30) rfl rfl ?_
 refine zP 6 (some 33) rfl rfl ?_
 refine zP 7 (some 34) rfl rfl ?_
 refine zP 8 (some 35) rfl rfl ?_
 refine zY2 0 (some 27) rfl rfl hHeld ?_
 refine zY2 5 (some 32) rfl rfl hHeld ?_
 refine zU 4 (some 31) rfl rfl (fun K hK => ?_)
 refine Xx Try.func144 (by kernel_rfl) rfl #[.agg #[.int .i64 aC, .string aD], .int .i64 a1, .int .i64 a2, .int .i64 a5] (by rfl) rfl rfl zM ?_
 with_reducible refine (Jp.calls k aC aD a1 a2 a5 aK _ A9.out).mono ?_
 rintro e bP ⟨rfl, hb⟩
 refine ⟨_, rfl, ?_⟩
 replace aA := zV aA.out hb
 replace HB := zX1 aG.out hb
 (try clear hb)
 refine hK.out _ _ (zh2 aA.out) (fun hHeld => ?_)
 clear hK K
 refine zN ?_
 refine zU 9 (some 36) rfl rfl (fun K hK => ?_)
 refine Xx Try.func144 (by kernel_rfl) rfl #[.agg #[.int .i64 aC, .string aD], .int .i64 a1, .int .i64 a3, .int .i64 a4] (by rfl) rfl rfl zM ?_
 with_reducible refine (Jp.calls k aC aD a1 a3 a4 aM _ aW.out).mono ?_
 rintro e bF ⟨rfl, hb⟩
 refine ⟨_, rfl, ?_⟩
 replace aA := zV aA.out hb
 replace HB := zX1 aG.out hb
 (try clear hb)
 refine hK.out _ _ (zh2 aA.out) (fun hHeld => ?_)
 clear hK K
 refine zN ?_
 refine zP 10 (some 37) rfl rfl ?_
 refine zP 11 (some 14) rfl rfl ?_
 refine Vh (Xu HT_.out (by kernel_rfl)) ?_
 try go_wp2
 replace aA := Qa.mk (Jo aA.out)
 replace HB := Qa.mk (Qt HB.out)
 refine Ya (n := 13) (S := fun w' => w'.cell? ⟨aH, 0, none⟩ = some (.int .i64 aC) ∧ w'.cell? ⟨aH, 1, none⟩ = some (.string aD)) (ds := []) #[false, false, false, false, false, false, false, false, false, false, false, false, false] (by kernel_rfl) rfl rfl ⟨(Qo aA.out 0).trans rfl, (Qo aA.out 1).trans rfl⟩ (fun hHeld => ?_); refine Z0 Jd.tab3 Jd.bits3 (fun HT_ HW_ => ?_)
 generalize bF.drew = bQ at aA HB hHeld ⊢
 refine zP 1 (some 39) rfl rfl ?_
 refine zP 2 (some 40) rfl rfl ?_
 refine zP 3 (some 41) rfl rfl ?_
 refine zP 7 (some 45) rfl rfl ?_
 refine zP 8 (some 46) rfl rfl ?_
 refine zP 9 (some 47) rfl rfl ?_
 refine zY2 0 (some 38) rfl rfl hHeld ?_
 refine zY2 6 (some 44) rfl rfl hHeld ?_
 refine zU 4 (some 42) rfl rfl (fun K hK => ?_)
 refine Xx Try.func144 (by kernel_rfl) rfl #[.agg #[.int .i64 aC, .string aD], .int .i64 a1, .int .i64 a2, .int .i64 a4] (by rfl) rfl rfl zM ?_
 with_reducible refine (Jp.calls k aC aD a1 a2 a4 aN _ aX.out).mono ?_
 rintro e w32 ⟨rfl, hb⟩
 refine ⟨_, rfl, ?_⟩
 replace aA := zV aA.out hb
 replace HB := zX1 aG.out hb
 (try clear hb)
 refine hK.out _ _ (zh2 aA.out) (fun hHeld => ?_)
 clear hK K
 refine zN ?_
 refine zP 5 (some 43) rfl rfl ?_
 refine zU 10 (some 48) rfl rfl (fun K hK => ?_)
 refine Xx Try.func144 (by kernel_rfl) rfl #[.agg #[.int .i64 aC, .string aD], .int .i64 a1, .int .i64 a3, .int .i64 a5] (by rfl) rfl rfl zM ?_
 with_reducible refine (Jp.calls k aC aD a1 a3 a5 aQ _ aY.out).mono ?_
 rintro e bR ⟨rfl, hb⟩
 refine ⟨_, rfl, ?_⟩
 replace aA := zV aA.out hb
 replace HB := zX1 aG.out hb
 (try clear hb)
 refine hK.out _ _ (zh2 aA.out) (fun hHeld => ?_)
 clear hK K
 refine zN ?_
 refine zP 11 (some 49) rfl rfl ?_
 refine zP 12 (some 15) rfl rfl ?_
 refine Vh (Xu HT_.out (by kernel_rfl)) ?_
 try go_wp2
 go_ret
 exact ⟨zE, zG aG.out⟩
mutual
def Qe.l0 : Nat → Int → Int → ByteArray → Option (List Int)
 | 0, _, _, _ => none
 | k + 1, x3, aA, aC => if x3 < aA then ((Jr.f k aA aC).bind fun aD => (Qe.j1 k x3 aD aA aC)) else (Qe.j1 k x3 false aA aC)
def Qe.j1 : Nat → Int → Bool → Int → ByteArray → Option (List Int)
 | 0, _, _, _, _ => none
 | k + 1, x3, aG, aA, aC => if aG = true then ((Zc.f k aA x3).bind fun aD => (Qe.l1 k x3 aD 0 aA aC)) else (some (([] : List Int)))
def Qe.l1 : Nat → Int → List Int → Int → Int → ByteArray → Option (List Int)
 | 0, _, _, _, _, _ => none
 | k + 1, x3, x4, x5, aA, aC => if x5 < (x4.length : Int) then (Qe.l2 k x3 x4 x5 (wrap64 (x5 + 1)) aA aC) else (Qe.l0 k (wrap64 (x3 + 1)) aA aC)
def Qe.l2 : Nat → Int → List Int → Int → Int → Int → ByteArray → Option (List Int)
 | 0, _, _, _, _, _, _ => none
 | k + 1, x3, x4, x5, x6, aA, aC => if x6 < (x4.length : Int) then (Qe.l3 k x3 x4 x5 x6 (wrap64 (x6 + 1)) aA aC) else (Qe.l1 k x3 x4 (wrap64 (x5 + 1)) aA aC)
def Qe.l3 : Nat → Int → List Int → Int → Int → Int → Int → ByteArray → Option (List Int)
 | 0, _, _, _, _, _, _, _ => none
 | k + 1, x3, x4, x5, x6, x7, aA, aC => if x7 < (x4.length : Int) then (Qe.l4 k x3 x4 x5 x6 x7 (wrap64 (x7 + 1)) aA aC) else (Qe.l2 k x3 x4 x5 (wrap64 (x6 + 1)) aA aC)
def Qe.l4 : Nat → Int → List Int → Int → Int → Int → Int → Int → ByteArray → Option (List Int)
 | 0, _, _, _, _, _, _, _, _ => none
 | k + 1, x3, x4, x5, x6, x7, x8, aA, aC => if x8 < (x4.length : Int) then (if 0 ≤ x5 then (if x5 < (x4.length : Int) then (if 0 ≤ x6 then (if x6 < (x4.length : Int) then (if 0 ≤ x7 then (if x7 < (x4.length : Int) then (if 0 ≤ x8 then ((Jd.f k aA aC x3 (rd x4 x5) (rd x4 x6) (rd x4 x7) (rd x4 x8)).bind fun aD => (if aD = true then (some (([x3, rd x4 x5, rd x4 x6, rd x4 x7, rd x4 x8] : List Int))) else (Qe.l4 k x3 x4 x5 x6 x7 (wrap64 (x8 + 1)) aA aC))) else (none)) else (none)) else (none)) else (none)) else (none)) else (none)) else (none)) else (Qe.l3 k x3 x4 x5 x6 (wrap64 (x7 + 1)) aA aC)
end
def Qe.f (k : Nat) (aA : Int) (aC : ByteArray) : Option (List Int) := Qe.l0 k 0 aA aC
def Qe.T17 : Bool × List (List Nat × List Nat) := (true, [([], []), ([], []), ([], []), ([], []), ([2, 3], [2, 3]), ([4], [4]), ([], []), ([], []), ([6, 7], [6, 7]), ([8], [8]), ([], []), ([], []), ([10, 11], [10, 11]), ([12], [12]), ([], []), ([], []), ([14, 15], [14, 15]), ([16], [16]), ([0, 1, 5, 9, 13, 17], [0, 1, 5, 9, 13, 17])])
def Qe.B17 : List Nat := [0, 0, 0, 0, 12, 28, 0, 0, 192, 448, 0, 0, 3072, 7168, 0, 0, 49152, 114688, 262143]
theorem Qe.tab17 : Uc .any (opsOf Try.f17 17) = Qe.T17 := by kernel_rfl
theorem Qe.bits17 : X6 Qe.T17.2 Qe.B17 = true := by kernel_rfl
def Qe.T18 : Bool × List (List Nat × List Nat) := (true, [([], []), ([], []), ([], []), ([1, 2], [1, 2]), ([3], [3]), ([], []), ([], []), ([5, 6], [5, 6]), ([7], [7]), ([], []), ([], []), ([9, 10], [9, 10]), ([11], [11]), ([], []), ([], []), ([13, 14], [13, 14]), ([15], [15]), ([0, 4, 8, 12, 16], [0, 4, 8, 12, 16]), ([17, 0, 1, 2, 3, 4, 5, 6, 7, 8, 9, 10, 11, 12, 13, 14, 15, 16, 17], [17])])
def Qe.B18 : List Nat := [0, 0, 0, 6, 14, 0, 0, 96, 224, 0, 0, 1536, 3584, 0, 0, 24576, 57344, 131071, 262143]
theorem Qe.tab18 : Uc .any (opsOf Try.f17 18) = Qe.T18 := by kernel_rfl
theorem Qe.bits18 : X6 Qe.T18.2 Qe.B18 = true := by kernel_rfl
set_option maxHeartbeats 8000000 in
set_option maxRecDepth 100000 in
theorem Qe.calls (k : Nat) (aN : Int) (aQ : ByteArray) (r : List Int) (w : World) (h : Qe.f k aN aQ = some r) :
  Calls Try.prog 17 #[.agg #[.int .i64 aN, .string aQ]] w fun e w' => ∃ fQ : Value, e = .returned (fQ) ∧ Kd.R (Kd.int .i64) 3 w' w.heap.size (fun _ => True) fQ r ∧ Below w.heap.size w w' := by
 have gJ := Try.underlying25
 have HB := Qa.mk (Below.refl w.heap.size w)
 have H := h
 unfold Qe.f at H
 clear h
 have H' := Qa.mk H; clear H
 go_enter Try.func17, Try.ntmps17
 go_wp2_with (first | ((with_reducible refine Qf (N := 1) rfl ?_); refine zBx (N := 1) #[.int .i64 aN, .string aQ] 25 ?_; intro aU hg w2 hbox hb; have aA := Qa.mk (hbox); have fT := zS hg; have aG := zS hg; replace HB := zX hb; clear hb hbox hg))
 go_loopg [3] k (fun kq v3 w' => ∃ (aT : Int), v3 = .int .i64 aT ∧ Qa (Qe.l0 kq aT aN aQ = some r) ∧ Qa (kq ≤ k) ∧ Qa (w'.heap[aU]? = some (.cells #[.int .i64 aN, .string aQ] 25 (0, 0))) ∧ Qa (Below w.heap.size w w'))
 case atStart => exact ⟨(0), zF, H', ⟨Nat.le_refl _⟩, ⟨zK aA.out⟩, ⟨zG aG.out⟩⟩
 case round =>
 clear H'
 obtain ⟨aT, rfl, HA, bS, aA, HB⟩ := hrel
 cases gk with
 | zero => exact absurd HA.out (by simp [Qe.l0])
 | succ k1 =>
 have H := HA.out
 clear HA
 simp only [Qe.l0] at H
 have eQ := Qa.mk H
 clear H
 go_upto_region 2 with (fail)
 go_cut [16] (fun v16 wc => ∃ (kq : Nat) (bL : Bool), v16 = .bool bL ∧ Qa (Qe.j1 kq aT bL aN aQ = some r) ∧ Qa (kq ≤ k1) ∧ Qa (wc.heap[aU]? = some (.cells #[.int .i64 aN, .string aQ] 25 (0, 0))) ∧ Qa (Below w.heap.size w wc))
 case first =>
  have H := eQ.out
  clear eQ
  replace H := Z5 H
  rcases H with ⟨bT, H⟩ | ⟨bT, H⟩
  ·(first | rw [bT] | (simp only [Zu, Xo]; rw [bT]) | skip)
   obtain ⟨dW, A5, H⟩ := zO H
   have H' := Qa.mk H; clear H
   obtain ⟨eT, eU, eX, eY⟩ := zq2 aA.out
   go_wp2_with (first | (go_at_call 25; (with_reducible refine (Jr.calls k1 aN aQ dW _ A5.out).mono ?_); rintro e w7 ⟨rfl, hb⟩; replace aA := zV aA.out hb; replace HB := zX1 aG.out hb; (try clear hb); (try clear hb2); (try clear hk); (try clear hi)))
   go_meet
   case rel => exact ⟨_, (dW), zF, H', ⟨by have := bS.out; first | omega | exact Nat.le_refl _⟩, ⟨zK aA.out⟩, ⟨zG aG.out⟩⟩
  (first | rw [bT] | (simp only [Zu, Xo]; rw [bT]) | skip)
  have H' := Qa.mk H; clear H
  obtain ⟨eZ, fA, fB, fC⟩ := zq2 aA.out
  go_wp2
  go_meet
  case rel => exact ⟨_, (false), zF, H', ⟨by have := bS.out; first | omega | exact Nat.le_refl _⟩, ⟨zK aA.out⟩, ⟨zG aG.out⟩⟩
 case rest =>
 clear eQ
 obtain ⟨kq, bL, rfl, HA, HJ2, aA, HB⟩ := hcut
 cases kq with
 | zero => exact absurd HA.out (by simp [Qe.j1])
 | succ fD =>
 have H := HA.out
 clear HA
 simp only [Qe.j1] at H
 by_cases c9 : bL = true
 ·subst c9
  replace H := (if_pos rfl).symm.trans H
  obtain ⟨aC, gK, H⟩ := zO H
  have H' := Qa.mk H; clear H
  obtain ⟨aZ, bA, bB, bC⟩ := zq2 aA.out
  go_wp2_with (first | ((with_reducible refine Qb (f := 93) rfl ?_); refine zD (some 22) Try.func93 _ ((Zc.calls fD aN aT aC _ gK.out).mono ?_); rintro e gV ⟨fE, rfl, ho0, hb⟩; refine ⟨_, rfl, ?_⟩; have dX := Qa.mk (Kd.R_lower ho0 (Ql (zG aG.out))); replace aA := zV aA.out hb; replace HB := zX1 aG.out hb; (try clear hb); (try clear ho0)))
  go_loopg [5] fD (fun kq v5 w' => ∃ (aI : Int), v5 = .int .i64 aI ∧ Qa (Qe.l1 kq aT aC aI aN aQ = some r) ∧ Qa (kq ≤ fD) ∧ Qa (Kd.R (Kd.int .i64) 3 w' w.heap.size (fun _ => True) fE aC) ∧ Qa (w'.heap[aU]? = some (.cells #[.int .i64 aN, .string aQ] 25 (0, 0))) ∧ Qa (Below w.heap.size w w'))
  case atStart => exact ⟨(0), zF, H', ⟨Nat.le_refl _⟩, ⟨zR dX.out⟩, ⟨zK aA.out⟩, ⟨zG aG.out⟩⟩
  case round =>
  clear H'
  try clear c9
  try clear aZ
  try clear bA
  try clear bB
  try clear bC
  obtain ⟨aI, rfl, HA, cK, aD, aA, HB⟩ := hrel
  cases gk with
  | zero => exact absurd HA.out (by simp [Qe.l1])
  | succ k3 =>
  have H := HA.out
  clear HA
  simp only [Qe.l1] at H
  replace H := Z5 H
  rcases H with ⟨bM, H⟩ | ⟨bM, H⟩
  ·have H' := Qa.mk H; clear H
   obtain ⟨dE, dF, fF⟩ := Kd.R_slice aD.out
   subst fF
   go_wp2
   go_loopg [6] k3 (fun kq v6 w' => ∃ (aJ : Int), v6 = .int .i64 aJ ∧ Qa (Qe.l2 kq aT aC aI aJ aN aQ = some r) ∧ Qa (kq ≤ k3) ∧ Qa (Kd.R (Kd.int .i64) 3 w' w.heap.size (fun _ => True) (.slice dE aC.length dF) aC) ∧ Qa (w'.heap[aU]? = some (.cells #[.int .i64 aN, .string aQ] 25 (0, 0))) ∧ Qa (Below w.heap.size w w'))
   case atStart => exact ⟨(wrap64 (aI + 1)), zF, H', ⟨Nat.le_refl _⟩, ⟨zR aD.out⟩, ⟨zK aA.out⟩, ⟨zG aG.out⟩⟩
   case round =>
   clear H'
   try clear c9
   try clear c13
   try clear bM
   try clear aZ
   try clear bA
   try clear bB
   try clear bC
   obtain ⟨aJ, rfl, HA, cO, aD, aA, HB⟩ := hrel
   cases gk with
   | zero => exact absurd HA.out (by simp [Qe.l2])
   | succ k4 =>
   have H := HA.out
   clear HA
   simp only [Qe.l2] at H
   replace H := Z5 H
   rcases H with ⟨bU, H⟩ | ⟨bU, H⟩
   ·have H' := Qa.mk H; clear H
    go_wp2
    go_loopg [7] k4 (fun kq v7 w' => ∃ (aK : Int), v7 = .int .i64 aK ∧ Qa (Qe.l3 kq aT aC aI aJ aK aN aQ = some r) ∧ Qa (kq ≤ k4) ∧ Qa (Kd.R (Kd.int .i64) 3 w' w.heap.size (fun _ => True) (.slice dE aC.length dF) aC) ∧ Qa (w'.heap[aU]? = some (.cells #[.int .i64 aN, .string aQ] 25 (0, 0))) ∧ Qa (Below w.heap.size w w'))
    case atStart => exact ⟨(wrap64 (aJ + 1)), zF, H', ⟨Nat.le_refl _⟩, ⟨zR aD.out⟩, ⟨zK aA.out⟩, ⟨zG aG.out⟩⟩
    case round =>
    clear H'
    try clear c9
    try clear c13
    try clear bM
    try clear c15
    try clear bU
    try clear aZ
    try clear bA
    try clear bB
    try clear bC
    obtain ⟨aK, rfl, HA, dV, aD, aA, HB⟩ := hrel
    cases gk with
    | zero => exact absurd HA.out (by simp [Qe.l3])
    | succ k5 =>
    have H := HA.out
    clear HA
    simp only [Qe.l3] at H
    replace H := Z5 H
    rcases H with ⟨cZ, H⟩ | ⟨cZ, H⟩
    ·have H' := Qa.mk H; clear H
     go_wp2
     go_loopg [8] k5 (fun kq v8 w' => ∃ (aM : Int), v8 = .int .i64 aM ∧ Qa (Qe.l4 kq aT aC aI aJ aK aM aN aQ = some r) ∧ Qa (kq ≤ k5) ∧ Qa (Kd.R (Kd.int .i64) 3 w' w.heap.size (fun _ => True) (.slice dE aC.length dF) aC) ∧ Qa (w'.heap[aU]? = some (.cells #[.int .i64 aN, .string aQ] 25 (0, 0))) ∧ Qa (Below w.heap.size w w'))
     case atStart => exact ⟨(wrap64 (aK + 1)), zF, H', ⟨Nat.le_refl _⟩, ⟨zR aD.out⟩, ⟨zK aA.out⟩, ⟨zG aG.out⟩⟩
     case round =>
     clear H'
     try clear c9
     try clear c13
     try clear bM
     try clear c15
     try clear bU
     try clear c16
     try clear cZ
     try clear aZ
     try clear bA
     try clear bB
     try clear bC
     obtain ⟨aM, rfl, HA, eO, aD, aA, HB⟩ := hrel
     cases gk with
     | zero => exact absurd HA.out (by simp [Qe.l4])
     | succ k6 =>
     have H := HA.out
     clear HA
     simp only [Qe.l4] at H
     replace H := Z5 H
     rcases H with ⟨dY, H⟩ | ⟨dY, H⟩
     ·replace H := Zq H
      rcases H with ⟨fU, H⟩ | ⟨c18, H⟩
      ·replace H := Zq H
       rcases H with ⟨fV, H⟩ | ⟨c19, H⟩
       ·replace H := Zq H
        rcases H with ⟨fZ, H⟩ | ⟨c20, H⟩
        ·replace H := Zq H
         rcases H with ⟨gB, H⟩ | ⟨c21, H⟩
         ·replace H := Zq H
          rcases H with ⟨gD, H⟩ | ⟨gW, H⟩
          ·replace H := Zq H
           rcases H with ⟨gF, H⟩ | ⟨c23, H⟩
           ·replace H := Zq H
            rcases H with ⟨gG, H⟩ | ⟨c24, H⟩
            ·obtain ⟨fG, gH, H⟩ := zO H
             by_cases eP : fG = true
             ·subst eP
              replace H := (if_pos rfl).symm.trans H
              generalize dA : (([aT, rd aC aI, rd aC aJ, rd aC aK, rd aC aM] : List Int) : List Int) = gL at H
              have dB := Qa.mk dA.symm
              clear dA
              obtain rfl := Option.some.inj H
              try go_wp2
              replace aD := Qa.mk (Kd.R_drew aD.out)
              replace aA := Qa.mk (Jo aA.out)
              replace HB := Qa.mk (Qt HB.out)
              have bD : 0 ≤ (aI : Int) := zA
              have bE : aI < (aC.length : Int) := zA
              obtain ⟨aH, dG, aV⟩ := Kd.at_int (Kd.R_reads' aD.out).2.2 aI bD bE
              cases dG
              replace bD := eq_true bD
              replace bE := eq_true bE
              have bF : 0 ≤ (aJ : Int) := zA
              have bG : aJ < (aC.length : Int) := zA
              obtain ⟨bV, dH, aW⟩ := Kd.at_int (Kd.R_reads' aD.out).2.2 aJ bF bG
              obtain rfl : aH = bV := (by injection dH)
              replace bF := eq_true bF
              replace bG := eq_true bG
              have bH : 0 ≤ (aK : Int) := zA
              have bI : aK < (aC.length : Int) := zA
              obtain ⟨bW, dI, aX⟩ := Kd.at_int (Kd.R_reads' aD.out).2.2 aK bH bI
              obtain rfl : aH = bW := (by injection dI)
              replace bH := eq_true bH
              replace bI := eq_true bI
              have bJ : 0 ≤ (aM : Int) := zA
              have bK : aM < (aC.length : Int) := zA
              obtain ⟨bX, dJ, aY⟩ := Kd.at_int (Kd.R_reads' aD.out).2.2 aM bJ bK
              obtain rfl : aH = bX := (by injection dJ)
              replace bJ := eq_true bJ
              replace bK := eq_true bK
              refine Ya (n := 19) (S := fun w' => w'.cell? ⟨aU, 0, none⟩ = some (.int .i64 aN) ∧ w'.cell? ⟨aU, 1, none⟩ = some (.string aQ) ∧ w'.cell? (aH.add (aI).toNat) = some (.int .i64 (rd aC aI)) ∧ w'.cell? (aH.add (aJ).toNat) = some (.int .i64 (rd aC aJ)) ∧ w'.cell? (aH.add (aK).toNat) = some (.int .i64 (rd aC aK)) ∧ w'.cell? (aH.add (aM).toNat) = some (.int .i64 (rd aC aM))) (ds := []) #[false, false, false, false, false, false, false, false, false, false, false, false, false, false, false, false, false, false, false] (by kernel_rfl) rfl rfl ⟨(Qo aA.out 0).trans rfl, (Qo aA.out 1).trans rfl, aV, aW, aX, aY⟩ (fun hHeld => ?_); refine Z0 Qe.tab17 Qe.bits17 (fun HT_ HW_ => ?_)
              generalize wr.drew = gX at aD aA HB aV aW aX aY hHeld ⊢
              refine zP 1 (some 54) rfl rfl ?_
              refine zP 2 (some 55) rfl rfl ?_
              refine zP 3 (some 56) rfl rfl ?_
              refine zP 4 (some 57) rfl rfl ?_
              refine zP 6 (some 59) rfl rfl ?_
              refine zP 7 (some 60) rfl rfl ?_
              refine zP 8 (some 61) rfl rfl ?_
              refine zP 10 (some 63) rfl rfl ?_
              refine zP 11 (some 64) rfl rfl ?_
              refine zP 12 (some 65) rfl rfl ?_
              refine zP 14 (some 67) rfl rfl ?_
              refine zP 15 (some 68) rfl rfl ?_
              refine zP 16 (some 69) rfl rfl ?_
              refine zY6 0 (some 53) rfl rfl hHeld ?_
              refine zY6 5 (some 58) rfl rfl hHeld ?_
              refine zY6 9 (some 62) rfl rfl hHeld ?_
              refine zY6 13 (some 66) rfl rfl hHeld ?_
              refine zY6 17 (some 70) rfl rfl hHeld ?_
              refine zU 18 (some 71) rfl rfl (fun K hK => ?_)
              refine Xx Try.func94 (by kernel_rfl) rfl #[.agg #[.int .i64 aN, .string aQ], .int .i64 aT, .int .i64 (rd aC aI), .int .i64 (rd aC aJ), .int .i64 (rd aC aK), .int .i64 (rd aC aM)] (by rfl) rfl rfl zM ?_
              with_reducible refine (Jd.calls k6 aN aQ aT (rd aC aI) (rd aC aJ) (rd aC aK) (rd aC aM) true _ gH.out).mono ?_
              rintro e gM ⟨rfl, hb⟩
              have bY := (hb.cell (World.block_lt_of_cell? _ _ (hHeld.2.2.1))).trans (hHeld.2.2.1)
              have bZ := (hb.cell (World.block_lt_of_cell? _ _ (hHeld.2.2.2.1))).trans (hHeld.2.2.2.1)
              have dK := (hb.cell (World.block_lt_of_cell? _ _ (hHeld.2.2.2.2.1))).trans (hHeld.2.2.2.2.1)
              have dL := (hb.cell (World.block_lt_of_cell? _ _ (hHeld.2.2.2.2.2))).trans (hHeld.2.2.2.2.2)
              refine ⟨_, rfl, ?_⟩
              replace aD := zW aD.out hb
              replace aA := zV aA.out hb
              replace HB := zX1 aG.out hb
              (try clear hb)
              refine hK.out _ _ ⟨(Qo aA.out 0).trans rfl, (Qo aA.out 1).trans rfl, bY, bZ, dK, dL⟩ (fun hHeld => ?_)
              clear hK K
              refine zN ?_
              refine Vh (Xu HT_.out (by kernel_rfl)) ?_
              try go_wp2
              replace aD := Qa.mk (Kd.R_drew aD.out)
              replace aA := Qa.mk (Jo aA.out)
              replace HB := Qa.mk (Qt HB.out)
              have dM : 0 ≤ (aI : Int) := zA
              have dN : aI < (aC.length : Int) := zA
              obtain ⟨dZ, fH, bN⟩ := Kd.at_int (Kd.R_reads' aD.out).2.2 aI dM dN
              obtain rfl : aH = dZ := (by injection fH)
              replace dM := eq_true dM
              replace dN := eq_true dN
              have dO : 0 ≤ (aJ : Int) := zA
              have dP : aJ < (aC.length : Int) := zA
              obtain ⟨eB, fI, bO⟩ := Kd.at_int (Kd.R_reads' aD.out).2.2 aJ dO dP
              obtain rfl : aH = eB := (by injection fI)
              replace dO := eq_true dO
              replace dP := eq_true dP
              have dQ : 0 ≤ (aK : Int) := zA
              have dR : aK < (aC.length : Int) := zA
              obtain ⟨eD, fJ, bP⟩ := Kd.at_int (Kd.R_reads' aD.out).2.2 aK dQ dR
              obtain rfl : aH = eD := (by injection fJ)
              replace dQ := eq_true dQ
              replace dR := eq_true dR
              have dS : 0 ≤ (aM : Int) := zA
              have dU : aM < (aC.length : Int) := zA
              obtain ⟨eF, fK, bQ⟩ := Kd.at_int (Kd.R_reads' aD.out).2.2 aM dS dU
              obtain rfl : aH = eF := (by injection fK)
              replace dS := eq_true dS
              replace dU := eq_true dU
              refine Ya (n := 19) (S := fun w' => w'.cell? (aH.add (aI).toNat) = some (.int .i64 (rd aC aI)) ∧ w'.cell? (aH.add (aJ).toNat) = some (.int .i64 (rd aC aJ)) ∧ w'.cell? (aH.add (aK).toNat) = some (.int .i64 (rd aC aK)) ∧ w'.cell? (aH.add (aM).toNat) = some (.int .i64 (rd aC aM))) (ds := []) #[false, false, false, false, false, false, false, false, false, false, false, false, false, false, false, false, false, false, false] (by kernel_rfl) rfl rfl ⟨bN, bO, bP, bQ⟩ (fun hHeld => ?_); refine Z0 Qe.tab18 Qe.bits18 (fun HT_ HW_ => ?_)
              generalize gM.drew = gY at aD aA HB bN bO bP bQ hHeld ⊢
              refine zP 0 (some 72) rfl rfl ?_
              refine zP 1 (some 73) rfl rfl ?_
              refine zP 2 (some 74) rfl rfl ?_
              refine zP 3 (some 75) rfl rfl ?_
              refine zP 5 (some 77) rfl rfl ?_
              refine zP 6 (some 78) rfl rfl ?_
              refine zP 7 (some 79) rfl rfl ?_
              refine zP 9 (some 81) rfl rfl ?_
              refine zP 10 (some 82) rfl rfl ?_
              refine zP 11 (some 83) rfl rfl ?_
              refine zP 13 (some 85) rfl rfl ?_
              refine zP 14 (some 86) rfl rfl ?_
              refine zP 15 (some 87) rfl rfl ?_
              refine zY4 4 (some 76) rfl rfl hHeld ?_
              refine zY4 8 (some 80) rfl rfl hHeld ?_
              refine zY4 12 (some 84) rfl rfl hHeld ?_
              refine zY4 16 (some 88) rfl rfl hHeld ?_
              refine zU 17 (some 89) rfl rfl (fun K hK => ?_)
              refine Kd.R_lit_step (Kd.int .i64) _ 3 ?hg (N := 89) ?hd (xs := ([aT, rd aC aI, rd aC aJ, rd aC aK, rd aC aM] : List Int)) (inner := [.int .i64 aT, .int .i64 (rd aC aI), .int .i64 (rd aC aJ), .int .i64 (rd aC aK), .int .i64 (rd aC aM)]) (ok := fun _ => True) (okp := fun _ => True) ?hr ?hp (fun _ hk => hk) trivial (Below.refl _ _) (Nat.le_refl _) (by simp) ?_; (case hd => rfl); (case hg => rfl); (case hr => first | (go_simp; done) | (go_simp; rfl)); (case hp => exact (Xb.one (show Kd.M (Kd.int .i64) _ _ _ aT [.int .i64 aT] from rfl) (Xb.one (show Kd.M (Kd.int .i64) _ _ _ (rd aC aI) [.int .i64 (rd aC aI)] from rfl) (Xb.one (show Kd.M (Kd.int .i64) _ _ _ (rd aC aJ) [.int .i64 (rd aC aJ)] from rfl) (Xb.one (show Kd.M (Kd.int .i64) _ _ _ (rd aC aK) [.int .i64 (rd aC aK)] from rfl) (Xb.one (show Kd.M (Kd.int .i64) _ _ _ (rd aC aM) [.int .i64 (rd aC aM)] from rfl) (Xb.none _ _)))))))
              intro gN gZ bR hb hg_ hnew_
              have fM := (hb.cell (World.block_lt_of_cell? _ _ (hHeld.1))).trans (hHeld.1)
              have fO := (hb.cell (World.block_lt_of_cell? _ _ (hHeld.2.1))).trans (hHeld.2.1)
              have bY := (hb.cell (World.block_lt_of_cell? _ _ (hHeld.2.2.1))).trans (hHeld.2.2.1)
              have bZ := (hb.cell (World.block_lt_of_cell? _ _ (hHeld.2.2.2))).trans (hHeld.2.2.2)
              clear hg_ hnew_
              (first | rw [← dB.out] at bR | (simp only [Int.reduceToNat] at bR; rw [← dB.out] at bR))
              have eG := Qa.mk (Kd.R_lower (Kd.R_new' bR (Kd.R_lt (zR aD.out))) (Ql (zG aG.out)))
              replace aD := Qa.mk (Kd.R_elder' (zR aD.out) (Kd.R_base bR) hb)
              replace aA := zV aA.out hb
              replace HB := zX1 aG.out hb
              clear hb bR
              refine hK.out _ _ ⟨fM, fO, bY, bZ⟩ (fun hHeld => ?_)
              clear hK K
              refine zN ?_
              refine zP 18 (some 2) rfl rfl ?_
              refine Vh (Xu HT_.out (by kernel_rfl)) ?_
              try go_wp2
              go_ret
              exact ⟨_, zE, zR (Kd.R_mono eG.out (fun _ hk => trivial)), zG aG.out⟩
             replace eP := Bool.eq_false_iff.mpr eP
             subst eP
             replace H := (if_neg zFf).symm.trans H
             have H' := Qa.mk H; clear H
             try go_wp2
             replace aD := Qa.mk (Kd.R_drew aD.out)
             replace aA := Qa.mk (Jo aA.out)
             replace HB := Qa.mk (Qt HB.out)
             have bD : 0 ≤ (aI : Int) := zA
             have bE : aI < (aC.length : Int) := zA
             obtain ⟨aH, dG, aV⟩ := Kd.at_int (Kd.R_reads' aD.out).2.2 aI bD bE
             cases dG
             replace bD := eq_true bD
             replace bE := eq_true bE
             have bF : 0 ≤ (aJ : Int) := zA
             have bG : aJ < (aC.length : Int) := zA
             obtain ⟨bV, dH, aW⟩ := Kd.at_int (Kd.R_reads' aD.out).2.2 aJ bF bG
             obtain rfl : aH = bV := (by injection dH)
             replace bF := eq_true bF
             replace bG := eq_true bG
             have bH : 0 ≤ (aK : Int) := zA
             have bI : aK < (aC.length : Int) := zA
             obtain ⟨bW, dI, aX⟩ := Kd.at_int (Kd.R_reads' aD.out).2.2 aK bH bI
             obtain rfl : aH = bW := (by injection dI)
             replace bH := eq_true bH
             replace bI := eq_true bI
             have bJ : 0 ≤ (aM : Int) := zA
             have bK : aM < (aC.length : Int) := zA
             obtain ⟨bX, dJ, aY⟩ := Kd.at_int (Kd.R_reads' aD.out).2.2 aM bJ bK
             obtain rfl : aH = bX := (by injection dJ)
             replace bJ := eq_true bJ
             replace bK := eq_true bK
             refine Ya (n := 19) (S := fun w' => w'.cell? ⟨aU, 0, none⟩ = some (.int .i64 aN) ∧ w'.cell? ⟨aU, 1, none⟩ = some (.string aQ) ∧ w'.cell? (aH.add (aI).toNat) = some (.int .i64 (rd aC aI)) ∧ w'.cell? (aH.add (aJ).toNat) = some (.int .i64 (rd aC aJ)) ∧ w'.cell? (aH.add (aK).toNat) = some (.int .i64 (rd aC aK)) ∧ w'.cell? (aH.add (aM).toNat) = some (.int .i64 (rd aC aM))) (ds := []) #[false, false, false, false, false, false, false, false, false, false, false, false, false, false, false, false, false, false, false] (by kernel_rfl) rfl rfl ⟨(Qo aA.out 0).trans rfl, (Qo aA.out 1).trans rfl, aV, aW, aX, aY⟩ (fun hHeld => ?_); refine Z0 Qe.tab17 Qe.bits17 (fun HT_ HW_ => ?_)
             generalize wr.drew = w32 at aD aA HB aV aW aX aY hHeld ⊢
             refine zP 1 (some 54) rfl rfl ?_
             refine zP 2 (some 55) rfl rfl ?_
             refine zP 3 (some 56) rfl rfl ?_
             refine zP 4 (some 57) rfl rfl ?_
             refine zP 6 (some 59) rfl rfl ?_
             refine zP 7 (some 60) rfl rfl ?_
             refine zP 8 (some 61) rfl rfl ?_
             refine zP 10 (some 63) rfl rfl ?_
             refine zP 11 (some 64) rfl rfl ?_
             refine zP 12 (some 65) rfl rfl ?_
             refine zP 14 (some 67) rfl rfl ?_
             refine zP 15 (some 68) rfl rfl ?_
             refine zP 16 (some 69) rfl rfl ?_
             refine zY6 0 (some 53) rfl rfl hHeld ?_
             refine zY6 5 (some 58) rfl rfl hHeld ?_
             refine zY6 9 (some 62) rfl rfl hHeld ?_
             refine zY6 13 (some 66) rfl rfl hHeld ?_
             refine zY6 17 (some 70) rfl rfl hHeld ?_
             refine zU 18 (some 71) rfl rfl (fun K hK => ?_)
             refine Xx Try.func94 (by kernel_rfl) rfl #[.agg #[.int .i64 aN, .string aQ], .int .i64 aT, .int .i64 (rd aC aI), .int .i64 (rd aC aJ), .int .i64 (rd aC aK), .int .i64 (rd aC aM)] (by rfl) rfl rfl zM ?_
             with_reducible refine (Jd.calls k6 aN aQ aT (rd aC aI) (rd aC aJ) (rd aC aK) (rd aC aM) false _ gH.out).mono ?_
             rintro e iA ⟨rfl, hb⟩
             have bY := (hb.cell (World.block_lt_of_cell? _ _ (hHeld.2.2.1))).trans (hHeld.2.2.1)
             have bZ := (hb.cell (World.block_lt_of_cell? _ _ (hHeld.2.2.2.1))).trans (hHeld.2.2.2.1)
             have dK := (hb.cell (World.block_lt_of_cell? _ _ (hHeld.2.2.2.2.1))).trans (hHeld.2.2.2.2.1)
             have dL := (hb.cell (World.block_lt_of_cell? _ _ (hHeld.2.2.2.2.2))).trans (hHeld.2.2.2.2.2)
             refine ⟨_, rfl, ?_⟩
             replace aD := zW aD.out hb
             replace aA := zV aA.out hb
             replace HB := zX1 aG.out hb
             (try clear hb)
             refine hK.out _ _ ⟨(Qo aA.out 0).trans rfl, (Qo aA.out 1).trans rfl, bY, bZ, dK, dL⟩ (fun hHeld => ?_)
             clear hK K
             refine zN ?_
             refine Vh (Xu HT_.out (by kernel_rfl)) ?_
             try go_wp2
             go_roundg k6
             case measure => have := bS.out; have := HJ2.out; have := cK.out; have := cO.out; have := dV.out; have := eO.out; omega
             case rel => exact ⟨(wrap64 (aM + 1)), zF, H', ⟨by have := bS.out; have := HJ2.out; have := cK.out; have := cO.out; have := dV.out; have := eO.out; omega⟩, ⟨zR aD.out⟩, ⟨zK aA.out⟩, ⟨zG aG.out⟩⟩
            exact absurd H (by simp)
           exact absurd H (by simp)
          exact absurd H (by simp)
         exact absurd H (by simp)
        exact absurd H (by simp)
       exact absurd H (by simp)
      exact absurd H (by simp)
     have H' := Qa.mk H; clear H
     go_wp2
     go_roundg k6
     case measure => have := bS.out; have := HJ2.out; have := cK.out; have := cO.out; have := dV.out; have := eO.out; omega
     case rel => exact ⟨(wrap64 (aK + 1)), zF, H', ⟨by have := bS.out; have := HJ2.out; have := cK.out; have := cO.out; have := dV.out; have := eO.out; omega⟩, ⟨zR aD.out⟩, ⟨zK aA.out⟩, ⟨zG aG.out⟩⟩
    have H' := Qa.mk H; clear H
    go_wp2
    go_roundg k5
    case measure => have := bS.out; have := HJ2.out; have := cK.out; have := cO.out; have := dV.out; omega
    case rel => exact ⟨(wrap64 (aJ + 1)), zF, H', ⟨by have := bS.out; have := HJ2.out; have := cK.out; have := cO.out; have := dV.out; omega⟩, ⟨zR aD.out⟩, ⟨zK aA.out⟩, ⟨zG aG.out⟩⟩
   have H' := Qa.mk H; clear H
   go_wp2
   go_roundg k4
   case measure => have := bS.out; have := HJ2.out; have := cK.out; have := cO.out; omega
   case rel => exact ⟨(wrap64 (aI + 1)), zF, H', ⟨by have := bS.out; have := HJ2.out; have := cK.out; have := cO.out; omega⟩, ⟨zR aD.out⟩, ⟨zK aA.out⟩, ⟨zG aG.out⟩⟩
  have H' := Qa.mk H; clear H
  obtain ⟨gP, gQ, fP⟩ := Kd.R_slice aD.out
  subst fP
  go_wp2
  go_roundg k3
  case measure => have := bS.out; have := HJ2.out; have := cK.out; omega
  case rel => exact ⟨(wrap64 (aT + 1)), zF, H', ⟨by have := bS.out; have := HJ2.out; have := cK.out; omega⟩, ⟨zK aA.out⟩, ⟨zG aG.out⟩⟩
 replace c9 := Bool.eq_false_iff.mpr c9
 subst c9
 replace H := (if_neg zFf).symm.trans H
 generalize dC : (([] : List Int) : List Int) = gT at H
 have dD := Qa.mk dC.symm
 clear dC
 obtain rfl := Option.some.inj H
 go_wp2_with (first | ((with_reducible refine Qf (N := 90) rfl ?_); refine Kd.R_lit (Kd.int .i64) _ 3 ?hg (N := 90) ?hd (xs := ([] : List Int)) (inner := []) (ok := fun _ => True) (okp := fun _ => True) ?hr ?hp (fun _ hk => hk) trivial (Below.refl _ _) (Nat.le_refl _) (by simp) ?_; (case hd => rfl); (case hg => rfl); (case hr => first | (go_simp; done) | (go_simp; rfl)); (case hp => exact (Xb.none _ _)); intro gU iB cB hb hg_ hnew_; clear hg_ hnew_; (first | rw [← dD.out] at cB | (simp only [Int.reduceToNat] at cB; rw [← dD.out] at cB)); have eH := Qa.mk (Kd.R_lower cB (Ql (zG aG.out))); replace aA := zV aA.out hb; replace HB := zX1 aG.out hb; clear hb cB))
 go_ret
 exact ⟨_, zE, zR eH.out, zG aG.out⟩
end Go.Proofs.Ytckkfjdkaimmhaa.PX
namespace Go.Proofs.Ytckkfjdkaimmhaa.M
open Go.RowKit Go.Proofs.YtckkfjdkaimmhaaW.PrintWords Go.Proofs.Ytckkfjdkaimmhaa.PX Go.Proofs.Ytckkfjdkaimmhaa.G
def brk (n : Nat) (t : ByteArray) (x a b c d : Nat) : Bool := decide (chi n t x a b * chi n t x c d = chi n t x a d * chi n t x b c) && decide (chi n t x a d * chi n t x b c = -chi n t x a c * chi n t x b d)
theorem jCh {x y : Int} (hx : x = 1 ∨ x = -1 ∨ x = 0) (hy : y = 1 ∨ y = -1 ∨ y = 0) : wrap64 (x * y) = x * y := by
 rcases hx with rfl | rfl | rfl <;> rcases hy with rfl | rfl | rfl <;> decide +kernel
theorem jFz {x : Int} (hx : x = 1 ∨ x = -1 ∨ x = 0) : wrap64 (-x) = -x ∧ (-x = 1 ∨ -x = -1 ∨ -x = 0) := by
 rcases hx with rfl | rfl | rfl
 ·exact ⟨by decide +kernel, by omega⟩
 ·exact ⟨by decide +kernel, by omega⟩
 ·exact ⟨by decide +kernel, by omega⟩
theorem jK9 (n : Nat) (t : ByteArray) (x a b c d : Nat) : (if wrap64 (chi n t x a b * chi n t x c d) = wrap64 (chi n t x a d * chi n t x b c) then (some (wrap64 (chi n t x a d * chi n t x b c) == wrap64 (wrap64 (-chi n t x a c) * chi n t x b d))) else some false) = some (brk n t x a b c d) := by
 have h := jE3 n t
 rw [jCh (h x a b) (h x c d), jCh (h x a d) (h x b c), (jFz (h x a c)).1, jCh (jFz (h x a c)).2 (h x b d)]
 unfold brk
 by_cases e : chi n t x a b * chi n t x c d = chi n t x a d * chi n t x b c
 ·rw [if_pos e, decide_eq_true e, Bool.true_and]
  rfl
 ·rw [if_neg e, decide_eq_false e, Bool.false_and]
theorem jGf (n : Nat) (t : ByteArray) {x a b c d : Nat} (hx : x < 7) (ha : a < 7) (hb : b < 7) (hc : c < 7) (hd : d < 7) : Ye.f (Vv n t) (x : Int) (a : Int) (b : Int) (c : Int) (d : Int) = some (brk n t x a b c d) := by
 unfold Ye.f
 rw [if_pos (by omega), if_pos (by omega), if_pos (by omega), if_pos (by omega), if_pos (by omega), if_pos (by omega), if_pos (by omega), if_pos (by omega), if_pos (by omega), if_pos (by omega)]
 rw [Wi n t x a b hx ha hb, Wi n t x c d hx hc hd, Wi n t x a d hx ha hd, Wi n t x b c hx hb hc, Wi n t x a c hx ha hc, Wi n t x b d hx hb hd]
 exact jK9 n t x a b c d
theorem jGn {n : Nat} {t : ByteArray} (h : Y1 n t = true) {x a b c d : Nat} (hx : x < n) (ha : a < n) (hb : b < n) (hc : c < n) (hd : d < n) (e : [x, a, b, c, d].Nodup) :
  Ev (fun k => Jd.f k (n : Int) t (x : Int) (a : Int) (b : Int) (c : Int) (d : Int)) (brk n t x a b c d) := by
 simp only [List.nodup_cons, List.mem_cons, List.not_mem_nil, or_false, not_or, not_false_eq_true, List.nodup_nil, and_true] at e
 obtain ⟨⟨e1, e2, e3, e4⟩, ⟨e5, e6, e7⟩, ⟨e8, e9⟩, e10⟩ := e
 unfold Jd.f
 refine Ev.bind (Km h hx ha hb e1 e5 e2) (Ev.bind (Km h hx hc hd e3 e10 e4) (Ev.bind (Km h hx ha hd e1 e7 e4) (Ev.bind (Km h hx hb hc e2 e8 e3) (Ev.bind (Km h hx ha hc e1 e6 e3) (Ev.bind (Km h hx hb hd e2 e9 e4) ?_)))))
 have := jK9 n t x a b c d
 simp only [this]
 exact Ev.now _
abbrev Q4 := Nat × Nat × Nat × Nat
def jMp (n : Nat) (t : ByteArray) (x : Nat) (q : Q4) : Option (List Int) := if brk n t x q.1 q.2.1 q.2.2.1 q.2.2.2 then some [(x : Int), (q.1 : Int), (q.2.1 : Int), (q.2.2.1 : Int), (q.2.2.2 : Int)] else none
def jCy (n : Nat) (t : ByteArray) (x : Nat) (l : List Q4) : Option (List Int) := l.findSome? (jMp n t x)
def After (z : Option (List Int)) (E : Prop) (r : List Int) : Prop := match z with | some v => r = v | none => E
theorem jGx (n : Nat) (t : ByteArray) (x : Nat) (a b : List Q4) : jCy n t x (a ++ b) = (jCy n t x a).or (jCy n t x b) := List.findSome?_append ..
theorem Ki {n : Nat} {t : ByteArray} {x : Nat} {a b : List Q4} {E : Prop} {r : List Int} (h : After (jCy n t x (a ++ b)) E r) : After (jCy n t x a) (After (jCy n t x b) E r) r := by
 rw [jGx] at h
 cases ha : jCy n t x a with
 | some v => rw [ha] at h; exact h
 | none => rw [ha] at h; exact h
theorem jBe {z : Option (List Int)} {E F : Prop} {r : List Int} (h : After z E r) (hEF : E → F) : After z F r := by
 cases z with
 | some v => exact h
 | none => exact hEF h
def qs4 (l : List Nat) (i j k m d : Nat) : List Q4 := (List.range' m d).map fun m => (l.getD i 0, l.getD j 0, l.getD k 0, l.getD m 0)
def qs3 (l : List Nat) (i j k d : Nat) : List Q4 := (List.range' k d).flatMap fun k => qs4 l i j k (k + 1) (l.length - (k + 1))
def qs2 (l : List Nat) (i j d : Nat) : List Q4 := (List.range' j d).flatMap fun j => qs3 l i j (j + 1) (l.length - (j + 1))
def qs1 (l : List Nat) (i d : Nat) : List Q4 := (List.range' i d).flatMap fun i => qs2 l i (i + 1) (l.length - (i + 1))
section
variable {n : Nat} {t : ByteArray} (h : Y1 n t = true) {x : Nat} (hx : x < n) {l : List Nat} (hl : l.length ≤ 7) (hm : ∀ y ∈ l, y < n) (hd : (x :: l).Nodup)
include h hx hl hm hd
theorem sb4 {i j k : Nat} (hij : i < j) (hjk : j < k) (hk : k < l.length) (r : List Int) (d : Nat) : ∀ m : Nat, k < m → m + d = l.length →
  After (jCy n t x (qs4 l i j k m d)) (Ev (fun q => Qe.l3 q (x : Int) (up l) (i : Int) (j : Int) ((k + 1 : Nat) : Int) (n : Int) t) r) r → Ev (fun q => Qe.l4 q (x : Int) (up l) (i : Int) (j : Int) (k : Int) (m : Int) (n : Int) t) r := by
 induction d with
 | zero =>
  intro m hm1 hmd hr
  refine Ji ?_
  simp only [Qe.l4, Kj]
  refine Jn (by omega) ?_
  rw [Qp (by omega) (by omega)]
  exact hr
 | succ d ih =>
  intro m hm1 hmd hr
  refine Ji ?_
  simp only [Qe.l4, Kj]
  refine Qm (by omega) (Qm (by omega) (Qm (by omega) (Qm (by omega) (Qm (by omega) (Qm (by omega) (Qm (by omega) (Qm (by omega) ?_)))))))
  rw [Qp (by omega) (by omega), jNf (i := i) (by omega), jNf (i := j) (by omega), jNf (i := k) hk, jNf (i := m) (by omega)]
  have gi : ∀ {z : Nat} (hz : z < l.length), l.getD z 0 = l[z] := fun hz => by rw [List.getD_eq_getElem?_getD, List.getElem?_eq_getElem hz]; rfl
  have lt : ∀ {z : Nat} (hz : z < l.length), l.getD z 0 < n := fun hz => by rw [gi hz]; exact hm _ (List.getElem_mem _)
  have ne : ∀ {a b : Nat} (ha : a < l.length) (hb : b < l.length), a < b → l.getD a 0 ≠ l.getD b 0 := fun {a b} ha hb hab => by
   rw [gi ha, gi hb]
   exact List.pairwise_iff_getElem.1 (List.nodup_cons.1 hd).2 a b ha hb hab
  have nx : ∀ {z : Nat} (hz : z < l.length), x ≠ l.getD z 0 := fun hz e => by
   rw [gi hz] at e
   exact (List.nodup_cons.1 hd).1 (e ▸ List.getElem_mem _)
  have hi' : i < l.length := by omega
  have hj' : j < l.length := by omega
  have hm' : m < l.length := by omega
  refine Ev.bind (jGn h hx (lt hi') (lt hj') (lt hk) (lt hm') ?_) ?_
  ·simp only [List.nodup_cons, List.mem_cons, List.not_mem_nil, or_false, not_or, not_false_eq_true, List.nodup_nil, and_true]
   exact ⟨⟨nx hi', nx hj', nx hk, nx hm'⟩, ⟨ne hi' hj' hij, ne hi' hk (by omega), ne hi' hm' (by omega)⟩, ⟨ne hj' hk hjk, ne hj' hm' (by omega)⟩, ne hk hm' hm1⟩
  have e : qs4 l i j k m (d + 1) = [(l.getD i 0, l.getD j 0, l.getD k 0, l.getD m 0)] ++ qs4 l i j k (m + 1) d := by rw [qs4, List.range'_succ, List.map_cons]; rfl
  rw [e] at hr
  have hr := Ki hr
  have es : jCy n t x [(l.getD i 0, l.getD j 0, l.getD k 0, l.getD m 0)] = jMp n t x (l.getD i 0, l.getD j 0, l.getD k 0, l.getD m 0) := by
   unfold jCy
   rw [List.findSome?_cons]
   cases jMp n t x (l.getD i 0, l.getD j 0, l.getD k 0, l.getD m 0) <;> rfl
  rw [es, jMp] at hr
  by_cases hb : brk n t x (l.getD i 0) (l.getD j 0) (l.getD k 0) (l.getD m 0) = true
  ·rw [if_pos hb] at hr
   exact Qm hb (Y5 (Ev.now _) (Eq.symm hr))
  ·rw [if_neg hb] at hr
   exact Jn hb (ih (m + 1) (by omega) (by omega) hr)
theorem sb3 {i j : Nat} (hij : i < j) (hj : j < l.length) (r : List Int) (d : Nat) : ∀ k : Nat, j < k → k + d = l.length →
  After (jCy n t x (qs3 l i j k d)) (Ev (fun q => Qe.l2 q (x : Int) (up l) (i : Int) ((j + 1 : Nat) : Int) (n : Int) t) r) r → Ev (fun q => Qe.l3 q (x : Int) (up l) (i : Int) (j : Int) (k : Int) (n : Int) t) r := by
 induction d with
 | zero =>
  intro k hk hkd hr
  refine Ji ?_
  simp only [Qe.l3, Kj]
  refine Jn (by omega) ?_
  rw [Qp (by omega) (by omega)]
  exact hr
 | succ d ih =>
  intro k hk hkd hr
  refine Ji ?_
  simp only [Qe.l3, Kj]
  refine Qm (by omega) ?_
  rw [Qp (by omega) (by omega)]
  have e : qs3 l i j k (d + 1) = qs4 l i j k (k + 1) (l.length - (k + 1)) ++ qs3 l i j (k + 1) d := by rw [qs3, List.range'_succ, List.flatMap_cons]; rfl
  rw [e] at hr
  exact sb4 h hx hl hm hd hij hk (by omega) r (l.length - (k + 1)) (k + 1) (by omega) (by omega) (jBe (Ki hr) (ih (k + 1) (by omega) (by omega)))
theorem sb2 {i : Nat} (hi : i < l.length) (r : List Int) (d : Nat) : ∀ j : Nat, i < j → j + d = l.length →
  After (jCy n t x (qs2 l i j d)) (Ev (fun q => Qe.l1 q (x : Int) (up l) ((i + 1 : Nat) : Int) (n : Int) t) r) r → Ev (fun q => Qe.l2 q (x : Int) (up l) (i : Int) (j : Int) (n : Int) t) r := by
 induction d with
 | zero =>
  intro j hj hjd hr
  refine Ji ?_
  simp only [Qe.l2, Kj]
  refine Jn (by omega) ?_
  rw [Qp (by omega) (by omega)]
  exact hr
 | succ d ih =>
  intro j hj hjd hr
  refine Ji ?_
  simp only [Qe.l2, Kj]
  refine Qm (by omega) ?_
  rw [Qp (by omega) (by omega)]
  have e : qs2 l i j (d + 1) = qs3 l i j (j + 1) (l.length - (j + 1)) ++ qs2 l i (j + 1) d := by rw [qs2, List.range'_succ, List.flatMap_cons]; rfl
  rw [e] at hr
  exact sb3 h hx hl hm hd hj (by omega) r (l.length - (j + 1)) (j + 1) (by omega) (by omega) (jBe (Ki hr) (ih (j + 1) (by omega) (by omega)))
theorem sb1 (r : List Int) (d : Nat) : ∀ i : Nat, i + d = l.length →
  After (jCy n t x (qs1 l i d)) (Ev (fun q => Qe.l0 q ((x + 1 : Nat) : Int) (n : Int) t) r) r → Ev (fun q => Qe.l1 q (x : Int) (up l) (i : Int) (n : Int) t) r := by
 induction d with
 | zero =>
  intro i hid hr
  have aA : n ≤ 7 := by obtain ⟨⟨h0, h1⟩, _, _⟩ := (Z7 _ _).1 h; omega
  refine Ji ?_
  simp only [Qe.l1, Kj]
  refine Jn (by omega) ?_
  rw [Qp (by omega) (by omega)]
  exact hr
 | succ d ih =>
  intro i hid hr
  refine Ji ?_
  simp only [Qe.l1, Kj]
  refine Qm (by omega) ?_
  rw [Qp (by omega) (by omega)]
  have e : qs1 l i (d + 1) = qs2 l i (i + 1) (l.length - (i + 1)) ++ qs1 l (i + 1) d := by rw [qs1, List.range'_succ, List.flatMap_cons]; rfl
  rw [e] at hr
  exact sb2 h hx hl hm hd (by omega) r (l.length - (i + 1)) (i + 1) (by omega) (by omega) (jBe (Ki hr) (ih (i + 1) (by omega)))
end
def Uy (n : Nat) (t : ByteArray) : Nat → Nat → List Int
 | _, 0 => []
 | x, d + 1 => match jCy n t x (qs1 (Yk n x) 0 (Yk n x).length) with | some v => v | none => Uy n t (x + 1) d
def jLn (n : Int) (t : ByteArray) : List Int := if Y1 n t = true then Uy n.toNat t 0 n.toNat else []
theorem jEw {n x : Nat} (h : (Yk n x).Nodup) : (x :: Yk n x).Nodup := List.nodup_cons.2 ⟨by simp [Yk], h⟩
theorem jCq {n : Nat} {t : ByteArray} (h : Y1 n t = true) (hs : t.size ≤ 9223372036854775807) (d : Nat) : ∀ x : Nat, x + d = n → Ev (fun q => Qe.l0 q (x : Int) (n : Int) t) (Uy n t x d) := by
 obtain ⟨⟨h0, h1⟩, _, _⟩ := (Z7 _ _).1 h
 induction d with
 | zero =>
  intro x hx
  refine Ji ?_
  simp only [Qe.l0]
  refine Jn (by omega) (Ji ?_)
  simp only [Qe.j1]
  exact Jn (by decide) (Ev.now _)
 | succ d ih =>
  intro x hx
  refine Ji ?_
  simp only [Qe.l0]
  refine Qm (by omega) (Ev.bind (jB0 n t hs) (Ji ?_))
  simp only [Qe.j1]
  obtain ⟨f1, f2, f3⟩ := jFu (n := n) (x := x) (by omega) (by omega) (by omega)
  refine Qm h (Ev.bind (jKc (by omega) (by omega)) ?_)
  refine sb1 (x := x) (l := Yk n x) h (by omega) (by rw [f1]; omega) f3 (jEw f2) _ (Yk n x).length 0 (by omega) ?_
  rw [Uy]
  cases jCy n t x (qs1 (Yk n x) 0 (Yk n x).length) with
  | some v => exact Eq.refl v
  | none => exact ih (x + 1) (by omega)
theorem jH8 (n : Int) (t : ByteArray) (hs : t.size ≤ 9223372036854775807) : Ev (fun k => Qe.f k n t) (jLn n t) := by
 unfold Qe.f jLn
 by_cases h : Y1 n t = true
 ·rw [if_pos h]
  obtain ⟨⟨h0, h1⟩, _, _⟩ := (Z7 _ _).1 h
  obtain ⟨N, rfl⟩ : ∃ N : Nat, n = (N : Int) := Int.eq_ofNat_of_zero_le (by omega)
  exact jCq h hs N 0 (by omega)
 ·rw [if_neg h]
  refine Ji ?_
  simp only [Qe.l0]
  by_cases h0 : 0 < n
  ·refine Qm h0 (Ev.bind (jB0 n t hs) (Ji ?_))
   simp only [Qe.j1]
   exact Jn h (Ev.now _)
  ·refine Jn h0 (Ji ?_)
   simp only [Qe.j1]
   exact Jn (by decide) (Ev.now _)
def jAq (n : Nat) : List Q4 := (List.range n).flatMap fun i => (List.range n).flatMap fun j => (List.range n).flatMap fun k => (List.range n).flatMap fun m => if i < j ∧ j < k ∧ k < m then [(i, j, k, m)] else []
def jAg (q : Q4) : S91 := ⟨(q.1 : Int), (q.2.1 : Int), (q.2.2.1 : Int), (q.2.2.2 : Int)⟩
theorem jFm : (Q9.f 300 3 = some ((jAq 3).map jAg) ∧ Q9.f 300 4 = some ((jAq 4).map jAg) ∧ Q9.f 300 5 = some ((jAq 5).map jAg)) ∧ Q9.f 300 6 = some ((jAq 6).map jAg) ∧ Q9.f 300 7 = some ((jAq 7).map jAg) := by
 refine ⟨⟨?_, ?_, ?_⟩, ?_, ?_⟩ <;> kernel_rfl
theorem jEd {n : Nat} (h0 : 3 ≤ n) (h1 : n ≤ 7) : Ev (fun k => Q9.f k (n : Int)) ((jAq n).map jAg) := by
 obtain ⟨⟨h3, h4, h5⟩, h6, h7⟩ := jFm
 refine five (p := fun n => Ev (fun k => Q9.f k (n : Int)) ((jAq n).map jAg)) h0 h1 ?_ ?_ ?_ ?_ ?_
 ·exact Ev.of (Q9.mono 3) h3
 ·exact Ev.of (Q9.mono 4) h4
 ·exact Ev.of (Q9.mono 5) h5
 ·exact Ev.of (Q9.mono 6) h6
 ·exact Ev.of (Q9.mono 7) h7
def noX (x : Nat) (q : Q4) : Bool := decide (q.1 ≠ x) && decide (q.2.1 ≠ x) && decide (q.2.2.1 ≠ x) && decide (q.2.2.2 ≠ x)
def jRw (n : Nat) : Bool := ((List.range n).all fun x => decide ((jAq n).filter (noX x) = qs1 (Yk n x) 0 (Yk n x).length)) && ((jAq n).all fun q => decide (q.1 < 7) && decide (q.2.1 < 7) && decide (q.2.2.1 < 7) && decide (q.2.2.2 < 7)) && decide ((jAq n).length ≤ 100)
theorem jKj {n : Nat} (h0 : 3 ≤ n) (h1 : n ≤ 7) : jRw n = true := by
 refine five (p := fun n => jRw n = true) h0 h1 ?_ ?_ ?_ ?_ ?_ <;> decide +kernel
theorem jG6 {qs : List Q4} {i : Nat} (h : i < qs.length) : Qj (qs.map jAg) (i : Int) = jAg qs[i] := by
 unfold Qj
 rw [Int.toNat_natCast, List.getD_eq_getElem?_getD, List.getElem?_map, List.getElem?_eq_getElem h]
 rfl
theorem ib1 {n : Nat} {t : ByteArray} {x : Nat} (hx : x < 7) (qs : List Q4) (hq : ∀ q ∈ qs, q.1 < 7 ∧ q.2.1 < 7 ∧ q.2.2.1 < 7 ∧ q.2.2.2 < 7) (hl : qs.length ≤ 100) (r : List Int) (d : Nat) : ∀ i : Nat, i + d = qs.length →
  After (jCy n t x ((qs.drop i).filter (noX x))) (Ev (fun q => Qx.l0 q (Vv n t) ((x + 1 : Nat) : Int)) r) r → Ev (fun q => Qx.l1 q (Vv n t) (x : Int) (qs.map jAg) ((qs.map jAg).length : Int) (i : Int)) r := by
 induction d with
 | zero =>
  intro i hi hr
  rw [List.drop_of_length_le (by omega)] at hr
  refine Ji ?_
  simp only [Qx.l1, List.length_map]
  refine Jn (by omega) ?_
  rw [Qp (by omega) (by omega)]
  exact hr
 | succ d ih =>
  intro i hi hr
  have hlt : i < qs.length := by omega
  rw [List.drop_eq_getElem_cons hlt, List.filter_cons] at hr
  have hn := ih (i + 1) (by omega)
  obtain ⟨b0, b1, b2, b3⟩ := hq _ (List.getElem_mem hlt)
  refine Ji ?_
  simp only [Qx.l1, jG6 hlt]
  generalize qs[i] = q at *
  obtain ⟨a, b, c, e⟩ := q
  simp only [jAg] at *
  refine Qm (by rw [List.length_map]; omega) (Qm (by omega) (Qm (by rw [List.length_map]; omega) ?_))
  rw [Qp (by omega) (by omega)]
  by_cases h0 : a = x
  ·rw [if_neg (by simp [noX, h0])] at hr
   exact Qm (by omega) (hn hr)
  refine Jn (by omega) ?_
  by_cases h1 : b = x
  ·rw [if_neg (by simp [noX, h1])] at hr
   exact Qm (by omega) (hn hr)
  refine Jn (by omega) ?_
  by_cases h2 : c = x
  ·rw [if_neg (by simp [noX, h2])] at hr
   exact Qm (by omega) (hn hr)
  refine Jn (by omega) ?_
  by_cases h3 : e = x
  ·rw [if_neg (by simp [noX, h3])] at hr
   exact Qm (by omega) (hn hr)
  refine Jn (by omega) (Zv (jGf n t hx b0 b1 b2 b3) ?_)
  rw [if_pos (by simp [noX, h0, h1, h2, h3])] at hr
  have hr := Ki (a := [(a, b, c, e)]) hr
  have es : jCy n t x [(a, b, c, e)] = jMp n t x (a, b, c, e) := by
   unfold jCy
   rw [List.findSome?_cons]
   cases jMp n t x (a, b, c, e) <;> rfl
  rw [es, jMp] at hr
  by_cases hb : brk n t x a b c e = true
  ·rw [if_pos hb] at hr
   exact Qm hb (Y5 (Ev.now _) (Eq.symm hr))
  ·rw [if_neg hb] at hr
   exact Jn hb (hn hr)
theorem jB7 {n : Nat} {t : ByteArray} (h0 : 3 ≤ n) (h1 : n ≤ 7) (d : Nat) : ∀ x : Nat, x + d = n → Ev (fun q => Qx.l0 q (Vv n t) (x : Int)) (Uy n t x d) := by
 have hc := jKj h0 h1
 simp only [jRw, Bool.and_eq_true, List.all_eq_true, List.mem_range, decide_eq_true_eq] at hc
 obtain ⟨⟨hc1, hc2⟩, hc3⟩ := hc
 induction d with
 | zero =>
  intro x hx
  refine Ji ?_
  simp only [Qx.l0, jEa]
  exact Jn (by omega) (Ev.now _)
 | succ d ih =>
  intro x hx
  refine Ji ?_
  simp only [Qx.l0, jEa]
  refine Qm (by omega) (Ev.bind (jEd h0 h1) ?_)
  refine ib1 (by omega) (jAq n) (fun q hq => ?_) hc3 _ (jAq n).length 0 (by omega) ?_
  ·have := hc2 q hq
   exact ⟨this.1.1.1, this.1.1.2, this.1.2, this.2⟩
  rw [List.drop_zero, hc1 x (by omega), Uy]
  cases jCy n t x (qs1 (Yk n x) 0 (Yk n x).length) with
  | some v => exact Eq.refl v
  | none => exact ih (x + 1) (by omega)
theorem jIt (n : Int) (t : ByteArray) (hs : t.size ≤ 9223372036854775807) : Ev (fun k => Y3.f k n t) (jLn n t) := by
 unfold Y3.f jLn
 refine Ev.bind (jHl n t hs) ?_
 by_cases h : Y1 n t = true
 ·rw [if_pos h]
  obtain ⟨⟨h0, h1⟩, _, _⟩ := (Z7 _ _).1 h
  obtain ⟨N, rfl⟩ : ∃ N : Nat, n = (N : Int) := Int.eq_ofNat_of_zero_le (by omega)
  exact Qm h (Ev.bind (jBg h) (Qm (Vw _ _) (Ev.bind (jB7 (by omega) (by omega) N 0 (by omega)) (Ev.now _))))
 ·rw [if_neg h]
  exact Jn h (Ev.now _)
end Go.Proofs.Ytckkfjdkaimmhaa.M
namespace Go.Proofs.Ytckkfjdkaimmhaa.G
open Go.RowKit Go.Proofs.YtckkfjdkaimmhaaW.PrintWords Go.Proofs.YtckkfjdkaimmhaaW.PrintLast Go.Proofs.YtckkfjdkaimmhaaW.PrintMore Go.Proofs.Ytckkfjdkaimmhaa.PX Go.Proofs.Ytckkfjdkaimmhaa.M
set_option linter.unusedVariables false
set_option linter.unusedSimpArgs false
def jB3 (n : Int) (t : ByteArray) : Bool := Y1 n t && (jLn n t).isEmpty
def Yy.f (n : Int) (t : ByteArray) : Option Bool := if t.size ≤ 9223372036854775807 then some (jB3 n t) else none
theorem jOf {α β : Type} {f : Nat → Option α} {g : Nat → Option β} {a : α} {b : β} (h1 : Ev f a) (h2 : Ev g b) : ∃ k, f k = some a ∧ g k = some b := by
 obtain ⟨K1, e1⟩ := h1
 obtain ⟨K2, e2⟩ := h2
 exact ⟨K1 + K2, e1 _ (by omega), e2 _ (by omega)⟩
theorem jNp {P : Program} {ops : Array Oper} {Q : Exit → Act → World → Prop} {rest : List Oper} {oi : Oper} {a : Act} {w : World} (N : Option Tmp) (hd : oi.dst = N) (hw : Region.wanted oi (yielded ops a.tmps) = true) {f : FuncId} {fn : Func} {az : Array Operand} {ts : Array TypeId} (hf : P.funcs[f]? = some fn) (hname : (fn.name == "runtime.NumGoroutine") = false) (hb : fn.body.isSome = true) (args : Array Value)
  (hop : oi.op = .call { callee := .value (.func f), args := az, argTypes := ts }) (hargs : az.map a.eval = args)
  (h : Calls P f args w fun e w' => ∃ v, e = .returned v ∧ wpList P ops Q rest (a.put N v) w') : wpList P ops Q (oi :: rest) a w := by
 refine BigFrame.wpList_want hw fun K hK => ?_
 have he := jG1 hf hname hb args w
 have hrun : (execOp a.eval oi).run P w = .ok (.enter f args) w := by
  unfold execOp
  simp [hop, resolve, Deferred.ofValue, invoke, Act.eval, hargs, he]
 unfold Oper.wp
 rw [hrun, Oper.upon_enter]
 refine h.mono fun e w'' hh => ?_
 obtain ⟨v, rfl, hk⟩ := hh
 subst hd
 exact hK _ _ hk
set_option maxHeartbeats 8000000 in
set_option maxRecDepth 100000 in
theorem Yy.calls (aC : Int) (aA : ByteArray) (r : Bool) (w : World) (h : Yy.f aC aA = some r) :
  Calls Try.prog 21 #[.agg #[.int .i64 aC, .string aA]] w fun e w' => e = .returned (.bool r) ∧ Below w.heap.size w w' := by
 unfold Yy.f at h
 by_cases hs : aA.size ≤ 9223372036854775807
 ·rw [if_pos hs] at h
  obtain ⟨k, h1, h2⟩ := jOf (jHl aC aA hs) (jIt aC aA hs)
  obtain rfl := Option.some.inj h
  clear h hs
  unfold jB3
  generalize Y1 aC aA = b at h1 ⊢
  generalize jLn aC aA = l at h2 ⊢
  have A2 := Qa.mk h1
  have A6 := Qa.mk h2
  clear h1 h2
  have aT := Try.underlying25
  have aV : ∀ (w : World) (a : Option Addr) (l c : Nat), (binOp .eql 27 (.slice a l c) (.slice none 0 0)).run Try.prog w = .ok (.bool a.isNone) w := fun w a l c => by
   simp [binOp, run_equal_slice_nil w 27 3 a l c Try.underlying27]
  have HB := Qa.mk (Below.refl w.heap.size w)
  cases b with
  | false =>
   go_enter Try.func21, Try.ntmps21
   go_wp2_with (first | ((with_reducible refine Qf (N := 1) rfl ?_); refine zBx (N := 1) #[.int .i64 aC, .string aA] 25 ?_; intro gb hg w7 hbox hb; have BK := Qa.mk hbox; replace HB := zX hb; clear hb hbox hg; have aG : w7.cell? ⟨gb, 0, none⟩ = some (.int .i64 aC) := (Qo BK.out 0).trans rfl; have aH : w7.cell? ⟨gb, 1, none⟩ = some (.string aA) := (Qo BK.out 1).trans rfl; have aI := Zd BK.out 0; have aJ := Zd BK.out 1) | ((with_reducible refine Qb (f := 82) rfl ?_); refine jFs (some 4) rfl rfl Try.func82 (by kernel_rfl) rfl #[.agg #[.int .i64 aC, .string aA]] rfl (by (try simp only [List.map_toArray, List.map_cons, List.map_nil]); first | done | rfl) ?_; (with_reducible refine (Jl.calls k aC aA false _ A2.out).mono ?_); rintro e w9 ⟨rfl, hb⟩; refine ⟨_, rfl, ?_⟩; have aD := zX hb; clear HB; have HB := aD; clear aD; (try clear hb)))
   go_ret
   exact ⟨rfl, zB⟩
  | true =>
  cases l with
  | nil =>
   go_enter Try.func21, Try.ntmps21
   go_wp2_with (first | ((with_reducible refine Qf (N := 1) rfl ?_); refine zBx (N := 1) #[.int .i64 aC, .string aA] 25 ?_; intro gb hg w7 hbox hb; have BK := Qa.mk hbox; replace HB := zX hb; clear hb hbox hg; have aG : w7.cell? ⟨gb, 0, none⟩ = some (.int .i64 aC) := (Qo BK.out 0).trans rfl; have aH : w7.cell? ⟨gb, 1, none⟩ = some (.string aA) := (Qo BK.out 1).trans rfl; have aI := Zd BK.out 0; have aJ := Zd BK.out 1) | ((with_reducible refine Qb (f := 82) rfl ?_); refine jFs (some 4) rfl rfl Try.func82 (by kernel_rfl) rfl #[.agg #[.int .i64 aC, .string aA]] rfl (by (try simp only [List.map_toArray, List.map_cons, List.map_nil]); first | done | rfl) ?_; (with_reducible refine (Jl.calls k aC aA true _ A2.out).mono ?_); rintro e w9 ⟨rfl, hb⟩; refine ⟨_, rfl, ?_⟩; replace BK := zV BK.out hb; replace HB := zX hb; (try clear hb); have aK : w9.cell? ⟨gb, 0, none⟩ = some (.int .i64 aC) := (Qo BK.out 0).trans rfl; have aM : w9.cell? ⟨gb, 1, none⟩ = some (.string aA) := (Qo BK.out 1).trans rfl; have aN := Zd BK.out 0; have aQ := Zd BK.out 1) | ((with_reducible refine Qb (f := 9) rfl ?_); refine jNp (some 7) rfl rfl Try.func9 (by kernel_rfl) rfl #[.agg #[.int .i64 aC, .string aA]] rfl (by (try simp only [List.map_toArray, List.map_cons, List.map_nil]); first | done | rfl) ?_; (with_reducible refine (Y3.callsN k aC aA [] _ A6.out).mono ?_); rintro e aU ⟨v1, rfl, ⟨ho0, hn0⟩, hb⟩; refine ⟨_, rfl, ?_⟩; have aD := zX hb; clear HB; have HB := aD; clear aD; (try clear hb); obtain rfl := hn0 rfl; clear ho0))
   go_ret
   exact ⟨rfl, zB⟩
  | cons x_ xs_ =>
  go_enter Try.func21, Try.ntmps21
  go_wp2_with (first | ((with_reducible refine Qf (N := 1) rfl ?_); refine zBx (N := 1) #[.int .i64 aC, .string aA] 25 ?_; intro gb hg w7 hbox hb; have BK := Qa.mk hbox; replace HB := zX hb; clear hb hbox hg; have aG : w7.cell? ⟨gb, 0, none⟩ = some (.int .i64 aC) := (Qo BK.out 0).trans rfl; have aH : w7.cell? ⟨gb, 1, none⟩ = some (.string aA) := (Qo BK.out 1).trans rfl; have aI := Zd BK.out 0; have aJ := Zd BK.out 1) | ((with_reducible refine Qb (f := 82) rfl ?_); refine jFs (some 4) rfl rfl Try.func82 (by kernel_rfl) rfl #[.agg #[.int .i64 aC, .string aA]] rfl (by (try simp only [List.map_toArray, List.map_cons, List.map_nil]); first | done | rfl) ?_; (with_reducible refine (Jl.calls k aC aA true _ A2.out).mono ?_); rintro e w9 ⟨rfl, hb⟩; refine ⟨_, rfl, ?_⟩; replace BK := zV BK.out hb; replace HB := zX hb; (try clear hb); have aK : w9.cell? ⟨gb, 0, none⟩ = some (.int .i64 aC) := (Qo BK.out 0).trans rfl; have aM : w9.cell? ⟨gb, 1, none⟩ = some (.string aA) := (Qo BK.out 1).trans rfl; have aN := Zd BK.out 0; have aQ := Zd BK.out 1) | ((with_reducible refine Qb (f := 9) rfl ?_); refine jNp (some 7) rfl rfl Try.func9 (by kernel_rfl) rfl #[.agg #[.int .i64 aC, .string aA]] rfl (by (try simp only [List.map_toArray, List.map_cons, List.map_nil]); first | done | rfl) ?_; (with_reducible refine (Y3.callsN k aC aA (x_ :: xs_) _ A6.out).mono ?_); rintro e aU ⟨v1, rfl, ⟨ho0, hn0⟩, hb⟩; refine ⟨_, rfl, ?_⟩; have aD := zX hb; clear HB; have HB := aD; clear aD; (try clear hb); obtain ⟨Ao_, co_, rfl⟩ := Kd.R_slice ho0; obtain ⟨ad_, ea_, _⟩ := Kd.at_int (Kd.R_reads' ho0).2.2 0 (by omega) (by simp only [List.length_cons]; omega); cases ea_; clear hn0 ho0))
  go_ret
  exact ⟨rfl, zB⟩
 rw [if_neg hs] at h
 cases h
end Go.Proofs.Ytckkfjdkaimmhaa.G
