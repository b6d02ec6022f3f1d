/- A part of proofs about signs and points: what some functions answer, and that their calls answer so. No condition. -/
import Derived.Test.YtckkfjdkaimmhaaProg
import Derived.Laws.IdiomStrings
import Derived.LoopTactic
import Derived.Test.YtckkfjdkaimmhaaV1
import Derived.Test.YtckkfjdkaimmhaaBmgepnm1
set_option linter.unusedVariables false
set_option linter.unusedSimpArgs false
namespace Go.Proofs.Ytckkfjdkaimmhaa.G
open Go.RowKit Go.Proofs.YtckkfjdkaimmhaaW.PrintWords Go.Proofs.YtckkfjdkaimmhaaW.PrintLast Go.Proofs.YtckkfjdkaimmhaaW.PrintMore
set_option linter.unusedVariables false
set_option linter.unusedSimpArgs false
def jN4 (c : UInt8) : UInt8 := if c = 43 then 45 else if c = 45 then 43 else c
def jGy (l : List UInt8) : List UInt8 := l.map jN4
def V8.f (t : ByteArray) : Option ByteArray := if t.size ≤ 1000 then some ⟨(jGy t.data.toList).toArray⟩ else none
def V4 (l : List UInt8) (m i : Nat) : List Value := ((jGy (l.take i) ++ l.drop i).map fun c => Value.int .u8 (c.toNat : Int)) ++ List.replicate m (.int .u8 0)
theorem jD7 (l : List UInt8) (m i : Nat) (h : i ≤ l.length) : (V4 l m i).length = l.length + m := by
 simp [V4, jGy]; omega
theorem jBk (l : List UInt8) (m i : Nat) (h : i < l.length) :
  V4 l m i = ((jGy (l.take i)).map fun c => Value.int .u8 (c.toNat : Int)) ++ (Value.int .u8 (l[i].toNat : Int) :: ((l.drop (i + 1)).map (fun c => Value.int .u8 (c.toNat : Int)) ++ List.replicate m (.int .u8 0))) := by
 unfold V4
 rw [List.drop_eq_getElem_cons h]
 simp only [List.map_append, List.map_cons, List.append_assoc, List.cons_append]
theorem jCm (l : List UInt8) (m i : Nat) (h : i < l.length) :
  V4 l m (i + 1) = ((jGy (l.take i)).map fun c => Value.int .u8 (c.toNat : Int)) ++ (Value.int .u8 ((jN4 l[i]).toNat : Int) :: ((l.drop (i + 1)).map (fun c => Value.int .u8 (c.toNat : Int)) ++ List.replicate m (.int .u8 0))) := by
 unfold V4 jGy
 rw [List.take_succ_eq_append_getElem h]
 simp only [List.map_append, List.map_cons, List.map_nil, List.append_assoc, List.cons_append, List.nil_append]
theorem Wm (l : List UInt8) (i : Nat) (h : i < l.length) : ((jGy (l.take i)).map fun c => Value.int .u8 (c.toNat : Int)).length = i := by
 simp [jGy]; omega
theorem jIo (l : List UInt8) (m i : Nat) (h : i < l.length) : (V4 l m i)[i]? = some (.int .u8 (l[i].toNat : Int)) := by
 rw [jBk l m i h, List.getElem?_append_right (by rw [Wm l i h]; exact Nat.le_refl _), Wm l i h, Nat.sub_self]
 rfl
theorem jH4 (l : List UInt8) (m i : Nat) (h : i < l.length) : (V4 l m i).set i (.int .u8 ((jN4 l[i]).toNat : Int)) = V4 l m (i + 1) := by
 rw [jBk l m i h, jCm l m i h, List.set_append_right _ _ (by rw [Wm l i h]; exact Nat.le_refl _), Wm l i h, Nat.sub_self]
 rfl
theorem jGv (l : List UInt8) (m i : Nat) (h : i < l.length) (hb : jN4 l[i] = l[i]) : V4 l m i = V4 l m (i + 1) := by
 rw [jBk l m i h, jCm l m i h, hb]
theorem jH5 (l : List UInt8) (m j : Nat) (h : j < (jGy l).length) : (V4 l m l.length)[j]? = some (.int .u8 ((jGy l)[j].toNat : Int)) := by
 unfold V4
 rw [List.take_length, List.drop_length, List.append_nil, List.getElem?_append_left (by simpa using h), List.getElem?_map, List.getElem?_eq_getElem h]
 rfl
def jIi (l : List UInt8) (m i T : Nat) : Obj := .cells (V4 l m i).toArray T (l.length + m, l.length + m + 1)
theorem jF5 {w : World} {g T m i j : Nat} {l : List UInt8} (h : w.heap[g]? = some (jIi l m i T)) : w.cell? ⟨g, j, none⟩ = (V4 l m i)[j]? := by
 unfold World.cell?
 simp only [h, jIi]
 simp
theorem jG7 {w : World} {g T m i j : Nat} {l : List UInt8} (h : w.heap[g]? = some (jIi l m i T)) (hj : j < l.length) : w.frozen? ⟨g, j, none⟩ = false := by
 unfold World.frozen?
 simp only [h, jIi]
 simp; omega
theorem jLp {w : World} {g T m i : Nat} {l : List UInt8} (h : w.heap[g]? = some (jIi l m i T)) (hj : i < l.length) {b : UInt8} (hb : jN4 l[i] = b) : (w.setCell ⟨g, i, none⟩ (.int .u8 (b.toNat : Int))).heap[g]? = some (jIi l m (i + 1) T) := by
 subst hb
 simp only [World.setCell, Array.getElem?_modify, h, jIi]
 simp [← jH4 l m i hj]
theorem jNc (w : World) (l : List UInt8) (src dst e : Nat) (hs : Try.prog.underlying src = some .string) (hd : Try.prog.underlying dst = some (.slice e)) (he : Try.prog.underlying e = some (.int .u8)) :
  ∃ c, (convert src dst (.string ⟨⟨l⟩⟩)).run Try.prog w = .ok (.slice (some ⟨w.heap.size, 0, none⟩) l.length c) (w.drew.alloc (jIi l (c - l.length) 0 e)) := by
 refine ⟨grownCap w l.length 0 e, ?_⟩
 have h := run_bytes_of_string w src dst e ⟨⟨l⟩⟩ hs hd he
 have e1 : bytesRow ⟨⟨l⟩⟩ (grownCap w l.length 0 e) = (V4 l (grownCap w l.length 0 e - l.length) 0).toArray := by
  apply Array.toList_inj.1
  simp [bytesRow, V4, jGy, ByteArray.size]
 have e2 : (ByteArray.mk ⟨l⟩).size = l.length := rfl
 rw [e2, e1] at h
 rw [h]
 unfold jIi
 simp [jD7]
set_option maxHeartbeats 2000000 in
set_option maxRecDepth 100000 in
theorem V8.calls (a0 : ByteArray) (r : ByteArray) (w : World) (h : V8.f a0 = some r) :
  Calls Try.prog 147 #[.string a0] w fun e w' => e = .returned (.string r) ∧ Below w.heap.size w w' := by
 unfold V8.f at h
 by_cases hs : a0.size ≤ 1000
 ·rw [if_pos hs] at h
  obtain rfl := Option.some.inj h
  clear h
  obtain ⟨⟨l⟩⟩ := a0
  have hl : l.length ≤ 1000 := hs
  clear hs
  have hu := Try.underlying22
  obtain ⟨c, hconv⟩ := jNc w l 9 22 5 Try.underlying9 Try.underlying22 Try.underlying5
  have HB0 := Qa.mk (Below.refl w.heap.size w)
  go_enter Try.func147, Try.ntmps147
  go_wp2
  clear hconv
  go_loopg [10] l.length (fun kq v10 w' => ∃ i : Nat, v10 = .int .i64 i ∧ Qa (i + kq = l.length) ∧ Qa (w'.heap[w.heap.size]? = some (jIi l (c - l.length) i 5)) ∧ Qa (Below w.heap.size w w'))
  case atStart => exact ⟨0, rfl, ⟨by omega⟩, ⟨jGe _ _⟩, ⟨Jq (Wu HB0.out) _⟩⟩
  case round =>
  obtain ⟨i, rfl, hi, hO, HB⟩ := hrel
  by_cases hlt : i < l.length
  ·obtain ⟨k1, rfl⟩ : ∃ k1, gk = k1 + 1 := ⟨gk - 1, by have := hi.out; omega⟩
   have hcell := jF5 (j := i) hO.out
   rw [jIo l _ i hlt] at hcell
   have hfr := jG7 hO.out hlt
   have hg : Qa (w.heap.size ≤ w.heap.size) := ⟨Nat.le_refl _⟩
   have hbb : Qa (∀ b, jN4 l[i] = b → (wr.setCell ⟨w.heap.size, i, none⟩ (.int .u8 (b.toNat : Int))).heap[w.heap.size]? = some (jIi l (c - l.length) (i + 1) 5)) := ⟨fun b hb => jLp hO.out hlt hb⟩
   have hsame : Qa (jN4 l[i] = l[i] → V4 l (c - l.length) i = V4 l (c - l.length) (i + 1)) := ⟨jGv l _ i hlt⟩
   generalize l[i] = b at hcell hbb hsame
   by_cases h43 : b = 43
   ·subst h43
    have hcell : wr.cell? ⟨w.heap.size, i, none⟩ = some (.int .u8 43) := hcell
    have hst := Qa.mk (show (wr.setCell ⟨w.heap.size, i, none⟩ (.int .u8 45)).heap[w.heap.size]? = _ from hbb.out 45 rfl)
    clear hbb hsame
    go_wp2
    go_roundg k1
    case measure => omega
    case rel => exact ⟨i + 1, by go_num, ⟨by have := hi.out; omega⟩, hst, ⟨Jt HB.out hg.out⟩⟩
   by_cases h45 : b = 45
   ·subst h45
    have hcell : wr.cell? ⟨w.heap.size, i, none⟩ = some (.int .u8 45) := hcell
    have hst := Qa.mk (show (wr.setCell ⟨w.heap.size, i, none⟩ (.int .u8 43)).heap[w.heap.size]? = _ from hbb.out 43 rfl)
    clear hbb hsame h43
    go_wp2
    go_roundg k1
    case measure => omega
    case rel => exact ⟨i + 1, by go_num, ⟨by have := hi.out; omega⟩, hst, ⟨Jt HB.out hg.out⟩⟩
   have hn1 : ((b.toNat : Int) == 43) = false := by
    apply beq_eq_false_iff_ne.2; intro e; apply h43; apply UInt8.toNat_inj.1; show b.toNat = 43; omega
   have hn2 : ((b.toNat : Int) == 45) = false := by
    apply beq_eq_false_iff_ne.2; intro e; apply h45; apply UInt8.toNat_inj.1; show b.toNat = 45; omega
   have hst : Qa (wr.heap[w.heap.size]? = some (jIi l (c - l.length) (i + 1) 5)) := ⟨by
    have e := hsame.out (by unfold jN4; rw [if_neg h43, if_neg h45])
    have := hO.out
    unfold jIi at this ⊢
    rw [← e]; exact this⟩
   clear hbb hsame h43 h45
   go_wp2
   go_roundg k1
   case measure => omega
   case rel => exact ⟨i + 1, by go_num, ⟨by have := hi.out; omega⟩, hst, HB⟩
  have hil : i = l.length := by have := hi.out; omega
  have hback : (convert 22 9 (.slice (some ⟨w.heap.size, 0, none⟩) l.length c)).run Try.prog wr = .ok (.string ⟨(jGy l).toArray⟩) wr := by
   have hlen : (jGy l).length = l.length := by simp [jGy]
   have := run_convert_bytes_back wr 22 9 5 ⟨w.heap.size, 0, none⟩ c (jGy l) Try.underlying22 Try.underlying5 Try.underlying9 (fun j hj => by
    rw [add_plain, jF5 (j := j) hO.out, hil]
    exact jH5 l _ j hj)
   rw [hlen] at this
   exact this
  have hilt : decide ((i : Int) < (l.length : Int)) = false := decide_eq_false (by omega)
  clear hil
  go_wp2
  go_ret
  exact ⟨rfl, HB.out⟩
 rw [if_neg hs] at h
 cases h
end Go.Proofs.Ytckkfjdkaimmhaa.G
namespace Go.Proofs.Ytckkfjdkaimmhaa.PX
open Go.RowKit Go.Proofs.Ytckkfjdkaimmhaa.G Go.Proofs.YtckkfjdkaimmhaaW.PrintWords Go.Proofs.YtckkfjdkaimmhaaW.PrintLast Go.Proofs.YtckkfjdkaimmhaaW.PrintMore
attribute [local go_sem] max2_int min2_int Yd Yg Xh Xf Xq Xp   -- for this text's walks alone
set_option linter.unusedVariables false
set_option linter.unusedSimpArgs false
def Jf.f (a0 : Int) (a1 : Int) : Option (Bool) := if 0 ≤ (IntKind.u64.wrap (a1)) then (some ((Go.bits .and .i64 (shr .i64 a0 (IntKind.u64.wrap (a1))) 1) == 1)) else (none)
set_option maxHeartbeats 8000000 in
set_option maxRecDepth 100000 in
theorem Jf.calls (a0 : Int) (a1 : Int) (r : Bool) (w : World) (h : Jf.f a0 a1 = some r) :
  Calls Try.prog 129 #[.int .i64 a0, .int .i64 a1] w fun e w' => e = .returned (.bool r) ∧ Qs w w' := by
 have H := h
 unfold Jf.f at H
 clear h
 obtain ⟨aD, aC⟩ : ∃ j_ : Int, (IntKind.u64.wrap (a1)) = j_ := ⟨_, rfl⟩
 first | rw [aC] at H | simp only [aC] at H
 replace H := Xw H
 rcases H with ⟨aI, aJ, H⟩ | ⟨c4, H⟩
 ·obtain ⟨aK, aA⟩ : ∃ j_ : Int, (shr .i64 a0 (aD)) = j_ := ⟨_, rfl⟩
  first | rw [aA] at H | simp only [aA] at H
  have aG : (a0 / 2 ^ min (aD).toNat 64) = aK := aA
  have aH := U3 aA
  obtain rfl := Option.some.inj H
  go_enter Try.func129, Try.ntmps129
  go_wp2
  go_ret
  exact ⟨by first | rfl | (simp; done) | (simp only [← aC, ← aA] <;> (first | rfl | simp)) | (simp [*]; done), by repeat (first | exact Qs.refl _ | apply Qs.step)⟩
 exact absurd H (by simp)
def Yv.f (a0 : Int) (a1 : Int) : Option (Int) := if a0 > a1 then (some a0) else (some a1)
set_option maxHeartbeats 8000000 in
set_option maxRecDepth 100000 in
theorem Yv.calls (a0 : Int) (a1 : Int) (r : Int) (w : World) (h : Yv.f a0 a1 = some r) :
  Calls Try.prog 112 #[.int .i64 a0, .int .i64 a1] w fun e w' => e = .returned (.int .i64 r) ∧ Qs w w' := by
 have H := h
 unfold Yv.f at H
 clear h
 replace H := Vt H
 rcases H with ⟨c3, H⟩ | ⟨c3, H⟩
 ·have aA : decide (a1 < a0) = true := decide_eq_true c3
  clear c3
  obtain rfl := Option.some.inj H
  go_enter Try.func112, Try.ntmps112
  go_wp2
  go_ret
  exact ⟨by first | rfl | (simp; done) | (simp [*]; done), by repeat (first | exact Qs.refl _ | apply Qs.step)⟩
 have aA : decide (a1 < a0) = false := decide_eq_false c3
 clear c3
 obtain rfl := Option.some.inj H
 go_enter Try.func112, Try.ntmps112
 go_wp2
 go_ret
 exact ⟨by first | rfl | (simp; done) | (simp [*]; done), by repeat (first | exact Qs.refl _ | apply Qs.step)⟩
def Xd.f (a0 : Int) : Option (ByteArray) := if a0 > 0 then (some (⟨#[43]⟩ : ByteArray)) else (some (⟨#[45]⟩ : ByteArray))
set_option maxHeartbeats 8000000 in
set_option maxRecDepth 100000 in
theorem Xd.calls (a0 : Int) (r : ByteArray) (w : World) (h : Xd.f a0 = some r) :
  Calls Try.prog 102 #[.int .i64 a0] w fun e w' => e = .returned (.string r) ∧ Qs w w' := by
 have H := h
 unfold Xd.f at H
 clear h
 replace H := Vt H
 rcases H with ⟨c2, H⟩ | ⟨c2, H⟩
 ·have aA : decide (0 < a0) = true := decide_eq_true c2
  clear c2
  obtain rfl := Option.some.inj H
  go_enter Try.func102, Try.ntmps102
  go_wp2
  go_ret
  exact ⟨by first | rfl | (simp; done) | (simp [*]; done), by repeat (first | exact Qs.refl _ | apply Qs.step)⟩
 have aA : decide (0 < a0) = false := decide_eq_false c2
 clear c2
 obtain rfl := Option.some.inj H
 go_enter Try.func102, Try.ntmps102
 go_wp2
 go_ret
 exact ⟨by first | rfl | (simp; done) | (simp [*]; done), by repeat (first | exact Qs.refl _ | apply Qs.step)⟩
def Zr.f (k : Nat) (aA : Int) (aC : ByteArray) (a1 : Int) (a2 : Int) (a3 : Int) (a4 : Int) : Option (ByteArray) := (Jp.f k aA aC a2 a3 a4).bind fun aG => ((Jp.f k aA aC a1 a3 a4).bind fun aJ => ((Xd.f (wrap64 ((wrap64 (-aG)) * aJ))).bind fun aD => (if 1 + aD.size ≤ 9223372036854775807 then ((Jp.f k aA aC a1 a2 a4).bind fun aK => ((Xd.f (wrap64 (aG * aK))).bind fun aH => (if 1 + aD.size + aH.size ≤ 9223372036854775807 then ((Jp.f k aA aC a1 a2 a3).bind fun aM => ((Xd.f (wrap64 ((wrap64 (-aG)) * aM))).bind fun aI => (if 1 + aD.size + aH.size + aI.size ≤ 9223372036854775807 then (some ((((⟨#[43]⟩ : ByteArray) ++ aD) ++ aH) ++ aI)) else (none)))) else (none)))) else (none))))
def Zr.T2 : Bool × List (List Nat × List Nat) := (true, [([], []), ([0], [0]), ([], []), ([], []), ([], []), ([], []), ([2, 3, 4, 5], [2, 3, 4, 5]), ([1, 6], [1, 6]), ([7, 6], [7]), ([8], [8]), ([], []), ([], []), ([], []), ([], []), ([], []), ([11, 12, 13, 14, 8], [11, 12, 13, 14]), ([10, 15], [10, 15]), ([16, 15], [16]), ([9, 17], [9, 17]), ([18, 17, 0, 1, 2, 3, 4, 5, 6, 7, 8, 9, 10, 11, 12, 13, 14, 15, 16, 17, 18], [18])])
def Zr.B2 : List Nat := [0, 1, 0, 0, 0, 0, 60, 127, 255, 511, 0, 0, 0, 0, 0, 31231, 65023, 130559, 262143, 524287]
theorem Zr.tab2 : Uc .any (opsOf Try.f98 2) = Zr.T2 := by kernel_rfl
theorem Zr.bits2 : X6 Zr.T2.2 Zr.B2 = true := by kernel_rfl
set_option maxHeartbeats 8000000 in
set_option maxRecDepth 100000 in
theorem Zr.calls (k : Nat) (aC : Int) (aD : ByteArray) (a1 : Int) (a2 : Int) (a3 : Int) (a4 : Int) (r : ByteArray) (w : World) (h : Zr.f k aC aD a1 a2 a3 a4 = some r) :
  Calls Try.prog 98 #[.agg #[.int .i64 aC, .string aD], .int .i64 a1, .int .i64 a2, .int .i64 a3, .int .i64 a4] w fun e w' => e = .returned (.string r) ∧ Below w.heap.size w w' := by
 have bJ := Try.underlying25
 have HB := Qa.mk (Below.refl w.heap.size w)
 have H := h
 unfold Zr.f at H
 clear h
 obtain ⟨aH, A6, H⟩ := zO H
 obtain ⟨aK, A7, H⟩ := zO H
 obtain ⟨aI, A8, H⟩ := zO H
 replace H := U1 H
 rcases H with ⟨c9, bK, bL, H⟩ | ⟨c9, H⟩
 ·try have bM : (9223372036854775807 < 1 + aI.size) = False := eq_false (Nat.not_lt.2 c9)
  obtain ⟨aM, bN, H⟩ := zO H
  obtain ⟨aN, bO, H⟩ := zO H
  replace H := U1 H
  rcases H with ⟨c12, bC, bD, H⟩ | ⟨c12, H⟩
  ·try have bE : (9223372036854775807 < 1 + aI.size + aN.size) = False := eq_false (Nat.not_lt.2 c12)
   obtain ⟨aQ, bP, H⟩ := zO H
   obtain ⟨aT, bQ, H⟩ := zO H
   replace H := U1 H
   rcases H with ⟨c15, bF, bG, H⟩ | ⟨c15, H⟩
   ·try have bH : (9223372036854775807 < 1 + aI.size + aN.size + aT.size) = False := eq_false (Nat.not_lt.2 c15)
    obtain rfl := Option.some.inj H
    go_enter Try.func98, Try.ntmps98
    try go_wp2_with (first | ((with_reducible refine Qf (N := 5) rfl ?_); refine zBx (N := 5) #[.int .i64 aC, .string aD] 25 ?_; intro aJ hg w16 hbox hb; have aA := Qa.mk (hbox); have bI := zS hg; have aG := zS hg; replace HB := zX hb; clear hb hbox hg; obtain ⟨aU, aV, aW, aX⟩ := zq2 aA.out) | ((with_reducible refine Qb (f := 144) rfl ?_); refine zD (some 17) Try.func144 _ ((Jp.calls k aC aD a2 a3 a4 aH _ A6.out).mono ?_); rintro e bR ⟨rfl, hb⟩; refine ⟨_, rfl, ?_⟩; replace aA := zV aA.out hb; replace HB := zX1 aG.out hb; (try clear hb)))
    replace aA := Qa.mk (Jo aA.out)
    replace HB := Qa.mk (Qt HB.out)
    refine Ya (n := 20) (S := fun w' => w'.cell? ⟨aJ, 0, none⟩ = some (.int .i64 aC) ∧ w'.cell? ⟨aJ, 1, none⟩ = some (.string aD)) (ds := []) #[false, false, false, false, false, false, false, false, false, false, false, false, false, false, false, false, false, false, false, false] (by kernel_rfl) rfl rfl ⟨(Qo aA.out 0).trans rfl, (Qo aA.out 1).trans rfl⟩ (fun hHeld => ?_); refine Z0 Zr.tab2 Zr.bits2 (fun HT_ HW_ => ?_)
    generalize bR.drew = bS at aA HB hHeld ⊢
    refine zP 0 (some 18) rfl rfl ?_
    refine zP 1 (some 19) rfl rfl ?_
    refine zP 3 (some 21) rfl rfl ?_
    refine zP 4 (some 22) rfl rfl ?_
    refine zP 5 (some 23) rfl rfl ?_
    refine zP 10 (some 28) rfl rfl ?_
    refine zP 12 (some 30) rfl rfl ?_
    refine zP 13 (some 31) rfl rfl ?_
    refine zP 14 (some 32) rfl rfl ?_
    refine zY2 2 (some 20) rfl rfl hHeld ?_
    refine zY2 11 (some 29) rfl rfl hHeld ?_
    refine zU 6 (some 24) rfl rfl (fun K hK => ?_)
    refine Xx Try.func144 (by kernel_rfl) rfl #[.agg #[.int .i64 aC, .string aD], .int .i64 a1, .int .i64 a3, .int .i64 a4] (by rfl) rfl rfl zM ?_
    with_reducible refine (Jp.calls k aC aD a1 a3 a4 aK _ A7.out).mono ?_
    rintro e bT ⟨rfl, hb⟩
    refine ⟨_, rfl, ?_⟩
    replace aA := zV aA.out hb
    replace HB := zX1 aG.out hb
    (try clear hb)
    refine hK.out _ _ (zh2 aA.out) (fun hHeld => ?_)
    clear hK K
    refine zN ?_
    refine zP 7 (some 25) rfl rfl ?_
    refine zU 8 (some 26) rfl rfl (fun K hK => ?_)
    refine Xx Try.func102 (by kernel_rfl) rfl #[.int .i64 (wrap64 ((wrap64 (-aH)) * aK))] (by rfl) rfl rfl zM ?_
    with_reducible refine (Xd.calls (wrap64 ((wrap64 (-aH)) * aK)) aI _ A8.out).mono ?_
    rintro e w' ⟨rfl, ⟨nd, rfl⟩⟩
    refine ⟨_, rfl, ?_⟩
    refine hK.out _ _ (zh2 aA.out) (fun hHeld => ?_)
    clear hK K
    refine zN ?_
    refine zP 9 (some 27) rfl rfl ?_
    refine zU 15 (some 33) rfl rfl (fun K hK => ?_)
    refine Xx Try.func144 (by kernel_rfl) rfl #[.agg #[.int .i64 aC, .string aD], .int .i64 a1, .int .i64 a2, .int .i64 a4] (by rfl) rfl rfl zM ?_
    with_reducible refine (Jp.calls k aC aD a1 a2 a4 aM _ bN.out).mono ?_
    rintro e bU ⟨rfl, hb⟩
    refine ⟨_, rfl, ?_⟩
    replace aA := zV aA.out hb
    replace HB := zX1 aG.out hb
    (try clear hb)
    refine hK.out _ _ (zh2 aA.out) (fun hHeld => ?_)
    clear hK K
    refine zN ?_
    refine zP 16 (some 34) rfl rfl ?_
    refine zU 17 (some 35) rfl rfl (fun K hK => ?_)
    refine Xx Try.func102 (by kernel_rfl) rfl #[.int .i64 (wrap64 (aH * aM))] (by rfl) rfl rfl zM ?_
    with_reducible refine (Xd.calls (wrap64 (aH * aM)) aN _ bO.out).mono ?_
    rintro e w' ⟨rfl, ⟨nd, rfl⟩⟩
    refine ⟨_, rfl, ?_⟩
    refine hK.out _ _ (zh2 aA.out) (fun hHeld => ?_)
    clear hK K
    refine zN ?_
    refine zP 18 (some 36) rfl rfl ?_
    refine zP 19 (some 12) rfl rfl ?_
    refine Vh (Xu HT_.out (by kernel_rfl)) ?_
    obtain ⟨aY, aZ, bA, bB⟩ := zq2 aA.out
    try go_wp2_with (first | ((with_reducible refine Qb (f := 144) rfl ?_); refine zD (some 44) Try.func144 _ ((Jp.calls k aC aD a1 a2 a3 aQ _ bP.out).mono ?_); rintro e bV ⟨rfl, hb⟩; refine ⟨_, rfl, ?_⟩; replace aA := zV aA.out hb; replace HB := zX1 aG.out hb; (try clear hb)) | ((with_reducible refine Qb (f := 102) rfl ?_); refine zD (some 46) Try.func102 _ ((Xd.calls (wrap64 ((wrap64 (-aH)) * aQ)) aT _ bQ.out).mono ?_); rintro e w' ⟨rfl, ⟨nd, rfl⟩⟩; refine ⟨_, rfl, ?_⟩))
    go_ret
    exact ⟨zE, zG aG.out⟩
   exact absurd H (by simp)
  exact absurd H (by simp)
 exact absurd H (by simp)
def J4.l0 : Nat → List Int → ByteArray → Int → Int → Int → Option (Int × Int)
 | 0, _, _, _, _, _ => none
 | k + 1, x1, x6, x7, x8, x9 => if x9 < 4 then (if 0 ≤ x9 then (if x9 < (x6.size : Int) then (if (bt x6 x9) = 43 then (if x9 < (x1.length : Int) then (if 0 ≤ (IntKind.u64.wrap (rd x1 x9)) then (J4.l0 k x1 x6 (wrap64 (x7 + (shl .i64 1 (IntKind.u64.wrap (rd x1 x9))))) x8 (wrap64 (x9 + 1))) else (none)) else (none)) else (if x9 < (x1.length : Int) then (if 0 ≤ (IntKind.u64.wrap (rd x1 x9)) then (J4.l0 k x1 x6 x7 (wrap64 (x8 + (shl .i64 1 (IntKind.u64.wrap (rd x1 x9))))) (wrap64 (x9 + 1))) else (none)) else (none))) else (none)) else (none)) else (some (x7, x8))
def J4.f (k : Nat) (aA : Int) (aC : ByteArray) (l1 : List Int) : Option (Int × Int) := if 0 < (l1.length : Int) then (if 1 < (l1.length : Int) then (if 2 < (l1.length : Int) then (if 3 < (l1.length : Int) then ((Zr.f k aA aC (rd l1 0) (rd l1 1) (rd l1 2) (rd l1 3)).bind fun aD => (J4.l0 k l1 aD 0 0 0)) else (none)) else (none)) else (none)) else (none)
def J4.T1 : Bool × List (List Nat × List Nat) := (true, [([], []), ([], []), ([1], [1]), ([2], [2]), ([], []), ([4], [4]), ([5], [5]), ([], []), ([7], [7]), ([8], [8]), ([], []), ([10], [10]), ([11], [11]), ([0, 3, 6, 9, 12], [0, 3, 6, 9, 12]), ([13, 13, 0, 1, 2, 3, 4, 5, 6, 7, 8, 9, 10, 11, 12, 13], [13])])
def J4.B1 : List Nat := [0, 0, 2, 6, 0, 16, 48, 0, 128, 384, 0, 1024, 3072, 8191, 16383]
theorem J4.tab1 : Uc .any (opsOf Try.f108 1) = J4.T1 := by kernel_rfl
theorem J4.bits1 : X6 J4.T1.2 J4.B1 = true := by kernel_rfl
set_option maxHeartbeats 8000000 in
set_option maxRecDepth 100000 in
theorem J4.calls (k : Nat) (bA : Int) (bB : ByteArray) (A1 : Option Addr) (c1 : Nat) (l1 : List Int) (r1 : Int) (r2 : Int) (w : World) (hr1 : Kd.C (Kd.int .i64) w A1 l1.length l1) (hc1 : l1.length ≤ c1) (h : J4.f k bA bB l1 = some (r1, r2)) :
  Calls Try.prog 108 #[.agg #[.int .i64 bA, .string bB], .slice A1 l1.length c1] w fun e w' => e = .returned (.tuple #[.int .i64 r1, .int .i64 r2]) ∧ Below w.heap.size w w' := by
 have fF := Try.underlying25
 have HR1 := Qa.mk hr1
 have fG := Qa.mk hc1
 clear hr1 hc1
 have HB := Qa.mk (Below.refl w.heap.size w)
 have H := h
 unfold J4.f at H
 clear h
 replace H := jA4 H
 rcases H with ⟨c3, dH, H⟩ | ⟨c3, H⟩
 ·have dI : decide (0 < l1.length) = true := decide_eq_true (by omega)
  clear c3
  replace H := jA4 H
  rcases H with ⟨c4, dJ, H⟩ | ⟨c4, H⟩
  ·have dK : decide (1 < l1.length) = true := decide_eq_true (by omega)
   clear c4
   replace H := jA4 H
   rcases H with ⟨c5, dL, H⟩ | ⟨c5, H⟩
   ·have dM : decide (2 < l1.length) = true := decide_eq_true (by omega)
    clear c5
    replace H := jA4 H
    rcases H with ⟨c6, dN, H⟩ | ⟨c6, H⟩
    ·have dO : decide (3 < l1.length) = true := decide_eq_true (by omega)
     clear c6
     obtain ⟨bC, A7, H⟩ := zO H
     have H' := Qa.mk H; clear H
     go_enter Try.func108, Try.ntmps108
     try go_wp2_with (first | ((with_reducible refine Qf (N := 2) rfl ?_); refine zBx (N := 2) #[.int .i64 bA, .string bB] 25 ?_; intro bF hg w8 hbox hb; have aH := Qa.mk (hbox); have eO := zS hg; have aV := zS hg; replace HB := zX hb; clear hb hbox hg))
     replace aH := Qa.mk (Jo aH.out)
     replace HB := Qa.mk (Qt HB.out)
     have bM : 0 ≤ (0 : Int) := (by omega)
     have bN : 0 < (l1.length : Int) := zA
     obtain ⟨aQ, dP, aA⟩ := Kd.at_int HR1.out 0 bM bN
     have aI := aA
     (try rw [show ((0 : Int)).toNat = 0 from rfl] at aI)
     (try rw [show 0 * 1 = 0 from rfl] at aI)
     (try rw [Addr.add_zero'] at aI)
     cases dP
     have eP : (0 < l1.length) = True := eq_true (by omega)
     (try rw [show ((0 : Int)).toNat = 0 from rfl] at aA)
     (try rw [Addr.add_zero'] at aA)
     replace aA := (HB.out.cell (World.block_lt_of_cell? w _ aA)).trans aA
     replace bM := eq_true bM
     replace bN := eq_true bN
     have bO : 0 ≤ (1 : Int) := (by omega)
     have bP : 1 < (l1.length : Int) := zA
     obtain ⟨cB, dQ, aC⟩ := Kd.at_int HR1.out 1 bO bP
     have aJ := aC
     (try rw [show ((1 : Int)).toNat = 1 from rfl] at aJ)
     (try rw [show 1 * 1 = 1 from rfl] at aJ)
     (try simp only [Nat.reduceMul, Nat.reduceEqDiff, Go.Addr.add, ↓reduceIte] at aJ)
     obtain rfl : aQ = cB := (by injection dQ)
     (try simp only [show (1 : Int).toNat = 1 from rfl, Nat.reduceMul, Nat.reduceEqDiff, Go.Addr.add, ↓reduceIte] at aC)
     have eQ : (1 < l1.length) = True := eq_true (by omega)
     (try rw [show ((1 : Int)).toNat = 1 from rfl] at aC)
     replace aC := (HB.out.cell (World.block_lt_of_cell? w _ aC)).trans aC
     replace bO := eq_true bO
     replace bP := eq_true bP
     have bQ : 0 ≤ (2 : Int) := (by omega)
     have bR : 2 < (l1.length : Int) := zA
     obtain ⟨cK, dR, aD⟩ := Kd.at_int HR1.out 2 bQ bR
     have aK := aD
     (try rw [show ((2 : Int)).toNat = 2 from rfl] at aK)
     (try rw [show 2 * 1 = 2 from rfl] at aK)
     (try simp only [Nat.reduceMul, Nat.reduceEqDiff, Go.Addr.add, ↓reduceIte] at aK)
     obtain rfl : aQ = cK := (by injection dR)
     (try simp only [show (2 : Int).toNat = 2 from rfl, Nat.reduceMul, Nat.reduceEqDiff, Go.Addr.add, ↓reduceIte] at aD)
     have eT : (2 < l1.length) = True := eq_true (by omega)
     (try rw [show ((2 : Int)).toNat = 2 from rfl] at aD)
     replace aD := (HB.out.cell (World.block_lt_of_cell? w _ aD)).trans aD
     replace bQ := eq_true bQ
     replace bR := eq_true bR
     have bS : 0 ≤ (3 : Int) := (by omega)
     have bT : 3 < (l1.length : Int) := zA
     obtain ⟨cO, dS, aG⟩ := Kd.at_int HR1.out 3 bS bT
     have aM := aG
     (try rw [show ((3 : Int)).toNat = 3 from rfl] at aM)
     (try rw [show 3 * 1 = 3 from rfl] at aM)
     (try simp only [Nat.reduceMul, Nat.reduceEqDiff, Go.Addr.add, ↓reduceIte] at aM)
     obtain rfl : aQ = cO := (by injection dS)
     (try simp only [show (3 : Int).toNat = 3 from rfl, Nat.reduceMul, Nat.reduceEqDiff, Go.Addr.add, ↓reduceIte] at aG)
     have eU : (3 < l1.length) = True := eq_true (by omega)
     (try rw [show ((3 : Int)).toNat = 3 from rfl] at aG)
     replace aG := (HB.out.cell (World.block_lt_of_cell? w _ aG)).trans aG
     replace bS := eq_true bS
     replace bT := eq_true bT
     refine Ya (n := 15) (S := fun w' => w'.cell? ⟨bF, 0, none⟩ = some (.int .i64 bA) ∧ w'.cell? ⟨bF, 1, none⟩ = some (.string bB) ∧ w'.cell? aQ = some (.int .i64 (rd l1 0)) ∧ w'.cell? ⟨aQ.block, aQ.off + 1, none⟩ = some (.int .i64 (rd l1 1)) ∧ w'.cell? ⟨aQ.block, aQ.off + 2, none⟩ = some (.int .i64 (rd l1 2)) ∧ w'.cell? ⟨aQ.block, aQ.off + 3, none⟩ = some (.int .i64 (rd l1 3))) (ds := []) #[false, false, false, false, false, false, false, false, false, false, false, false, false, false, false] (by kernel_rfl) rfl rfl ⟨(Qo aH.out 0).trans rfl, (Qo aH.out 1).trans rfl, ((HB.out.cell (World.block_lt_of_cell? w _ aI)).trans aI), ((HB.out.cell (World.block_lt_of_cell? w _ aJ)).trans aJ), ((HB.out.cell (World.block_lt_of_cell? w _ aK)).trans aK), ((HB.out.cell (World.block_lt_of_cell? w _ aM)).trans aM)⟩ (fun hHeld => ?_); refine Z0 J4.tab1 J4.bits1 (fun HT_ HW_ => ?_)
     generalize w8.drew = w9 at aH HB aA aC aD aG hHeld ⊢
     refine zP 1 (some 11) rfl rfl ?_
     refine zP 2 (some 12) rfl rfl ?_
     refine zP 4 (some 14) rfl rfl ?_
     refine zP 5 (some 15) rfl rfl ?_
     refine zP 7 (some 17) rfl rfl ?_
     refine zP 8 (some 18) rfl rfl ?_
     refine zP 10 (some 20) rfl rfl ?_
     refine zP 11 (some 21) rfl rfl ?_
     refine zY6 0 (some 10) rfl rfl hHeld ?_
     refine zY6 3 (some 13) rfl rfl hHeld ?_
     refine zY6 6 (some 16) rfl rfl hHeld ?_
     refine zY6 9 (some 19) rfl rfl hHeld ?_
     refine zY6 12 (some 22) rfl rfl hHeld ?_
     refine zU 13 (some 23) rfl rfl (fun K hK => ?_)
     refine Xx Try.func98 (by kernel_rfl) rfl #[.agg #[.int .i64 bA, .string bB], .int .i64 (rd l1 0), .int .i64 (rd l1 1), .int .i64 (rd l1 2), .int .i64 (rd l1 3)] (by rfl) rfl rfl zM ?_
     with_reducible refine (Zr.calls k bA bB (rd l1 0) (rd l1 1) (rd l1 2) (rd l1 3) bC _ A7.out).mono ?_
     rintro e fH ⟨rfl, hb⟩
     refine ⟨_, rfl, ?_⟩
     replace aH := zV aH.out hb
     replace HB := zX1 aV.out hb
     (try clear hb)
     refine hK.out _ _ ⟨(Qo aH.out 0).trans rfl, (Qo aH.out 1).trans rfl, ((HB.out.cell (World.block_lt_of_cell? w _ aI)).trans aI), ((HB.out.cell (World.block_lt_of_cell? w _ aJ)).trans aJ), ((HB.out.cell (World.block_lt_of_cell? w _ aK)).trans aK), ((HB.out.cell (World.block_lt_of_cell? w _ aM)).trans aM)⟩ (fun hHeld => ?_)
     clear hK K
     refine zN ?_
     refine zP 14 (some 6) rfl rfl ?_
     refine Vh (Xu HT_.out (by kernel_rfl)) ?_
     try go_wp2
     go_loopg [7, 8, 9] k (fun kq v7 v8 v9 w' => ∃ (bG : Int) (bH : Int) (aN : Int), v7 = .int .i64 bG ∧ v8 = .int .i64 bH ∧ v9 = .int .i64 aN ∧ Qa (J4.l0 kq l1 bC bG bH aN = some (r1, r2)) ∧ Qa (kq ≤ k) ∧ Qa (w'.heap[bF]? = some (.cells #[.int .i64 bA, .string bB] 25 (0, 0))) ∧ Qa (Below w.heap.size w w'))
     case atStart => exact ⟨(0), (0), (0), zF, zF, zF, H', ⟨Nat.le_refl _⟩, ⟨zK aH.out⟩, ⟨zG aV.out⟩⟩
     case round =>
     clear H'
     try clear c3
     try clear dH
     try clear dI
     try clear c4
     try clear dJ
     try clear dK
     try clear c5
     try clear dL
     try clear dM
     try clear c6
     try clear dN
     try clear dO
     try clear aA
     try clear aC
     try clear aD
     try clear aG
     try clear bM
     try clear bO
     try clear bQ
     try clear bS
     try clear bN
     try clear bP
     try clear bR
     try clear bT
     obtain ⟨bG, bH, aN, rfl, rfl, rfl, HA, dG, aH, HB⟩ := hrel
     cases gk with
     | zero => exact absurd HA.out (by simp [J4.l0])
     | succ k1 =>
     have H := HA.out
     clear HA
     simp only [J4.l0] at H
     replace H := Z5 H
     rcases H with ⟨cZ, H⟩ | ⟨cZ, H⟩
     ·replace H := Zq H
      rcases H with ⟨eX, H⟩ | ⟨c12, H⟩
      ·replace H := Zq H
       rcases H with ⟨eY, H⟩ | ⟨c13, H⟩
       ·replace H := Zi H
        rcases H with ⟨dA, dB, H⟩ | ⟨c15, dA, dB, H⟩
        ·replace H := Zq H
         rcases H with ⟨eZ, H⟩ | ⟨c16, H⟩
         ·obtain ⟨aW, bU⟩ : ∃ j_ : Int, (IntKind.u64.wrap (rd l1 aN)) = j_ := ⟨_, rfl⟩
          first | rw [bU] at H | simp only [bU] at H
          replace H := Xw H
          rcases H with ⟨fA, fB, H⟩ | ⟨c18, H⟩
          ·obtain ⟨bD, aX⟩ : ∃ j_ : Int, (shl .i64 1 (aW)) = j_ := ⟨_, rfl⟩
           first | rw [aX] at H | simp only [aX] at H
           have bI : (IntKind.i64.wrap (1 * 2 ^ min (aW).toNat 64)) = bD := aX
           have bJ := Yc aX
           have dU : (IntKind.i64.wrap (2 ^ min (aW).toNat 64)) = bD := by have h_ := bI; rw [Int.one_mul] at h_; exact h_
           have dV : (aW) ≤ 64 → (IntKind.i64.wrap (2 ^ (aW).toNat)) = bD := fun hle_ => by have h_ := bJ hle_; rw [Int.one_mul] at h_; exact h_
           have dW : (wrap64 (1 * 2 ^ min (aW).toNat 64)) = bD := (Zu _).symm.trans bI
           have dX : (aW) ≤ 64 → (wrap64 (1 * 2 ^ (aW).toNat)) = bD := fun h_ => (Zu _).symm.trans (bJ h_)
           have H' := Qa.mk H; clear H
           have dC : 0 ≤ (aN : Int) := zA
           have dD : aN < (bC.size : Int) := zA
           have dY := Ka bC aN
           replace dC := eq_true dC
           replace dD := eq_true dD
           have bW : 0 ≤ (aN : Int) := zA
           have bX : aN < (l1.length : Int) := zA
           obtain ⟨dE, dZ, aT⟩ := Kd.at_int HR1.out aN bW bX
           obtain rfl : aQ = dE := (by injection dZ)
           replace aT := (HB.out.cell (World.block_lt_of_cell? w _ aT)).trans aT
           replace bW := eq_true bW
           replace bX := eq_true bX
           go_wp2
           go_roundg k1
           case measure => have := dG.out; omega
           case rel => exact ⟨(wrap64 (bG + (bD))), (bH), (wrap64 (aN + 1)), (by first | rfl | (simp; done) | (simp only [← aX] <;> (first | rfl | simp)) | (simp [*]; done)), zF, zF, H', ⟨by have := dG.out; omega⟩, ⟨zK aH.out⟩, ⟨zG aV.out⟩⟩
          exact absurd H (by simp)
         exact absurd H (by simp)
        replace H := Zq H
        rcases H with ⟨fC, H⟩ | ⟨c20, H⟩
        ·obtain ⟨aY, bV⟩ : ∃ j_ : Int, (IntKind.u64.wrap (rd l1 aN)) = j_ := ⟨_, rfl⟩
         first | rw [bV] at H | simp only [bV] at H
         replace H := Xw H
         rcases H with ⟨fD, fE, H⟩ | ⟨fI, H⟩
         ·obtain ⟨bE, aZ⟩ : ∃ j_ : Int, (shl .i64 1 (aY)) = j_ := ⟨_, rfl⟩
          first | rw [aZ] at H | simp only [aZ] at H
          have bK : (IntKind.i64.wrap (1 * 2 ^ min (aY).toNat 64)) = bE := aZ
          have bL := Yc aZ
          have eB : (IntKind.i64.wrap (2 ^ min (aY).toNat 64)) = bE := by have h_ := bK; rw [Int.one_mul] at h_; exact h_
          have eD : (aY) ≤ 64 → (IntKind.i64.wrap (2 ^ (aY).toNat)) = bE := fun hle_ => by have h_ := bL hle_; rw [Int.one_mul] at h_; exact h_
          have eF : (wrap64 (1 * 2 ^ min (aY).toNat 64)) = bE := (Zu _).symm.trans bK
          have eG : (aY) ≤ 64 → (wrap64 (1 * 2 ^ (aY).toNat)) = bE := fun h_ => (Zu _).symm.trans (bL h_)
          have H' := Qa.mk H; clear H
          have dC : 0 ≤ (aN : Int) := zA
          have dD : aN < (bC.size : Int) := zA
          have dY := Ka bC aN
          replace dC := eq_true dC
          replace dD := eq_true dD
          have bY : 0 ≤ (aN : Int) := zA
          have bZ : aN < (l1.length : Int) := zA
          obtain ⟨dF, eH, aU⟩ := Kd.at_int HR1.out aN bY bZ
          obtain rfl : aQ = dF := (by injection eH)
          replace aU := (HB.out.cell (World.block_lt_of_cell? w _ aU)).trans aU
          replace bY := eq_true bY
          replace bZ := eq_true bZ
          go_wp2
          go_roundg k1
          case measure => have := dG.out; omega
          case rel => exact ⟨(bG), (wrap64 (bH + (bE))), (wrap64 (aN + 1)), zF, (by first | rfl | (simp; done) | (simp only [← aZ] <;> (first | rfl | simp)) | (simp [*]; done)), zF, H', ⟨by have := dG.out; omega⟩, ⟨zK aH.out⟩, ⟨zG aV.out⟩⟩
         exact absurd H (by simp)
        exact absurd H (by simp)
       exact absurd H (by simp)
      exact absurd H (by simp)
     simp only [Option.some.injEq, Prod.mk.injEq] at H
     obtain ⟨rfl, rfl⟩ := H
     go_wp2
     go_ret2
     exact ⟨zE, zG aV.out⟩
    exact absurd H (by simp)
   exact absurd H (by simp)
  exact absurd H (by simp)
 exact absurd H (by simp)
def Zo.l0 : Nat → Int → Int → Option (Int)
 | 0, _, _ => none
 | k + 1, x0, x3 => if x3 < 7 then (if 0 ≤ (IntKind.u64.wrap (x3)) then (if x0 = (shl .i64 1 (IntKind.u64.wrap (x3))) then (some x3) else (Zo.l0 k x0 (wrap64 (x3 + 1)))) else (none)) else (some (-1))
def Zo.f (k : Nat) (a0 : Int) : Option (Int) := Zo.l0 k a0 0
theorem Zo.mono_l : ∀ k, (∀ y0 y1, LeO (Zo.l0 k y0 y1) (Zo.l0 (k + 1) y0 y1))
 | 0 => fun _ _ r h => by simp [Zo.l0] at h
 | k + 1 => by
  have aA := Zo.mono_l k
  ·intro y0 y1
   unfold Zo.l0
   repeat' first
   | (with_reducible first | exact aA .. | exact LeO.refl _ | exact LeO.none _ | refine LeO.ite ?_ ?_ | refine LeO.bind ?_ (fun _ => ?_))
   | exact aA .. | exact LeO.none _ | refine LeO.ite ?_ ?_ | refine LeO.bind ?_ (fun _ => ?_)
theorem Zo.mono : ∀ a0 k, LeO (Zo.f k a0) (Zo.f (k + 1) a0) := by
 intro a0 k
 have aA := Zo.mono_l k
 unfold Zo.f
 repeat' first
   | (with_reducible first | exact aA .. | exact LeO.refl _ | exact LeO.none _ | refine LeO.ite ?_ ?_ | refine LeO.bind ?_ (fun _ => ?_))
   | exact aA .. | exact LeO.none _ | refine LeO.ite ?_ ?_ | refine LeO.bind ?_ (fun _ => ?_)
set_option maxHeartbeats 8000000 in
set_option maxRecDepth 100000 in
theorem Zo.calls (k : Nat) (a0 : Int) (r : Int) (w : World) (h : Zo.f k a0 = some r) :
  Calls Try.prog 113 #[.int .i64 a0] w fun e w' => e = .returned (.int .i64 r) ∧ Qs w w' := by
 have H := h
 unfold Zo.f at H
 clear h
 have H' := Qa.mk H; clear H
 go_enter Try.func113, Try.ntmps113
 go_wp2
 go_loopg [3] k (fun kq v3 w' => ∃ (aA : Int), v3 = .int .i64 aA ∧ Qa (Zo.l0 kq a0 aA = some r) ∧ Qa (kq ≤ k) ∧ Qs w w')
 case atStart => exact ⟨(0), zF, H', ⟨Nat.le_refl _⟩, by repeat (first | exact Qs.refl _ | apply Qs.step)⟩
 case round =>
 clear H'
 obtain ⟨aA, rfl, HA, aQ, ⟨m1, rfl⟩⟩ := hrel
 cases gk with
 | zero => exact absurd HA.out (by simp [Zo.l0])
 | succ k1 =>
 have H := HA.out
 clear HA
 simp only [Zo.l0] at H
 replace H := Z5 H
 rcases H with ⟨aK, H⟩ | ⟨aK, H⟩
 ·obtain ⟨aD, aI⟩ : ∃ j_ : Int, (IntKind.u64.wrap (aA)) = j_ := ⟨_, rfl⟩
  first | rw [aI] at H | simp only [aI] at H
  replace H := Xw H
  rcases H with ⟨aX, aY, H⟩ | ⟨c4, H⟩
  ·obtain ⟨aJ, aC⟩ : ∃ j_ : Int, (shl .i64 1 (aD)) = j_ := ⟨_, rfl⟩
   first | rw [aC] at H | simp only [aC] at H
   have aG : (IntKind.i64.wrap (1 * 2 ^ min (aD).toNat 64)) = aJ := aC
   have aH := Yc aC
   have aT : (IntKind.i64.wrap (2 ^ min (aD).toNat 64)) = aJ := by have h_ := aG; rw [Int.one_mul] at h_; exact h_
   have aU : (aD) ≤ 64 → (IntKind.i64.wrap (2 ^ (aD).toNat)) = aJ := fun hle_ => by have h_ := aH hle_; rw [Int.one_mul] at h_; exact h_
   have aV : (wrap64 (1 * 2 ^ min (aD).toNat 64)) = aJ := (Zu _).symm.trans aG
   have aW : (aD) ≤ 64 → (wrap64 (1 * 2 ^ (aD).toNat)) = aJ := fun h_ => (Zu _).symm.trans (aH h_)
   replace H := Zi H
   rcases H with ⟨aM, aN, H⟩ | ⟨c6, aM, aN, H⟩
   ·obtain rfl := Option.some.inj H
    go_wp2
    go_ret
    exact ⟨by first | rfl | (simp; done) | (simp only [← aI, ← aC] <;> (first | rfl | simp)) | (simp [*]; done), by repeat (first | exact Qs.refl _ | apply Qs.step)⟩
   have H' := Qa.mk H; clear H
   go_wp2
   go_roundg k1
   case measure => have := aQ.out; omega
   case rel => exact ⟨(wrap64 (aA + 1)), zF, H', ⟨by have := aQ.out; omega⟩, by repeat (first | exact Qs.refl _ | apply Qs.step)⟩
  exact absurd H (by simp)
 obtain rfl := Option.some.inj H
 go_wp2
 go_ret
 exact ⟨by first | rfl | (simp; done) | (simp [*]; done), by repeat (first | exact Qs.refl _ | apply Qs.step)⟩
def Yf.f (k : Nat) (aC : Int) (aD : ByteArray) (l1 : List Int) : Option (Int) := (J4.f k aC aD l1).bind fun aA => ((Zo.f k aA.1).bind fun aG => ((Zo.f k aA.2).bind fun aH => ((Yv.f aG aH).bind fun aI => (some aI))))
set_option maxHeartbeats 8000000 in
set_option maxRecDepth 100000 in
theorem Yf.calls (k : Nat) (aA : Int) (aC : ByteArray) (A1 : Option Addr) (c1 : Nat) (l1 : List Int) (r : Int) (w : World) (hr1 : Kd.C (Kd.int .i64) w A1 l1.length l1) (hc1 : l1.length ≤ c1) (h : Yf.f k aA aC l1 = some r) :
  Calls Try.prog 114 #[.agg #[.int .i64 aA, .string aC], .slice A1 l1.length c1] w fun e w' => e = .returned (.int .i64 r) ∧ Below w.heap.size w w' := by
 have aZ := Try.underlying25
 have HR1 := Qa.mk hr1
 have bA := Qa.mk hc1
 clear hr1 hc1
 have HB := Qa.mk (Below.refl w.heap.size w)
 have H := h
 unfold Yf.f at H
 clear h
 obtain ⟨⟨aH, aI⟩, A3, H⟩ := zO H
 dsimp only at H
 obtain ⟨aJ, A4, H⟩ := zO H
 obtain ⟨aK, A5, H⟩ := zO H
 obtain ⟨aQ, A6, H⟩ := zO H
 obtain rfl := Option.some.inj H
 go_enter Try.func114, Try.ntmps114
 go_wp2_with (first | ((with_reducible refine Qf (N := 2) rfl ?_); refine zBx (N := 2) #[.int .i64 aA, .string aC] 25 ?_; intro aX hg w7 hbox hb; have aD := Qa.mk (hbox); have aY := zS hg; have aG := zS hg; replace HB := zX hb; clear hb hbox hg; obtain ⟨aT, aU, aV, aW⟩ := zq2 aD.out) | ((with_reducible refine Qb (f := 108) rfl ?_); refine zD (some 10) Try.func108 #[.agg #[.int .i64 aA, .string aC], .slice A1 l1.length c1] ((J4.calls k aA aC _ _ l1 aH aI _ ?aM ?aN A3.out).mono ?_); (case aM => exact zc (Kd.C_below HR1.out HB.out)); (case aN => exact bA.out); rintro e w9 ⟨rfl, hb⟩; refine ⟨_, rfl, ?_⟩; replace aD := zV aD.out hb; replace HB := zX1 aG.out hb; (try clear hb)) | ((with_reducible refine Qb (f := 113) rfl ?_); refine zD (some 14) Try.func113 _ ((Zo.calls k aH aJ _ A4.out).mono ?_); rintro e w' ⟨rfl, ⟨nd, rfl⟩⟩; refine ⟨_, rfl, ?_⟩) | ((with_reducible refine Qb (f := 113) rfl ?_); refine zD (some 16) Try.func113 _ ((Zo.calls k aI aK _ A5.out).mono ?_); rintro e w' ⟨rfl, ⟨nd, rfl⟩⟩; refine ⟨_, rfl, ?_⟩) | ((with_reducible refine Qb (f := 112) rfl ?_); refine zD (some 17) Try.func112 _ ((Yv.calls aJ aK aQ _ A6.out).mono ?_); rintro e w' ⟨rfl, ⟨nd, rfl⟩⟩; refine ⟨_, rfl, ?_⟩))
 go_ret
 exact ⟨zE, zG aG.out⟩
mutual
def Jj.l0 : Nat → Int → Int → Int → Int → ByteArray → Option (Bool)
 | 0, _, _, _, _, _ => none
 | k + 1, x1, x2, x7, aA, aC => if x7 < aA then (Jj.l1 k x1 x2 x7 (wrap64 (x7 + 1)) aA aC) else (some false)
def Jj.l1 : Nat → Int → Int → Int → Int → Int → ByteArray → Option (Bool)
 | 0, _, _, _, _, _, _ => none
 | k + 1, x1, x2, x7, x8, aA, aC => if x8 < aA then (Jj.l2 k x1 x2 x7 x8 (wrap64 (x8 + 1)) aA aC) else (Jj.l0 k x1 x2 (wrap64 (x7 + 1)) aA aC)
def Jj.l2 : Nat → Int → Int → Int → Int → Int → Int → ByteArray → Option (Bool)
 | 0, _, _, _, _, _, _, _ => none
 | k + 1, x1, x2, x7, x8, x9, aA, aC => if x9 < aA then (if x2 = x7 then (Jj.l2 k x1 x2 x7 x8 (wrap64 (x9 + 1)) aA aC) else (if x2 = x8 then (Jj.l2 k x1 x2 x7 x8 (wrap64 (x9 + 1)) aA aC) else (if x2 = x9 then (Jj.l2 k x1 x2 x7 x8 (wrap64 (x9 + 1)) aA aC) else ((Jf.f x1 x7).bind fun aD => (if aD = true then ((Jf.f x1 x8).bind fun aG => (if aG = true then ((Jf.f x1 x9).bind fun aH => (if aH = true then ((Yf.f k aA aC (([x2, x7, x8, x9] : List Int))).bind fun aI => (if aI = x2 then (some true) else (Jj.l2 k x1 x2 x7 x8 (wrap64 (x9 + 1)) aA aC))) else (Jj.l2 k x1 x2 x7 x8 (wrap64 (x9 + 1)) aA aC))) else (Jj.l2 k x1 x2 x7 x8 (wrap64 (x9 + 1)) aA aC))) else (Jj.l2 k x1 x2 x7 x8 (wrap64 (x9 + 1)) aA aC)))))) else (Jj.l1 k x1 x2 x7 (wrap64 (x8 + 1)) aA aC)
end
def Jj.f (k : Nat) (aA : Int) (aC : ByteArray) (a1 : Int) (a2 : Int) : Option (Bool) := Jj.l0 k a1 a2 0 aA aC
set_option maxHeartbeats 8000000 in
set_option maxRecDepth 100000 in
theorem Jj.calls (k : Nat) (aJ : Int) (aK : ByteArray) (a1 : Int) (a2 : Int) (r : Bool) (w : World) (h : Jj.f k aJ aK a1 a2 = some r) :
  Calls Try.prog 132 #[.agg #[.int .i64 aJ, .string aK], .int .i64 a1, .int .i64 a2] w fun e w' => e = .returned (.bool r) ∧ Below w.heap.size w w' := by
 have fI := Try.underlying25
 have HB := Qa.mk (Below.refl w.heap.size w)
 have H := h
 unfold Jj.f at H
 clear h
 have H' := Qa.mk H; clear H
 go_enter Try.func132, Try.ntmps132
 go_wp2_with (first | ((with_reducible refine Qf (N := 3) rfl ?_); (try (refine Xa (by rfl) ?_; dsimp only)); refine zBx (N := 3) #[.int .i64 aJ, .string aK] 25 ?_; intro aU hg w4 hbox hb; have aA := Qa.mk (hbox); have fC := zS hg; have aC := zS hg; replace HB := zX hb; clear hb hbox hg))
 go_loopg [7] k (fun kq v7 w' => ∃ (aH : Int), v7 = .int .i64 aH ∧ Qa (Jj.l0 kq a1 a2 aH aJ aK = some r) ∧ Qa (kq ≤ k) ∧ Qa (w'.heap[aU]? = some (.cells #[.int .i64 aJ, .string aK] 25 (0, 0))) ∧ Qa (Below w.heap.size w w'))
 case atStart => exact ⟨(0), zF, H', ⟨Nat.le_refl _⟩, ⟨zK aA.out⟩, ⟨zG aC.out⟩⟩
 case round =>
 clear H'
 obtain ⟨aH, rfl, HA, aN, aA, HB⟩ := hrel
 cases gk with
 | zero => exact absurd HA.out (by simp [Jj.l0])
 | succ k1 =>
 have H := HA.out
 clear HA
 simp only [Jj.l0] at H
 replace H := Z5 H
 rcases H with ⟨bG, H⟩ | ⟨bG, H⟩
 ·have H' := Qa.mk H; clear H
  obtain ⟨aV, aW, aX, aY⟩ := zq2 aA.out
  go_wp2
  go_loopg [8] k1 (fun kq v8 w' => ∃ (aI : Int), v8 = .int .i64 aI ∧ Qa (Jj.l1 kq a1 a2 aH aI aJ aK = some r) ∧ Qa (kq ≤ k1) ∧ Qa (w'.heap[aU]? = some (.cells #[.int .i64 aJ, .string aK] 25 (0, 0))) ∧ Qa (Below w.heap.size w w'))
  case atStart => exact ⟨(wrap64 (aH + 1)), zF, H', ⟨Nat.le_refl _⟩, ⟨zK aA.out⟩, ⟨zG aC.out⟩⟩
  case round =>
  clear H'
  try clear c5
  try clear bG
  try clear aV
  try clear aW
  try clear aX
  try clear aY
  obtain ⟨aI, rfl, HA, aQ, aA, HB⟩ := hrel
  cases gk with
  | zero => exact absurd HA.out (by simp [Jj.l1])
  | succ k2 =>
  have H := HA.out
  clear HA
  simp only [Jj.l1] at H
  replace H := Z5 H
  rcases H with ⟨bL, H⟩ | ⟨bL, H⟩
  ·have H' := Qa.mk H; clear H
   obtain ⟨bH, bI, bJ, bK⟩ := zq2 aA.out
   go_wp2
   go_loopg [9] k2 (fun kq v9 w' => ∃ (aG : Int), v9 = .int .i64 aG ∧ Qa (Jj.l2 kq a1 a2 aH aI aG aJ aK = some r) ∧ Qa (kq ≤ k2) ∧ Qa (w'.heap[aU]? = some (.cells #[.int .i64 aJ, .string aK] 25 (0, 0))) ∧ Qa (Below w.heap.size w w'))
   case atStart => exact ⟨(wrap64 (aI + 1)), zF, H', ⟨Nat.le_refl _⟩, ⟨zK aA.out⟩, ⟨zG aC.out⟩⟩
   case round =>
   clear H'
   try clear c5
   try clear bG
   try clear c7
   try clear bL
   try clear aV
   try clear aW
   try clear bH
   try clear bI
   try clear aX
   try clear aY
   try clear bJ
   try clear bK
   obtain ⟨aG, rfl, HA, aT, aA, HB⟩ := hrel
   cases gk with
   | zero => exact absurd HA.out (by simp [Jj.l2])
   | succ k3 =>
   have H := HA.out
   clear HA
   simp only [Jj.l2] at H
   replace H := Z5 H
   rcases H with ⟨fD, H⟩ | ⟨fD, H⟩
   ·replace H := Zi H
    rcases H with ⟨bM, bN, H⟩ | ⟨c10, bM, bN, H⟩
    ·have H' := Qa.mk H; clear H
     obtain ⟨bZ, cB, cK, cO⟩ := zq2 aA.out
     go_wp2
     go_roundg k3
     case measure => have := aN.out; have := aQ.out; have := aT.out; omega
     case rel => exact ⟨(wrap64 (aG + 1)), zF, H', ⟨by have := aN.out; have := aQ.out; have := aT.out; omega⟩, ⟨zK aA.out⟩, ⟨zG aC.out⟩⟩
    replace H := Zi H
    rcases H with ⟨bO, bP, H⟩ | ⟨c12, bO, bP, H⟩
    ·have H' := Qa.mk H; clear H
     obtain ⟨cZ, dA, dB, dC⟩ := zq2 aA.out
     go_wp2
     go_roundg k3
     case measure => have := aN.out; have := aQ.out; have := aT.out; omega
     case rel => exact ⟨(wrap64 (aG + 1)), zF, H', ⟨by have := aN.out; have := aQ.out; have := aT.out; omega⟩, ⟨zK aA.out⟩, ⟨zG aC.out⟩⟩
    replace H := Zi H
    rcases H with ⟨bQ, bR, H⟩ | ⟨c14, bQ, bR, H⟩
    ·have H' := Qa.mk H; clear H
     obtain ⟨dD, dE, dF, dG⟩ := zq2 aA.out
     go_wp2
     go_roundg k3
     case measure => have := aN.out; have := aQ.out; have := aT.out; omega
     case rel => exact ⟨(wrap64 (aG + 1)), zF, H', ⟨by have := aN.out; have := aQ.out; have := aT.out; omega⟩, ⟨zK aA.out⟩, ⟨zG aC.out⟩⟩
    obtain ⟨bS, bT, H⟩ := zO H
    by_cases c17 : bS = true
    ·subst c17
     replace H := (if_pos rfl).symm.trans H
     obtain ⟨bU, dH, H⟩ := zO H
     by_cases c19 : bU = true
     ·subst c19
      replace H := (if_pos rfl).symm.trans H
      obtain ⟨bV, fE, H⟩ := zO H
      by_cases c21 : bV = true
      ·subst c21
       replace H := (if_pos rfl).symm.trans H
       generalize aZ : (([a2, aH, aI, aG] : List Int) : List Int) = bE at H
       have aM := Qa.mk aZ.symm
       clear aZ
       obtain ⟨bF, fH, H⟩ := zO H
       replace H := Zi H
       rcases H with ⟨bW, bX, H⟩ | ⟨c23, bW, bX, H⟩
       ·obtain rfl := Option.some.inj H
        obtain ⟨dI, dJ, dK, dL⟩ := zq2 aA.out
        go_wp2_with (first | (go_at_call 129; (with_reducible refine (Jf.calls a1 aH true _ bT.out).mono ?_); rintro e w' ⟨rfl, ⟨nd, rfl⟩⟩) | (go_at_call 129; (with_reducible refine (Jf.calls a1 aI true _ dH.out).mono ?_); rintro e w' ⟨rfl, ⟨nd, rfl⟩⟩) | (go_at_call 129; (with_reducible refine (Jf.calls a1 aG true _ fE.out).mono ?_); rintro e w' ⟨rfl, ⟨nd, rfl⟩⟩) | ((with_reducible refine Qf (N := 66) rfl ?_); (try (refine Xa (by rfl) ?_; dsimp only)); refine Kd.R_lit (Kd.int .i64) _ 3 ?hg (N := 66) ?hd (xs := ([a2, aH, aI, aG] : List Int)) (inner := [.int .i64 a2, .int .i64 aH, .int .i64 aI, .int .i64 aG]) (ok := fun _ => True) (okp := fun _ => True) ?hr ?hp (fun _ hk => hk) trivial (Below.refl _ _) (Nat.le_refl _) (by simp) ?_; (case hd => rfl); (case hg => rfl); (case hr => first | (go_simp; done) | (go_simp; rfl)); (case hp => exact (Xb.one (show Kd.M (Kd.int .i64) _ _ _ a2 [.int .i64 a2] from rfl) (Xb.one (show Kd.M (Kd.int .i64) _ _ _ aH [.int .i64 aH] from rfl) (Xb.one (show Kd.M (Kd.int .i64) _ _ _ aI [.int .i64 aI] from rfl) (Xb.one (show Kd.M (Kd.int .i64) _ _ _ aG [.int .i64 aG] from rfl) (Xb.none _ _)))))); intro bY fP bA hb hg_ hnew_; clear hg_ hnew_; (first | rw [← aM.out] at bA | (simp only [Int.reduceToNat] at bA; rw [← aM.out] at bA)); have aD := Qa.mk (Kd.R_lower bA (Ql (zG aC.out))); replace aA := zV aA.out hb; replace HB := zX1 aC.out hb; clear hb bA; obtain ⟨fJ, fK, fF⟩ := Kd.R_slice aD.out; subst fF) | (go_at_call 114; (with_reducible refine (Yf.calls k3 aJ aK _ _ bE bF _ ?bB ?bC fH.out).mono ?_); (case bB => exact zc ((Kd.R_reads' aD.out).2.2)); (case bC => exact (Kd.R_reads' aD.out).2.1); rintro e fQ ⟨rfl, hb⟩; replace aD := zW aD.out hb; replace aA := zV aA.out hb; replace HB := zX1 aC.out hb; (try clear hb); (try clear hb2); (try clear hk); (try clear hi)))
        go_ret
        exact ⟨zE, zG aC.out⟩
       have H' := Qa.mk H; clear H
       obtain ⟨dM, dN, dO, dP⟩ := zq2 aA.out
       go_wp2_with (first | (go_at_call 129; (with_reducible refine (Jf.calls a1 aH true _ bT.out).mono ?_); rintro e w' ⟨rfl, ⟨nd, rfl⟩⟩) | (go_at_call 129; (with_reducible refine (Jf.calls a1 aI true _ dH.out).mono ?_); rintro e w' ⟨rfl, ⟨nd, rfl⟩⟩) | (go_at_call 129; (with_reducible refine (Jf.calls a1 aG true _ fE.out).mono ?_); rintro e w' ⟨rfl, ⟨nd, rfl⟩⟩) | ((with_reducible refine Qf (N := 66) rfl ?_); (try (refine Xa (by rfl) ?_; dsimp only)); refine Kd.R_lit (Kd.int .i64) _ 3 ?hg (N := 66) ?hd (xs := ([a2, aH, aI, aG] : List Int)) (inner := [.int .i64 a2, .int .i64 aH, .int .i64 aI, .int .i64 aG]) (ok := fun _ => True) (okp := fun _ => True) ?hr ?hp (fun _ hk => hk) trivial (Below.refl _ _) (Nat.le_refl _) (by simp) ?_; (case hd => rfl); (case hg => rfl); (case hr => first | (go_simp; done) | (go_simp; rfl)); (case hp => exact (Xb.one (show Kd.M (Kd.int .i64) _ _ _ a2 [.int .i64 a2] from rfl) (Xb.one (show Kd.M (Kd.int .i64) _ _ _ aH [.int .i64 aH] from rfl) (Xb.one (show Kd.M (Kd.int .i64) _ _ _ aI [.int .i64 aI] from rfl) (Xb.one (show Kd.M (Kd.int .i64) _ _ _ aG [.int .i64 aG] from rfl) (Xb.none _ _)))))); intro bY fT bD hb hg_ hnew_; clear hg_ hnew_; (first | rw [← aM.out] at bD | (simp only [Int.reduceToNat] at bD; rw [← aM.out] at bD)); have aD := Qa.mk (Kd.R_lower bD (Ql (zG aC.out))); replace aA := zV aA.out hb; replace HB := zX1 aC.out hb; clear hb bD; obtain ⟨fM, fO, fG⟩ := Kd.R_slice aD.out; subst fG) | (go_at_call 114; (with_reducible refine (Yf.calls k3 aJ aK _ _ bE bF _ ?bB ?bC fH.out).mono ?_); (case bB => exact zc ((Kd.R_reads' aD.out).2.2)); (case bC => exact (Kd.R_reads' aD.out).2.1); rintro e fU ⟨rfl, hb⟩; replace aD := zW aD.out hb; replace aA := zV aA.out hb; replace HB := zX1 aC.out hb; (try clear hb); (try clear hb2); (try clear hk); (try clear hi)))
       go_roundg k3
       case measure => have := aN.out; have := aQ.out; have := aT.out; omega
       case rel => exact ⟨(wrap64 (aG + 1)), zF, H', ⟨by have := aN.out; have := aQ.out; have := aT.out; omega⟩, ⟨zK aA.out⟩, ⟨zG aC.out⟩⟩
      replace c21 := Bool.eq_false_iff.mpr c21
      subst c21
      replace H := (if_neg zFf).symm.trans H
      have H' := Qa.mk H; clear H
      obtain ⟨dQ, dR, dS, dU⟩ := zq2 aA.out
      go_wp2_with (first | (go_at_call 129; (with_reducible refine (Jf.calls a1 aH true _ bT.out).mono ?_); rintro e w' ⟨rfl, ⟨nd, rfl⟩⟩) | (go_at_call 129; (with_reducible refine (Jf.calls a1 aI true _ dH.out).mono ?_); rintro e w' ⟨rfl, ⟨nd, rfl⟩⟩) | (go_at_call 129; (with_reducible refine (Jf.calls a1 aG false _ fE.out).mono ?_); rintro e w' ⟨rfl, ⟨nd, rfl⟩⟩))
      go_roundg k3
      case measure => have := aN.out; have := aQ.out; have := aT.out; omega
      case rel => exact ⟨(wrap64 (aG + 1)), zF, H', ⟨by have := aN.out; have := aQ.out; have := aT.out; omega⟩, ⟨zK aA.out⟩, ⟨zG aC.out⟩⟩
     replace c19 := Bool.eq_false_iff.mpr c19
     subst c19
     replace H := (if_neg zFf).symm.trans H
     have H' := Qa.mk H; clear H
     obtain ⟨dV, dW, dX, dY⟩ := zq2 aA.out
     go_wp2_with (first | (go_at_call 129; (with_reducible refine (Jf.calls a1 aH true _ bT.out).mono ?_); rintro e w' ⟨rfl, ⟨nd, rfl⟩⟩) | (go_at_call 129; (with_reducible refine (Jf.calls a1 aI false _ dH.out).mono ?_); rintro e w' ⟨rfl, ⟨nd, rfl⟩⟩))
     go_roundg k3
     case measure => have := aN.out; have := aQ.out; have := aT.out; omega
     case rel => exact ⟨(wrap64 (aG + 1)), zF, H', ⟨by have := aN.out; have := aQ.out; have := aT.out; omega⟩, ⟨zK aA.out⟩, ⟨zG aC.out⟩⟩
    replace c17 := Bool.eq_false_iff.mpr c17
    subst c17
    replace H := (if_neg zFf).symm.trans H
    have H' := Qa.mk H; clear H
    obtain ⟨dZ, eB, eD, eF⟩ := zq2 aA.out
    go_wp2_with (first | (go_at_call 129; (with_reducible refine (Jf.calls a1 aH false _ bT.out).mono ?_); rintro e w' ⟨rfl, ⟨nd, rfl⟩⟩))
    go_roundg k3
    case measure => have := aN.out; have := aQ.out; have := aT.out; omega
    case rel => exact ⟨(wrap64 (aG + 1)), zF, H', ⟨by have := aN.out; have := aQ.out; have := aT.out; omega⟩, ⟨zK aA.out⟩, ⟨zG aC.out⟩⟩
   have H' := Qa.mk H; clear H
   obtain ⟨eG, eH, eO, eP⟩ := zq2 aA.out
   go_wp2
   go_roundg k3
   case measure => have := aN.out; have := aQ.out; have := aT.out; omega
   case rel => exact ⟨(wrap64 (aI + 1)), zF, H', ⟨by have := aN.out; have := aQ.out; have := aT.out; omega⟩, ⟨zK aA.out⟩, ⟨zG aC.out⟩⟩
  have H' := Qa.mk H; clear H
  obtain ⟨eQ, eT, eU, eX⟩ := zq2 aA.out
  go_wp2
  go_roundg k2
  case measure => have := aN.out; have := aQ.out; omega
  case rel => exact ⟨(wrap64 (aH + 1)), zF, H', ⟨by have := aN.out; have := aQ.out; omega⟩, ⟨zK aA.out⟩, ⟨zG aC.out⟩⟩
 obtain rfl := Option.some.inj H
 obtain ⟨eY, eZ, fA, fB⟩ := zq2 aA.out
 go_wp2
 go_ret
 exact ⟨zE, zG aC.out⟩
def Zk.l0 : Nat → Int → Int → Int → Int → ByteArray → Option (Int)
 | 0, _, _, _, _, _ => none
 | k + 1, x1, x5, x6, aA, aC => if x6 < aA then ((Jf.f x1 x6).bind fun aD => (if aD = true then ((Jj.f k aA aC x1 x6).bind fun aG => (if aG = true then (Zk.l0 k x1 x5 (wrap64 (x6 + 1)) aA aC) else (if 0 ≤ (IntKind.u64.wrap (x6)) then (Zk.l0 k x1 (wrap64 (x5 + (shl .i64 1 (IntKind.u64.wrap (x6))))) (wrap64 (x6 + 1)) aA aC) else (none)))) else (Zk.l0 k x1 x5 (wrap64 (x6 + 1)) aA aC))) else (some x5)
def Zk.f (k : Nat) (aA : Int) (aC : ByteArray) (a1 : Int) : Option (Int) := Zk.l0 k a1 0 0 aA aC
set_option maxHeartbeats 8000000 in
set_option maxRecDepth 100000 in
theorem Zk.calls (k : Nat) (aI : Int) (aJ : ByteArray) (a1 : Int) (r : Int) (w : World) (h : Zk.f k aI aJ a1 = some r) :
  Calls Try.prog 128 #[.agg #[.int .i64 aI, .string aJ], .int .i64 a1] w fun e w' => e = .returned (.int .i64 r) ∧ Below w.heap.size w w' := by
 have bW := Try.underlying25
 have HB := Qa.mk (Below.refl w.heap.size w)
 have H := h
 unfold Zk.f at H
 clear h
 have H' := Qa.mk H; clear H
 go_enter Try.func128, Try.ntmps128
 go_wp2_with (first | ((with_reducible refine Qf (N := 2) rfl ?_); refine zBx (N := 2) #[.int .i64 aI, .string aJ] 25 ?_; intro aU hg w3 hbox hb; have aA := Qa.mk (hbox); have bK := zS hg; have aC := zS hg; replace HB := zX hb; clear hb hbox hg))
 go_loopg [5, 6] k (fun kq v5 v6 w' => ∃ (aM : Int) (aD : Int), v5 = .int .i64 aM ∧ v6 = .int .i64 aD ∧ Qa (Zk.l0 kq a1 aM aD aI aJ = some r) ∧ Qa (kq ≤ k) ∧ Qa (w'.heap[aU]? = some (.cells #[.int .i64 aI, .string aJ] 25 (0, 0))) ∧ Qa (Below w.heap.size w w'))
 case atStart => exact ⟨(0), (0), zF, zF, H', ⟨Nat.le_refl _⟩, ⟨zK aA.out⟩, ⟨zG aC.out⟩⟩
 case round =>
 clear H'
 obtain ⟨aM, aD, rfl, rfl, HA, aV, aA, HB⟩ := hrel
 cases gk with
 | zero => exact absurd HA.out (by simp [Zk.l0])
 | succ k1 =>
 have H := HA.out
 clear HA
 simp only [Zk.l0] at H
 replace H := Z5 H
 rcases H with ⟨bL, H⟩ | ⟨bL, H⟩
 ·obtain ⟨aW, A5, H⟩ := zO H
  by_cases c6 : aW = true
  ·subst c6
   replace H := (if_pos rfl).symm.trans H
   obtain ⟨aX, A7, H⟩ := zO H
   by_cases c8 : aX = true
   ·subst c8
    replace H := (if_pos rfl).symm.trans H
    have H' := Qa.mk H; clear H
    obtain ⟨bM, bN, bO, bP⟩ := zq2 aA.out
    go_wp2_with (first | ((with_reducible refine Qb (f := 129) rfl ?_); refine zD (some 15) Try.func129 _ ((Jf.calls a1 aD true _ A5.out).mono ?_); rintro e w' ⟨rfl, ⟨nd, rfl⟩⟩; refine ⟨_, rfl, ?_⟩) | (go_at_call 132; (with_reducible refine (Jj.calls k1 aI aJ a1 aD true _ A7.out).mono ?_); rintro e bX ⟨rfl, hb⟩; replace aA := zV aA.out hb; replace HB := zX1 aC.out hb; (try clear hb); (try clear hb2); (try clear hk); (try clear hi)))
    go_roundg k1
    case measure => have := aV.out; omega
    case rel => exact ⟨(aM), (wrap64 (aD + 1)), zF, zF, H', ⟨by have := aV.out; omega⟩, ⟨zK aA.out⟩, ⟨zG aC.out⟩⟩
   replace c8 := Bool.eq_false_iff.mpr c8
   subst c8
   replace H := (if_neg zFf).symm.trans H
   obtain ⟨aH, aK⟩ : ∃ j_ : Int, (IntKind.u64.wrap (aD)) = j_ := ⟨_, rfl⟩
   first | rw [aK] at H | simp only [aK] at H
   (try rw [aK] at A5)
   (try rw [aK] at A7)
   replace H := Xw H
   rcases H with ⟨bU, bV, H⟩ | ⟨c12, H⟩
   ·obtain ⟨aN, aG⟩ : ∃ j_ : Int, (shl .i64 1 (aH)) = j_ := ⟨_, rfl⟩
    first | rw [aG] at H | simp only [aG] at H
    (try rw [aG] at A5)
    (try rw [aG] at A7)
    have aQ : (IntKind.i64.wrap (1 * 2 ^ min (aH).toNat 64)) = aN := aG
    have aT := Yc aG
    have bQ : (IntKind.i64.wrap (2 ^ min (aH).toNat 64)) = aN := by have h_ := aQ; rw [Int.one_mul] at h_; exact h_
    have bR : (aH) ≤ 64 → (IntKind.i64.wrap (2 ^ (aH).toNat)) = aN := fun hle_ => by have h_ := aT hle_; rw [Int.one_mul] at h_; exact h_
    have bS : (wrap64 (1 * 2 ^ min (aH).toNat 64)) = aN := (Zu _).symm.trans aQ
    have bT : (aH) ≤ 64 → (wrap64 (1 * 2 ^ (aH).toNat)) = aN := fun h_ => (Zu _).symm.trans (aT h_)
    have H' := Qa.mk H; clear H
    obtain ⟨aY, aZ, bA, bB⟩ := zq2 aA.out
    go_wp2_with (first | ((with_reducible refine Qb (f := 129) rfl ?_); refine zD (some 15) Try.func129 _ ((Jf.calls a1 aD true _ A5.out).mono ?_); rintro e w' ⟨rfl, ⟨nd, rfl⟩⟩; refine ⟨_, rfl, ?_⟩) | (go_at_call 132; (with_reducible refine (Jj.calls k1 aI aJ a1 aD false _ A7.out).mono ?_); rintro e bY ⟨rfl, hb⟩; replace aA := zV aA.out hb; replace HB := zX1 aC.out hb; (try clear hb); (try clear hb2); (try clear hk); (try clear hi)))
    go_roundg k1
    case measure => have := aV.out; omega
    case rel => exact ⟨(wrap64 (aM + (aN))), (wrap64 (aD + 1)), (by first | rfl | (simp; done) | (simp only [← aG] <;> (first | rfl | simp)) | (simp [*]; done)), zF, H', ⟨by have := aV.out; omega⟩, ⟨zK aA.out⟩, ⟨zG aC.out⟩⟩
   exact absurd H (by simp)
  replace c6 := Bool.eq_false_iff.mpr c6
  subst c6
  replace H := (if_neg zFf).symm.trans H
  have H' := Qa.mk H; clear H
  obtain ⟨bC, bD, bE, bF⟩ := zq2 aA.out
  go_wp2_with (first | ((with_reducible refine Qb (f := 129) rfl ?_); refine zD (some 15) Try.func129 _ ((Jf.calls a1 aD false _ A5.out).mono ?_); rintro e w' ⟨rfl, ⟨nd, rfl⟩⟩; refine ⟨_, rfl, ?_⟩))
  go_roundg k1
  case measure => have := aV.out; omega
  case rel => exact ⟨(aM), (wrap64 (aD + 1)), zF, zF, H', ⟨by have := aV.out; omega⟩, ⟨zK aA.out⟩, ⟨zG aC.out⟩⟩
 obtain rfl := Option.some.inj H
 obtain ⟨bG, bH, bI, bJ⟩ := zq2 aA.out
 go_wp2
 go_ret
 exact ⟨zE, zG aC.out⟩
def Zt.l0 : Nat → Int → List Int → Int → Option (List Int)
 | 0, _, _, _ => none
 | k + 1, x0, x3, x4 => if x4 < 7 then ((Jf.f x0 x4).bind fun aA => (if aA = true then (if x3.length < 17592186044416 then (Zt.l0 k x0 (x3 ++ [x4]) (wrap64 (x4 + 1))) else (none)) else (Zt.l0 k x0 x3 (wrap64 (x4 + 1))))) else (some x3)
def Zt.f (k : Nat) (a0 : Int) : Option (List Int) := Zt.l0 k a0 (([] : List Int)) 0
theorem Zt.mono_l : ∀ k, (∀ y0 y1 y2, LeO (Zt.l0 k y0 y1 y2) (Zt.l0 (k + 1) y0 y1 y2))
 | 0 => fun _ _ _ r h => by simp [Zt.l0] at h
 | k + 1 => by
  have aA := Zt.mono_l k
  ·intro y0 y1 y2
   unfold Zt.l0
   repeat' first
   | (with_reducible first | exact aA .. | exact LeO.refl _ | exact LeO.none _ | refine LeO.ite ?_ ?_ | refine LeO.bind ?_ (fun _ => ?_))
   | exact aA .. | exact LeO.none _ | refine LeO.ite ?_ ?_ | refine LeO.bind ?_ (fun _ => ?_)
theorem Zt.mono : ∀ a0 k, LeO (Zt.f k a0) (Zt.f (k + 1) a0) := by
 intro a0 k
 have aA := Zt.mono_l k
 unfold Zt.f
 repeat' first
   | (with_reducible first | exact aA .. | exact LeO.refl _ | exact LeO.none _ | refine LeO.ite ?_ ?_ | refine LeO.bind ?_ (fun _ => ?_))
   | exact aA .. | exact LeO.none _ | refine LeO.ite ?_ ?_ | refine LeO.bind ?_ (fun _ => ?_)
set_option maxHeartbeats 8000000 in
set_option maxRecDepth 100000 in
theorem Zt.calls (k : Nat) (a0 : Int) (r : List Int) (w : World) (h : Zt.f k a0 = some r) :
  Calls Try.prog 131 #[.int .i64 a0] w fun e w' => ∃ aX : Value, e = .returned (aX) ∧ Kd.R (Kd.int .i64) 3 w' w.heap.size (fun _ => True) aX r ∧ Below w.heap.size w w' := by
 have HB := Qa.mk (Below.refl w.heap.size w)
 have H := h
 unfold Zt.f at H
 clear h
 generalize aD : (([] : List Int) : List Int) = aN at H
 have aG := Qa.mk aD.symm
 clear aD
 have H' := Qa.mk H; clear H
 go_enter Try.func131, Try.ntmps131
 go_wp2_with (first | ((with_reducible refine Qf (N := 5) rfl ?_); refine Kd.R_lit (Kd.int .i64) _ 3 ?hg (N := 5) ?hd (xs := ([] : List Int)) (inner := []) (ok := fun _ => True) (okp := fun _ => True) ?hr ?hp (fun _ hk => hk) trivial (Below.refl _ _) (Nat.le_refl _) (by simp) ?_; (case hd => rfl); (case hg => rfl); (case hr => first | (go_simp; done) | (go_simp; rfl)); (case hp => exact (Xb.none _ _)); intro aY w2 ho3 hb hg_ hnew_; clear hg_ hnew_; (first | rw [← aG.out] at ho3 | (simp only [Int.reduceToNat] at ho3; rw [← aG.out] at ho3)); have aJ := Qa.mk (Kd.R_lower ho3 (Ql zB)); replace HB := zX hb; clear hb ho3))
 go_loopg [3, 4] k (fun kq v3 v4 w' => ∃ (aC : List Int) (aA : Int), v4 = .int .i64 aA ∧ Qa (Zt.l0 kq a0 aC aA = some r) ∧ Qa (kq ≤ k) ∧ Qa (Kd.R (Kd.int .i64) 3 w' w.heap.size (fun _ => True) v3 aC) ∧ Qa (Below w.heap.size w w'))
 case atStart => exact ⟨(aN), (0), zF, H', ⟨Nat.le_refl _⟩, ⟨zR aJ.out⟩, ⟨zB⟩⟩
 case round =>
 clear H'
 obtain ⟨aC, aA, rfl, HA, aU, aI, HB⟩ := hrel
 cases gk with
 | zero => exact absurd HA.out (by simp [Zt.l0])
 | succ k1 =>
 have H := HA.out
 clear HA
 simp only [Zt.l0] at H
 replace H := Z5 H
 rcases H with ⟨aV, H⟩ | ⟨aV, H⟩
 ·obtain ⟨aQ, A5, H⟩ := zO H
  by_cases c6 : aQ = true
  ·subst c6
   replace H := (if_pos rfl).symm.trans H
   replace H := Vt H
   rcases H with ⟨c7, H⟩ | ⟨c7, H⟩
   ·have aW := Qa.mk c7
    clear c7
    generalize aH : (aC ++ [aA] : List Int) = aT at H
    have aK := Qa.mk aH.symm
    clear aH
    have H' := Qa.mk H; clear H
    go_wp2_with (first | ((with_reducible refine Qb (f := 129) rfl ?_); refine zD (some 12) Try.func129 _ ((Jf.calls a0 aA true _ A5.out).mono ?_); rintro e w' ⟨rfl, ⟨nd, rfl⟩⟩; refine ⟨_, rfl, ?_⟩) | ((with_reducible refine Z9 (b := .append) (xs := #[.tmp 13, .tmp 15]) rfl ?_); at_builtin; refine Kd.R_append (Kd.int .i64) (w0 := w) w.heap.size rfl (.tmp 13) (.tmp 15) 27 3 (.int .i64 0) 8 rfl Try.underlying27 info3 rfl (by decide) (by omega) u3 aC aA [.int .i64 aA] (fun _ => True) (fun _ => False) rfl rfl ?aP (fun _ hk => hk.elim) ?aF ?aO ?aB ?aS ?aL ?_; (case aP => exact rfl); (case aB => exact zB); (case aF => exact (fun _ _ => trivial)); (case aO => exact (zR aI.out)); (case aS => exact (Ql zB)); (case aL => have := aW.out; omega); intro aZ w8 ho hb hg hat; rw [← aK.out] at ho; have aM := Qa.mk (ho); replace HB := Qa.mk (hb); clear aI; clear ho hb hg hat))
    go_roundg k1
    case measure => have := aU.out; omega
    case rel => exact ⟨(aT), (wrap64 (aA + 1)), zF, H', ⟨by have := aU.out; omega⟩, ⟨zR aM.out⟩, ⟨zB⟩⟩
   exact absurd H (by simp)
  replace c6 := Bool.eq_false_iff.mpr c6
  subst c6
  replace H := (if_neg zFf).symm.trans H
  have H' := Qa.mk H; clear H
  go_wp2_with (first | ((with_reducible refine Qb (f := 129) rfl ?_); refine zD (some 12) Try.func129 _ ((Jf.calls a0 aA false _ A5.out).mono ?_); rintro e w' ⟨rfl, ⟨nd, rfl⟩⟩; refine ⟨_, rfl, ?_⟩))
  go_roundg k1
  case measure => have := aU.out; omega
  case rel => exact ⟨(aC), (wrap64 (aA + 1)), zF, H', ⟨by have := aU.out; omega⟩, ⟨zR aI.out⟩, ⟨zB⟩⟩
 obtain rfl := Option.some.inj H
 go_wp2
 go_ret
 exact ⟨_, zE, zR aI.out, zB⟩
def Yp.f (k : Nat) (aA : Int) (aC : ByteArray) : Option (Bool) := (Jr.f k aA aC).bind fun aD => (if aD = true then ((Qe.f k aA aC).bind fun aG => (some ((aG.length : Int) == 0))) else (some false))
set_option maxHeartbeats 8000000 in
set_option maxRecDepth 100000 in
theorem Yp.calls (k : Nat) (aD : Int) (aG : ByteArray) (r : Bool) (w : World) (h : Yp.f k aD aG = some r) :
  Calls Try.prog 22 #[.agg #[.int .i64 aD, .string aG]] w fun e w' => e = .returned (.bool r) ∧ Below w.heap.size w w' := by
 have bE := Try.underlying25
 have HB := Qa.mk (Below.refl w.heap.size w)
 have H := h
 unfold Yp.f at H
 clear h
 obtain ⟨aT, A2, H⟩ := zO H
 by_cases c3 : aT = true
 ·subst c3
  replace H := (if_pos rfl).symm.trans H
  obtain ⟨aU, A4, H⟩ := zO H
  obtain rfl := Option.some.inj H
  go_enter Try.func22, Try.ntmps22
  go_wp2_with (first | ((with_reducible refine Qf (N := 1) rfl ?_); (try (refine Xa (by rfl) ?_; dsimp only)); refine zBx (N := 1) #[.int .i64 aD, .string aG] 25 ?_; intro aH hg w5 hbox hb; have aA := Qa.mk (hbox); have aI := zS hg; have aC := zS hg; replace HB := zX hb; clear hb hbox hg; obtain ⟨aV, aW, aX, aY⟩ := zq2 aA.out) | ((with_reducible refine Qb (f := 25) rfl ?_); refine zD (some 4) Try.func25 _ ((Jr.calls k aD aG true _ A2.out).mono ?_); rintro e w7 ⟨rfl, hb⟩; refine ⟨_, rfl, ?_⟩; replace aA := zV aA.out hb; replace HB := zX1 aC.out hb; (try clear hb); obtain ⟨aZ, bA, bB, bC⟩ := zq2 aA.out) | (go_at_call 17; (with_reducible refine (Qe.calls k aD aG aU _ A4.out).mono ?_); rintro e w9 ⟨bF, rfl, ho0, hb⟩; have aJ := Qa.mk (Kd.R_lower ho0 (Ql (zG aC.out))); replace aA := zV aA.out hb; replace HB := zX1 aC.out hb; (try clear hb); (try clear hb2); (try clear hk); (try clear hi); (try clear ho0); obtain ⟨bG, bH, bD⟩ := Kd.R_slice aJ.out; subst bD))
  go_ret
  exact ⟨zE, zG aC.out⟩
 replace c3 := Bool.eq_false_iff.mpr c3
 subst c3
 replace H := (if_neg zFf).symm.trans H
 obtain rfl := Option.some.inj H
 go_enter Try.func22, Try.ntmps22
 go_wp2_with (first | ((with_reducible refine Qf (N := 1) rfl ?_); (try (refine Xa (by rfl) ?_; dsimp only)); refine zBx (N := 1) #[.int .i64 aD, .string aG] 25 ?_; intro aH hg bI hbox hb; have aA := Qa.mk (hbox); have aI := zS hg; have aC := zS hg; replace HB := zX hb; clear hb hbox hg; obtain ⟨aK, aM, aN, aQ⟩ := zq2 aA.out) | ((with_reducible refine Qb (f := 25) rfl ?_); refine zD (some 4) Try.func25 _ ((Jr.calls k aD aG false _ A2.out).mono ?_); rintro e bJ ⟨rfl, hb⟩; refine ⟨_, rfl, ?_⟩; replace aA := zV aA.out hb; replace HB := zX1 aC.out hb; (try clear hb)))
 go_ret
 exact ⟨zE, zG aC.out⟩
mutual
def Qr.l0 : Nat → Int → Int → ByteArray → Option (Bool)
 | 0, _, _, _ => none
 | k + 1, x3, aA, aC => if x3 < aA then (Qr.l1 k x3 (wrap64 (x3 + 1)) aA aC) else (some true)
def Qr.l1 : Nat → Int → Int → Int → ByteArray → Option (Bool)
 | 0, _, _, _, _ => none
 | k + 1, x3, x4, aA, aC => if x4 < aA then (Qr.l2 k x3 x4 (wrap64 (x4 + 1)) aA aC) else (Qr.l0 k (wrap64 (x3 + 1)) aA aC)
def Qr.l2 : Nat → Int → Int → Int → Int → ByteArray → Option (Bool)
 | 0, _, _, _, _, _ => none
 | k + 1, x3, x4, x5, aA, aC => if x5 < aA then (Qr.l3 k x3 x4 x5 (wrap64 (x5 + 1)) aA aC) else (Qr.l1 k x3 (wrap64 (x4 + 1)) aA aC)
def Qr.l3 : Nat → Int → Int → Int → Int → Int → ByteArray → Option (Bool)
 | 0, _, _, _, _, _, _ => none
 | k + 1, x3, x4, x5, x6, aA, aC => if x6 < aA then ((Zr.f k aA aC x3 x4 x5 x6).bind fun aD => (if aD.toList = ([43, 43, 43, 43] : List UInt8) then (some false) else (Qr.l3 k x3 x4 x5 (wrap64 (x6 + 1)) aA aC))) else (Qr.l2 k x3 x4 (wrap64 (x5 + 1)) aA aC)
end
def Qr.f (k : Nat) (aA : Int) (aC : ByteArray) : Option (Bool) := Qr.l0 k 0 aA aC
set_option maxHeartbeats 8000000 in
set_option maxRecDepth 100000 in
theorem Qr.calls (k : Nat) (aD : Int) (aG : ByteArray) (r : Bool) (w : World) (h : Qr.f k aD aG = some r) :
  Calls Try.prog 99 #[.agg #[.int .i64 aD, .string aG]] w fun e w' => e = .returned (.bool r) ∧ Below w.heap.size w w' := by
 have dK := Try.underlying25
 have HB := Qa.mk (Below.refl w.heap.size w)
 have H := h
 unfold Qr.f at H
 clear h
 have H' := Qa.mk H; clear H
 go_enter Try.func99, Try.ntmps99
 go_wp2_with (first | ((with_reducible refine Qf (N := 1) rfl ?_); refine zBx (N := 1) #[.int .i64 aD, .string aG] 25 ?_; intro aT hg w2 hbox hb; have aA := Qa.mk (hbox); have dI := zS hg; have aC := zS hg; replace HB := zX hb; clear hb hbox hg))
 go_loopg [3] k (fun kq v3 w' => ∃ (aH : Int), v3 = .int .i64 aH ∧ Qa (Qr.l0 kq aH aD aG = some r) ∧ Qa (kq ≤ k) ∧ Qa (w'.heap[aT]? = some (.cells #[.int .i64 aD, .string aG] 25 (0, 0))) ∧ Qa (Below w.heap.size w w'))
 case atStart => exact ⟨(0), zF, H', ⟨Nat.le_refl _⟩, ⟨zK aA.out⟩, ⟨zG aC.out⟩⟩
 case round =>
 clear H'
 obtain ⟨aH, rfl, HA, bA, aA, HB⟩ := hrel
 cases gk with
 | zero => exact absurd HA.out (by simp [Qr.l0])
 | succ k1 =>
 have H := HA.out
 clear HA
 simp only [Qr.l0] at H
 replace H := Z5 H
 rcases H with ⟨aZ, H⟩ | ⟨aZ, H⟩
 ·have H' := Qa.mk H; clear H
  obtain ⟨aK, aM, aN, aQ⟩ := zq2 aA.out
  go_wp2
  go_loopg [4] k1 (fun kq v4 w' => ∃ (aI : Int), v4 = .int .i64 aI ∧ Qa (Qr.l1 kq aH aI aD aG = some r) ∧ Qa (kq ≤ k1) ∧ Qa (w'.heap[aT]? = some (.cells #[.int .i64 aD, .string aG] 25 (0, 0))) ∧ Qa (Below w.heap.size w w'))
  case atStart => exact ⟨(wrap64 (aH + 1)), zF, H', ⟨Nat.le_refl _⟩, ⟨zK aA.out⟩, ⟨zG aC.out⟩⟩
  case round =>
  clear H'
  try clear c3
  try clear aZ
  try clear aK
  try clear aM
  try clear aN
  try clear aQ
  obtain ⟨aI, rfl, HA, bB, aA, HB⟩ := hrel
  cases gk with
  | zero => exact absurd HA.out (by simp [Qr.l1])
  | succ k2 =>
  have H := HA.out
  clear HA
  simp only [Qr.l1] at H
  replace H := Z5 H
  rcases H with ⟨bC, H⟩ | ⟨bC, H⟩
  ·have H' := Qa.mk H; clear H
   obtain ⟨aV, aW, aX, aY⟩ := zq2 aA.out
   go_wp2
   go_loopg [5] k2 (fun kq v5 w' => ∃ (aJ : Int), v5 = .int .i64 aJ ∧ Qa (Qr.l2 kq aH aI aJ aD aG = some r) ∧ Qa (kq ≤ k2) ∧ Qa (w'.heap[aT]? = some (.cells #[.int .i64 aD, .string aG] 25 (0, 0))) ∧ Qa (Below w.heap.size w w'))
   case atStart => exact ⟨(wrap64 (aI + 1)), zF, H', ⟨Nat.le_refl _⟩, ⟨zK aA.out⟩, ⟨zG aC.out⟩⟩
   case round =>
   clear H'
   try clear c3
   try clear aZ
   try clear c5
   try clear bC
   try clear aK
   try clear aM
   try clear aV
   try clear aW
   try clear aN
   try clear aQ
   try clear aX
   try clear aY
   obtain ⟨aJ, rfl, HA, bH, aA, HB⟩ := hrel
   cases gk with
   | zero => exact absurd HA.out (by simp [Qr.l2])
   | succ k3 =>
   have H := HA.out
   clear HA
   simp only [Qr.l2] at H
   replace H := Z5 H
   rcases H with ⟨bI, H⟩ | ⟨bI, H⟩
   ·have H' := Qa.mk H; clear H
    obtain ⟨bD, bE, bF, bG⟩ := zq2 aA.out
    go_wp2
    go_loopg [6] k3 (fun kq v6 w' => ∃ (aU : Int), v6 = .int .i64 aU ∧ Qa (Qr.l3 kq aH aI aJ aU aD aG = some r) ∧ Qa (kq ≤ k3) ∧ Qa (w'.heap[aT]? = some (.cells #[.int .i64 aD, .string aG] 25 (0, 0))) ∧ Qa (Below w.heap.size w w'))
    case atStart => exact ⟨(wrap64 (aJ + 1)), zF, H', ⟨Nat.le_refl _⟩, ⟨zK aA.out⟩, ⟨zG aC.out⟩⟩
    case round =>
    clear H'
    try clear c3
    try clear aZ
    try clear c5
    try clear bC
    try clear c7
    try clear bI
    try clear aK
    try clear aM
    try clear aV
    try clear aW
    try clear bD
    try clear bE
    try clear aN
    try clear aQ
    try clear aX
    try clear aY
    try clear bF
    try clear bG
    obtain ⟨aU, rfl, HA, bM, aA, HB⟩ := hrel
    cases gk with
    | zero => exact absurd HA.out (by simp [Qr.l3])
    | succ k4 =>
    have H := HA.out
    clear HA
    simp only [Qr.l3] at H
    replace H := Z5 H
    rcases H with ⟨dH, H⟩ | ⟨dH, H⟩
    ·obtain ⟨bJ, dJ, H⟩ := zO H
     replace H := Zi H
     rcases H with ⟨bK, bL, H⟩ | ⟨c11, bK, bL, H⟩
     ·obtain rfl := Option.some.inj H
      obtain ⟨bN, bO, bP, bQ⟩ := zq2 aA.out
      go_wp2_with (first | ((with_reducible refine Qb (f := 98) rfl ?_); refine zD (some 42) Try.func98 _ ((Zr.calls k4 aD aG aH aI aJ aU bJ _ dJ.out).mono ?_); rintro e dL ⟨rfl, hb⟩; refine ⟨_, rfl, ?_⟩; replace aA := zV aA.out hb; replace HB := zX1 aC.out hb; (try clear hb)))
      go_ret
      exact ⟨zE, zG aC.out⟩
     have H' := Qa.mk H; clear H
     obtain ⟨bR, bS, bT, bU⟩ := zq2 aA.out
     go_wp2_with (first | ((with_reducible refine Qb (f := 98) rfl ?_); refine zD (some 42) Try.func98 _ ((Zr.calls k4 aD aG aH aI aJ aU bJ _ dJ.out).mono ?_); rintro e dM ⟨rfl, hb⟩; refine ⟨_, rfl, ?_⟩; replace aA := zV aA.out hb; replace HB := zX1 aC.out hb; (try clear hb)))
     go_roundg k4
     case measure => have := bA.out; have := bB.out; have := bH.out; have := bM.out; omega
     case rel => exact ⟨(wrap64 (aU + 1)), zF, H', ⟨by have := bA.out; have := bB.out; have := bH.out; have := bM.out; omega⟩, ⟨zK aA.out⟩, ⟨zG aC.out⟩⟩
    have H' := Qa.mk H; clear H
    obtain ⟨bV, bW, bX, bY⟩ := zq2 aA.out
    go_wp2
    go_roundg k4
    case measure => have := bA.out; have := bB.out; have := bH.out; have := bM.out; omega
    case rel => exact ⟨(wrap64 (aJ + 1)), zF, H', ⟨by have := bA.out; have := bB.out; have := bH.out; have := bM.out; omega⟩, ⟨zK aA.out⟩, ⟨zG aC.out⟩⟩
   have H' := Qa.mk H; clear H
   obtain ⟨bZ, cB, cK, cO⟩ := zq2 aA.out
   go_wp2
   go_roundg k3
   case measure => have := bA.out; have := bB.out; have := bH.out; omega
   case rel => exact ⟨(wrap64 (aI + 1)), zF, H', ⟨by have := bA.out; have := bB.out; have := bH.out; omega⟩, ⟨zK aA.out⟩, ⟨zG aC.out⟩⟩
  have H' := Qa.mk H; clear H
  obtain ⟨cZ, dA, dB, dC⟩ := zq2 aA.out
  go_wp2
  go_roundg k2
  case measure => have := bA.out; have := bB.out; omega
  case rel => exact ⟨(wrap64 (aH + 1)), zF, H', ⟨by have := bA.out; have := bB.out; omega⟩, ⟨zK aA.out⟩, ⟨zG aC.out⟩⟩
 obtain rfl := Option.some.inj H
 obtain ⟨dD, dE, dF, dG⟩ := zq2 aA.out
 go_wp2
 go_ret
 exact ⟨zE, zG aC.out⟩
def Jb.f (k : Nat) (aA : Int) (aC : ByteArray) : Option (Bool) := (Yp.f k aA aC).bind fun aD => (if aD = true then ((Qr.f k aA aC).bind fun aG => (some aG)) else (some false))
set_option maxHeartbeats 8000000 in
set_option maxRecDepth 100000 in
theorem Jb.calls (k : Nat) (aD : Int) (aG : ByteArray) (r : Bool) (w : World) (h : Jb.f k aD aG = some r) :
  Calls Try.prog 24 #[.agg #[.int .i64 aD, .string aG]] w fun e w' => e = .returned (.bool r) ∧ Below w.heap.size w w' := by
 have bC := Try.underlying25
 have HB := Qa.mk (Below.refl w.heap.size w)
 have H := h
 unfold Jb.f at H
 clear h
 obtain ⟨aQ, A2, H⟩ := zO H
 by_cases c3 : aQ = true
 ·subst c3
  replace H := (if_pos rfl).symm.trans H
  obtain ⟨aT, A4, H⟩ := zO H
  obtain rfl := Option.some.inj H
  go_enter Try.func24, Try.ntmps24
  go_wp2_with (first | ((with_reducible refine Qf (N := 1) rfl ?_); refine zBx (N := 1) #[.int .i64 aD, .string aG] 25 ?_; intro aH hg w5 hbox hb; have aA := Qa.mk (hbox); have aI := zS hg; have aC := zS hg; replace HB := zX hb; clear hb hbox hg; obtain ⟨aU, aV, aW, aX⟩ := zq2 aA.out) | ((with_reducible refine Qb (f := 22) rfl ?_); refine zD (some 4) Try.func22 _ ((Yp.calls k aD aG true _ A2.out).mono ?_); rintro e w7 ⟨rfl, hb⟩; refine ⟨_, rfl, ?_⟩; replace aA := zV aA.out hb; replace HB := zX1 aC.out hb; (try clear hb); obtain ⟨aY, aZ, bA, bB⟩ := zq2 aA.out) | (go_at_call 99; (with_reducible refine (Qr.calls k aD aG aT _ A4.out).mono ?_); rintro e w9 ⟨rfl, hb⟩; replace aA := zV aA.out hb; replace HB := zX1 aC.out hb; (try clear hb); (try clear hb2); (try clear hk); (try clear hi)))
  go_ret
  exact ⟨zE, zG aC.out⟩
 replace c3 := Bool.eq_false_iff.mpr c3
 subst c3
 replace H := (if_neg zFf).symm.trans H
 obtain rfl := Option.some.inj H
 go_enter Try.func24, Try.ntmps24
 go_wp2_with (first | ((with_reducible refine Qf (N := 1) rfl ?_); refine zBx (N := 1) #[.int .i64 aD, .string aG] 25 ?_; intro aH hg bD hbox hb; have aA := Qa.mk (hbox); have aI := zS hg; have aC := zS hg; replace HB := zX hb; clear hb hbox hg; obtain ⟨aJ, aK, aM, aN⟩ := zq2 aA.out) | ((with_reducible refine Qb (f := 22) rfl ?_); refine zD (some 4) Try.func22 _ ((Yp.calls k aD aG false _ A2.out).mono ?_); rintro e bE ⟨rfl, hb⟩; refine ⟨_, rfl, ?_⟩; replace aA := zV aA.out hb; replace HB := zX1 aC.out hb; (try clear hb)))
 go_ret
 exact ⟨zE, zG aC.out⟩
def Va.f (k : Nat) (aA : Int) (aC : ByteArray) : Option (Int) := (Jb.f k aA aC).bind fun aD => (if aD = true then (if 0 ≤ (IntKind.u64.wrap (aA)) then ((Zk.f k aA aC (wrap64 ((shl .i64 1 (IntKind.u64.wrap (aA))) - 1))).bind fun aG => ((Zt.f k aG).bind fun aH => (some (aH.length : Int)))) else (none)) else (some (-1)))
set_option maxHeartbeats 8000000 in
set_option maxRecDepth 100000 in
theorem Va.calls (k : Nat) (aD : Int) (aG : ByteArray) (r : Int) (w : World) (h : Va.f k aD aG = some r) :
  Calls Try.prog 60 #[.agg #[.int .i64 aD, .string aG]] w fun e w' => e = .returned (.int .i64 r) ∧ Below w.heap.size w w' := by
 have bQ := Try.underlying25
 have HB := Qa.mk (Below.refl w.heap.size w)
 have H := h
 unfold Va.f at H
 clear h
 obtain ⟨aW, A2, H⟩ := zO H
 by_cases c3 : aW = true
 ·subst c3
  replace H := (if_pos rfl).symm.trans H
  obtain ⟨aJ, aI⟩ : ∃ j_ : Int, (IntKind.u64.wrap (aD)) = j_ := ⟨_, rfl⟩
  first | rw [aI] at H | simp only [aI] at H
  (try rw [aI] at A2)
  replace H := Xw H
  rcases H with ⟨bR, bS, H⟩ | ⟨c5, H⟩
  ·obtain ⟨aQ, aH⟩ : ∃ j_ : Int, (shl .i64 1 (aJ)) = j_ := ⟨_, rfl⟩
   first | rw [aH] at H | simp only [aH] at H
   (try rw [aH] at A2)
   have aK : (IntKind.i64.wrap (1 * 2 ^ min (aJ).toNat 64)) = aQ := aH
   have aM := Yc aH
   have bL : (IntKind.i64.wrap (2 ^ min (aJ).toNat 64)) = aQ := by have h_ := aK; rw [Int.one_mul] at h_; exact h_
   have bM : (aJ) ≤ 64 → (IntKind.i64.wrap (2 ^ (aJ).toNat)) = aQ := fun hle_ => by have h_ := aM hle_; rw [Int.one_mul] at h_; exact h_
   have bN : (wrap64 (1 * 2 ^ min (aJ).toNat 64)) = aQ := (Zu _).symm.trans aK
   have bO : (aJ) ≤ 64 → (wrap64 (1 * 2 ^ (aJ).toNat)) = aQ := fun h_ => (Zu _).symm.trans (aM h_)
   obtain ⟨aN, A7, H⟩ := zO H
   obtain ⟨aX, A8, H⟩ := zO H
   obtain rfl := Option.some.inj H
   go_enter Try.func60, Try.ntmps60
   go_wp2_with (first | ((with_reducible refine Qf (N := 1) rfl ?_); refine zBx (N := 1) #[.int .i64 aD, .string aG] 25 ?_; intro aT hg w9 hbox hb; have aA := Qa.mk (hbox); have aU := zS hg; have aC := zS hg; replace HB := zX hb; clear hb hbox hg; obtain ⟨aY, aZ, bA, bB⟩ := zq2 aA.out) | ((with_reducible refine Qb (f := 24) rfl ?_); refine zD (some 4) Try.func24 _ ((Jb.calls k aD aG true _ A2.out).mono ?_); rintro e bV ⟨rfl, hb⟩; refine ⟨_, rfl, ?_⟩; replace aA := zV aA.out hb; replace HB := zX1 aC.out hb; (try clear hb); obtain ⟨bC, bD, bE, bF⟩ := zq2 aA.out) | ((with_reducible refine Qb (f := 128) rfl ?_); refine jFs (some 12) rfl rfl Try.func128 (by kernel_rfl) rfl #[.agg #[.int .i64 aD, .string aG], .int .i64 (wrap64 ((aQ) - 1))] rfl (by (try simp only [List.map_toArray, List.map_cons, List.map_nil]); first | done | (simp only [aH]; rfl) | rfl | (simp only [List.length_drop, List.length_take]; rfl)) ?_; (with_reducible refine (Zk.calls k aD aG (wrap64 ((aQ) - 1)) aN _ A7.out).mono ?_); rintro e bW ⟨rfl, hb⟩; refine ⟨_, rfl, ?_⟩; replace aA := zV aA.out hb; replace HB := zX1 aC.out hb; (try clear hb)) | ((with_reducible refine Qb (f := 131) rfl ?_); refine zD (some 13) Try.func131 _ ((Zt.calls k aN aX _ A8.out).mono ?_); rintro e bX ⟨bP, rfl, ho0, hb⟩; refine ⟨_, rfl, ?_⟩; have aV := Qa.mk (Kd.R_lower ho0 (Ql (zG aC.out))); replace aA := zV aA.out hb; replace HB := zX1 aC.out hb; (try clear hb); (try clear ho0); obtain ⟨bT, bU, bK⟩ := Kd.R_slice aV.out; subst bK))
   go_ret
   exact ⟨by first | rfl | (simp [Za, J7] <;> rfl) | (simp only [← aI, ← aH]; first | rfl | (simp [Za, J7] <;> rfl)) | (simp [*, Za, J7] <;> rfl), zG aC.out⟩
  exact absurd H (by simp)
 replace c3 := Bool.eq_false_iff.mpr c3
 subst c3
 replace H := (if_neg zFf).symm.trans H
 obtain rfl := Option.some.inj H
 go_enter Try.func60, Try.ntmps60
 go_wp2_with (first | ((with_reducible refine Qf (N := 1) rfl ?_); refine zBx (N := 1) #[.int .i64 aD, .string aG] 25 ?_; intro aT hg w16 hbox hb; have aA := Qa.mk (hbox); have aU := zS hg; have aC := zS hg; replace HB := zX hb; clear hb hbox hg; obtain ⟨bG, bH, bI, bJ⟩ := zq2 aA.out) | ((with_reducible refine Qb (f := 24) rfl ?_); refine zD (some 4) Try.func24 _ ((Jb.calls k aD aG false _ A2.out).mono ?_); rintro e bY ⟨rfl, hb⟩; refine ⟨_, rfl, ?_⟩; replace aA := zV aA.out hb; replace HB := zX1 aC.out hb; (try clear hb)))
 go_ret
 exact ⟨zE, zG aC.out⟩
def X9.f (a0 : Bool) : Option (Int) := if a0 = true then (some 1) else (some 0)
set_option maxHeartbeats 8000000 in
set_option maxRecDepth 100000 in
theorem X9.calls (a0 : Bool) (r : Int) (w : World) (h : X9.f a0 = some r) :
  Calls Try.prog 119 #[.bool a0] w fun e w' => e = .returned (.int .i64 r) ∧ Qs w w' := by
 have H := h
 unfold X9.f at H
 clear h
 by_cases c2 : a0 = true
 ·subst c2
  replace H := (if_pos rfl).symm.trans H
  obtain rfl := Option.some.inj H
  go_enter Try.func119, Try.ntmps119
  go_wp2
  go_ret
  exact ⟨by first | rfl | (simp; done) | (simp [*]; done), by repeat (first | exact Qs.refl _ | apply Qs.step)⟩
 replace c2 := Bool.eq_false_iff.mpr c2
 subst c2
 replace H := (if_neg zFf).symm.trans H
 obtain rfl := Option.some.inj H
 go_enter Try.func119, Try.ntmps119
 go_wp2
 go_ret
 exact ⟨by first | rfl | (simp; done) | (simp [*]; done), by repeat (first | exact Qs.refl _ | apply Qs.step)⟩
def Jy.l0 : Nat → Int → Int → Int → Int → Int → ByteArray → Option (Int)
 | 0, _, _, _, _, _, _ => none
 | k + 1, x1, x2, x7, x8, aA, aC => if x8 < aA then (if x8 = x1 then ((X9.f false).bind fun aD => (Jy.l0 k x1 x2 (wrap64 (x7 + aD)) (wrap64 (x8 + 1)) aA aC)) else (if x8 = x2 then ((X9.f false).bind fun aG => (Jy.l0 k x1 x2 (wrap64 (x7 + aG)) (wrap64 (x8 + 1)) aA aC)) else ((Jp.f k aA aC x1 x2 x8).bind fun aH => ((X9.f (decide (aH > 0))).bind fun aI => (Jy.l0 k x1 x2 (wrap64 (x7 + aI)) (wrap64 (x8 + 1)) aA aC))))) else (some x7)
def Jy.f (k : Nat) (aA : Int) (aC : ByteArray) (a1 : Int) (a2 : Int) : Option (Int) := Jy.l0 k a1 a2 0 0 aA aC
set_option maxHeartbeats 8000000 in
set_option maxRecDepth 100000 in
theorem Jy.calls (k : Nat) (aG : Int) (aH : ByteArray) (a1 : Int) (a2 : Int) (r : Int) (w : World) (h : Jy.f k aG aH a1 a2 = some r) :
  Calls Try.prog 136 #[.agg #[.int .i64 aG, .string aH], .int .i64 a1, .int .i64 a2] w fun e w' => e = .returned (.int .i64 r) ∧ Below w.heap.size w w' := by
 have bQ := Try.underlying25
 have HB := Qa.mk (Below.refl w.heap.size w)
 have H := h
 unfold Jy.f at H
 clear h
 have H' := Qa.mk H; clear H
 go_enter Try.func136, Try.ntmps136
 go_wp2_with (first | ((with_reducible refine Qf (N := 3) rfl ?_); refine zBx (N := 3) #[.int .i64 aG, .string aH] 25 ?_; intro aQ hg w4 hbox hb; have aA := Qa.mk (hbox); have bG := zS hg; have aC := zS hg; replace HB := zX hb; clear hb hbox hg))
 go_loopg [7, 8] k (fun kq v7 v8 w' => ∃ (aI : Int) (aD : Int), v7 = .int .i64 aI ∧ v8 = .int .i64 aD ∧ Qa (Jy.l0 kq a1 a2 aI aD aG aH = some r) ∧ Qa (kq ≤ k) ∧ Qa (w'.heap[aQ]? = some (.cells #[.int .i64 aG, .string aH] 25 (0, 0))) ∧ Qa (Below w.heap.size w w'))
 case atStart => exact ⟨(0), (0), zF, zF, H', ⟨Nat.le_refl _⟩, ⟨zK aA.out⟩, ⟨zG aC.out⟩⟩
 case round =>
 clear H'
 obtain ⟨aI, aD, rfl, rfl, HA, aT, aA, HB⟩ := hrel
 cases gk with
 | zero => exact absurd HA.out (by simp [Jy.l0])
 | succ k1 =>
 have H := HA.out
 clear HA
 simp only [Jy.l0] at H
 replace H := Z5 H
 rcases H with ⟨bH, H⟩ | ⟨bH, H⟩
 ·replace H := Zi H
  rcases H with ⟨bI, bJ, H⟩ | ⟨c6, bI, bJ, H⟩
  ·obtain ⟨aJ, A7, H⟩ := zO H
   have H' := Qa.mk H; clear H
   obtain ⟨bK, bL, bM, bN⟩ := zq2 aA.out
   go_wp2_with (first | ((with_reducible refine Qb (f := 119) rfl ?_); refine zD (some 32) Try.func119 _ ((X9.calls false aJ _ A7.out).mono ?_); rintro e w' ⟨rfl, ⟨nd, rfl⟩⟩; refine ⟨_, rfl, ?_⟩))
   go_roundg k1
   case measure => have := aT.out; omega
   case rel => exact ⟨(wrap64 (aI + aJ)), (wrap64 (aD + 1)), zF, zF, H', ⟨by have := aT.out; omega⟩, ⟨zK aA.out⟩, ⟨zG aC.out⟩⟩
  replace H := Zi H
  rcases H with ⟨bO, bP, H⟩ | ⟨c9, bO, bP, H⟩
  ·obtain ⟨aK, bR, H⟩ := zO H
   have H' := Qa.mk H; clear H
   obtain ⟨aU, aV, aW, aX⟩ := zq2 aA.out
   go_wp2_with (first | ((with_reducible refine Qb (f := 119) rfl ?_); refine zD (some 32) Try.func119 _ ((X9.calls false aK _ bR.out).mono ?_); rintro e w' ⟨rfl, ⟨nd, rfl⟩⟩; refine ⟨_, rfl, ?_⟩))
   go_roundg k1
   case measure => have := aT.out; omega
   case rel => exact ⟨(wrap64 (aI + aK)), (wrap64 (aD + 1)), zF, zF, H', ⟨by have := aT.out; omega⟩, ⟨zK aA.out⟩, ⟨zG aC.out⟩⟩
  obtain ⟨aM, bS, H⟩ := zO H
  obtain ⟨aN, bT, H⟩ := zO H
  have H' := Qa.mk H; clear H
  obtain ⟨aY, aZ, bA, bB⟩ := zq2 aA.out
  go_wp2_with (first | (go_at_call 144; (with_reducible refine (Jp.calls k1 aG aH a1 a2 aD aM _ bS.out).mono ?_); rintro e bU ⟨rfl, hb⟩; replace aA := zV aA.out hb; replace HB := zX1 aC.out hb; (try clear hb); (try clear hb2); (try clear hk); (try clear hi)) | ((with_reducible refine Qb (f := 119) rfl ?_); refine zD (some 32) Try.func119 _ ((X9.calls (decide (aM > 0)) aN _ bT.out).mono ?_); rintro e w' ⟨rfl, ⟨nd, rfl⟩⟩; refine ⟨_, rfl, ?_⟩))
  go_roundg k1
  case measure => have := aT.out; omega
  case rel => exact ⟨(wrap64 (aI + aN)), (wrap64 (aD + 1)), zF, zF, H', ⟨by have := aT.out; omega⟩, ⟨zK aA.out⟩, ⟨zG aC.out⟩⟩
 obtain rfl := Option.some.inj H
 obtain ⟨bC, bD, bE, bF⟩ := zq2 aA.out
 go_wp2
 go_ret
 exact ⟨zE, zG aC.out⟩
mutual
def Jg.l0 : Nat → Int → List Int → Int → Option (Bool)
 | 0, _, _, _ => none
 | k + 1, x0, x1, x5 => if x5 < (x1.length : Int) then (if 0 ≤ x5 then ((Zz.f (rd x1 x5) 0 (wrap64 (x0 - 1))).bind fun aA => (if aA = true then (Jg.l1 k x0 x1 x5 0) else (some false))) else (none)) else (some true)
def Jg.l1 : Nat → Int → List Int → Int → Int → Option (Bool)
 | 0, _, _, _, _ => none
 | k + 1, x0, x1, x5, x6 => if x6 < x5 then (if 0 ≤ x5 then (if x5 < (x1.length : Int) then (if 0 ≤ x6 then (if x6 < (x1.length : Int) then (if (rd x1 x5) = (rd x1 x6) then (some false) else (Jg.l1 k x0 x1 x5 (wrap64 (x6 + 1)))) else (none)) else (none)) else (none)) else (none)) else (Jg.l0 k x0 x1 (wrap64 (x5 + 1)))
end
def Jg.f (k : Nat) (a0 : Int) (l1 : List Int) : Option (Bool) := Jg.l0 k a0 l1 0
set_option maxHeartbeats 8000000 in
set_option maxRecDepth 100000 in
theorem Jg.calls (k : Nat) (a0 : Int) (A1 : Option Addr) (c1 : Nat) (l1 : List Int) (r : Bool) (w : World) (hr1 : Kd.C (Kd.int .i64) w A1 l1.length l1) (hc1 : l1.length ≤ c1) (h : Jg.f k a0 l1 = some r) :
  Calls Try.prog 107 #[.int .i64 a0, .slice A1 l1.length c1] w fun e w' => e = .returned (.bool r) ∧ Qs w w' := by
 have HR1 := Qa.mk hr1
 have bL := Qa.mk hc1
 clear hr1 hc1
 have H := h
 unfold Jg.f at H
 clear h
 have H' := Qa.mk H; clear H
 go_enter Try.func107, Try.ntmps107
 go_wp2
 repeat (go_quiet (fail); try go_wp2)
 go_loopg [5] k (fun kq v5 w' => ∃ (aA : Int), v5 = .int .i64 aA ∧ Qa (Jg.l0 kq a0 l1 aA = some r) ∧ Qa (kq ≤ k) ∧ Qs w w')
 case atStart => exact ⟨(0), zF, H', ⟨Nat.le_refl _⟩, by repeat (first | exact Qs.refl _ | apply Qs.step)⟩
 case round =>
 clear H'
 obtain ⟨aA, rfl, HA, bC, ⟨m1, rfl⟩⟩ := hrel
 cases gk with
 | zero => exact absurd HA.out (by simp [Jg.l0])
 | succ k1 =>
 have H := HA.out
 clear HA
 simp only [Jg.l0] at H
 replace H := Z5 H
 rcases H with ⟨aZ, H⟩ | ⟨aZ, H⟩
 ·replace H := Zq H
  rcases H with ⟨bE, H⟩ | ⟨c4, H⟩
  ·obtain ⟨bF, A5, H⟩ := zO H
   by_cases c6 : bF = true
   ·subst c6
    replace H := (if_pos rfl).symm.trans H
    have H' := Qa.mk H; clear H
    have aD : 0 ≤ (aA : Int) := zA
    have aG : aA < (l1.length : Int) := zA
    obtain ⟨aH, aW, aN⟩ := Kd.at_int HR1.out aA aD aG
    cases aW
    replace aD := eq_true aD
    replace aG := eq_true aG
    go_wp2_with (first | (go_at_call 89; (with_reducible refine (Zz.calls (rd l1 aA) 0 (wrap64 (a0 - 1)) true _ A5.out).mono ?_); rintro e w' ⟨rfl, ⟨nd, rfl⟩⟩; (try first | exact ⟨rfl, _, World.drewN_drewN _ _ _⟩ | exact ⟨rfl, _, Eq.trans (World.drewN_drewN _ _ _) (congrArg (World.drewN _) (Nat.add_assoc _ _ _))⟩)))
    repeat (go_quiet (first | (go_at_call 89; (with_reducible refine (Zz.calls (rd l1 aA) 0 (wrap64 (a0 - 1)) true _ A5.out).mono ?_); rintro e w' ⟨rfl, ⟨nd, rfl⟩⟩; (try first | exact ⟨rfl, _, World.drewN_drewN _ _ _⟩ | exact ⟨rfl, _, Eq.trans (World.drewN_drewN _ _ _) (congrArg (World.drewN _) (Nat.add_assoc _ _ _))⟩))); try go_wp2_with (first | (go_at_call 89; (with_reducible refine (Zz.calls (rd l1 aA) 0 (wrap64 (a0 - 1)) true _ A5.out).mono ?_); rintro e w' ⟨rfl, ⟨nd, rfl⟩⟩; (try first | exact ⟨rfl, _, World.drewN_drewN _ _ _⟩ | exact ⟨rfl, _, Eq.trans (World.drewN_drewN _ _ _) (congrArg (World.drewN _) (Nat.add_assoc _ _ _))⟩))))
    go_loopg [6] k1 (fun kq v6 w' => ∃ (aC : Int), v6 = .int .i64 aC ∧ Qa (Jg.l1 kq a0 l1 aA aC = some r) ∧ Qa (kq ≤ k1) ∧ Qs w w')
    case atStart => exact ⟨(0), zF, H', ⟨Nat.le_refl _⟩, by repeat (first | exact Qs.refl _ | apply Qs.step)⟩
    case round =>
    clear H'
    try clear c3
    try clear aZ
    try clear c4
    try clear bE
    try clear c6
    try clear aN
    try clear aD
    try clear aG
    obtain ⟨aC, rfl, HA, bD, ⟨m2, rfl⟩⟩ := hrel
    cases gk with
    | zero => exact absurd HA.out (by simp [Jg.l1])
    | succ k2 =>
    have H := HA.out
    clear HA
    simp only [Jg.l1] at H
    replace H := Z5 H
    rcases H with ⟨bG, H⟩ | ⟨bG, H⟩
    ·replace H := Zq H
     rcases H with ⟨bJ, H⟩ | ⟨c8, H⟩
     ·replace H := Zq H
      rcases H with ⟨bK, H⟩ | ⟨c9, H⟩
      ·replace H := Zq H
       rcases H with ⟨bH, H⟩ | ⟨c10, H⟩
       ·replace H := Zq H
        rcases H with ⟨bI, H⟩ | ⟨c11, H⟩
        ·replace H := Zi H
         rcases H with ⟨bA, bB, H⟩ | ⟨c12, bA, bB, H⟩
         ·obtain rfl := Option.some.inj H
          have aI : 0 ≤ (aA : Int) := zA
          have aJ : aA < (l1.length : Int) := zA
          obtain ⟨aQ, aX, aU⟩ := Kd.at_int HR1.out aA aI aJ
          obtain rfl : aH = aQ := (by injection aX)
          replace aI := eq_true aI
          replace aJ := eq_true aJ
          have aK : 0 ≤ (aC : Int) := zA
          have aM : aC < (l1.length : Int) := zA
          obtain ⟨aT, aY, aV⟩ := Kd.at_int HR1.out aC aK aM
          obtain rfl : aH = aT := (by injection aY)
          replace aK := eq_true aK
          replace aM := eq_true aM
          go_wp2
          repeat (go_quiet (fail); try go_wp2)
          go_ret
          exact ⟨by first | rfl | (simp; done) | (simp [*]; done), by repeat (first | exact Qs.refl _ | apply Qs.step)⟩
         have H' := Qa.mk H; clear H
         have aI : 0 ≤ (aA : Int) := zA
         have aJ : aA < (l1.length : Int) := zA
         obtain ⟨aQ, aX, aU⟩ := Kd.at_int HR1.out aA aI aJ
         obtain rfl : aH = aQ := (by injection aX)
         replace aI := eq_true aI
         replace aJ := eq_true aJ
         have aK : 0 ≤ (aC : Int) := zA
         have aM : aC < (l1.length : Int) := zA
         obtain ⟨aT, aY, aV⟩ := Kd.at_int HR1.out aC aK aM
         obtain rfl : aH = aT := (by injection aY)
         replace aK := eq_true aK
         replace aM := eq_true aM
         go_wp2
         repeat (go_quiet (fail); try go_wp2)
         go_roundg k2
         case measure => have := bC.out; have := bD.out; omega
         case rel => exact ⟨(wrap64 (aC + 1)), zF, H', ⟨by have := bC.out; have := bD.out; omega⟩, by repeat (first | exact Qs.refl _ | apply Qs.step)⟩
        exact absurd H (by simp)
       exact absurd H (by simp)
      exact absurd H (by simp)
     exact absurd H (by simp)
    have H' := Qa.mk H; clear H
    go_wp2
    repeat (go_quiet (fail); try go_wp2)
    go_roundg k2
    case measure => have := bC.out; have := bD.out; omega
    case rel => exact ⟨(wrap64 (aA + 1)), zF, H', ⟨by have := bC.out; have := bD.out; omega⟩, by repeat (first | exact Qs.refl _ | apply Qs.step)⟩
   replace c6 := Bool.eq_false_iff.mpr c6
   subst c6
   replace H := (if_neg zFf).symm.trans H
   obtain rfl := Option.some.inj H
   have aD : 0 ≤ (aA : Int) := zA
   have aG : aA < (l1.length : Int) := zA
   obtain ⟨aH, aW, aN⟩ := Kd.at_int HR1.out aA aD aG
   cases aW
   replace aD := eq_true aD
   replace aG := eq_true aG
   go_wp2_with (first | (go_at_call 89; (with_reducible refine (Zz.calls (rd l1 aA) 0 (wrap64 (a0 - 1)) false _ A5.out).mono ?_); rintro e w' ⟨rfl, ⟨nd, rfl⟩⟩; (try first | exact ⟨rfl, _, World.drewN_drewN _ _ _⟩ | exact ⟨rfl, _, Eq.trans (World.drewN_drewN _ _ _) (congrArg (World.drewN _) (Nat.add_assoc _ _ _))⟩)))
   repeat (go_quiet (first | (go_at_call 89; (with_reducible refine (Zz.calls (rd l1 aA) 0 (wrap64 (a0 - 1)) false _ A5.out).mono ?_); rintro e w' ⟨rfl, ⟨nd, rfl⟩⟩; (try first | exact ⟨rfl, _, World.drewN_drewN _ _ _⟩ | exact ⟨rfl, _, Eq.trans (World.drewN_drewN _ _ _) (congrArg (World.drewN _) (Nat.add_assoc _ _ _))⟩))); try go_wp2_with (first | (go_at_call 89; (with_reducible refine (Zz.calls (rd l1 aA) 0 (wrap64 (a0 - 1)) false _ A5.out).mono ?_); rintro e w' ⟨rfl, ⟨nd, rfl⟩⟩; (try first | exact ⟨rfl, _, World.drewN_drewN _ _ _⟩ | exact ⟨rfl, _, Eq.trans (World.drewN_drewN _ _ _) (congrArg (World.drewN _) (Nat.add_assoc _ _ _))⟩))))
   go_ret
   exact ⟨by first | rfl | (simp; done) | (simp [*]; done), by repeat (first | exact Qs.refl _ | apply Qs.step)⟩
  exact absurd H (by simp)
 obtain rfl := Option.some.inj H
 go_wp2
 repeat (go_quiet (fail); try go_wp2)
 go_ret
 exact ⟨by first | rfl | (simp; done) | (simp [*]; done), by repeat (first | exact Qs.refl _ | apply Qs.step)⟩
def Yx.f (k : Nat) (aA : Int) (aC : ByteArray) (a1 : Int) (a2 : Int) : Option (Int) := (Jb.f k aA aC).bind fun aD => (if aD = true then ((Jg.f k aA (([a1, a2] : List Int))).bind fun aG => (if aG = true then ((Jy.f k aA aC a1 a2).bind fun aH => (some aH)) else (some (-1)))) else (some (-1)))
set_option maxHeartbeats 8000000 in
set_option maxRecDepth 100000 in
theorem Yx.calls (k : Nat) (aG : Int) (aH : ByteArray) (a1 : Int) (a2 : Int) (r : Int) (w : World) (h : Yx.f k aG aH a1 a2 = some r) :
  Calls Try.prog 63 #[.agg #[.int .i64 aG, .string aH], .int .i64 a1, .int .i64 a2] w fun e w' => e = .returned (.int .i64 r) ∧ Below w.heap.size w w' := by
 have bY := Try.underlying25
 have HB := Qa.mk (Below.refl w.heap.size w)
 have H := h
 unfold Yx.f at H
 clear h
 obtain ⟨aU, A4, H⟩ := zO H
 by_cases c5 : aU = true
 ·subst c5
  replace H := (if_pos rfl).symm.trans H
  generalize hy1199 : (([a1, a2] : List Int) : List Int) = y1199 at H
  have aI := Qa.mk hy1199.symm
  clear hy1199
  obtain ⟨aV, A6, H⟩ := zO H
  by_cases c7 : aV = true
  ·subst c7
   replace H := (if_pos rfl).symm.trans H
   obtain ⟨aW, A8, H⟩ := zO H
   obtain rfl := Option.some.inj H
   go_enter Try.func63, Try.ntmps63
   go_wp2_with (first | ((with_reducible refine Qf (N := 3) rfl ?_); (try (refine Xa (by rfl) ?_; dsimp only)); refine zBx (N := 3) #[.int .i64 aG, .string aH] 25 ?_; intro aJ hg w9 hbox hb; have aA := Qa.mk (hbox); have aK := zS hg; have aC := zS hg; replace HB := zX hb; clear hb hbox hg; obtain ⟨aY, aZ, bA, bB⟩ := zq2 aA.out) | ((with_reducible refine Qb (f := 24) rfl ?_); refine zD (some 8) Try.func24 _ ((Jb.calls k aG aH true _ A4.out).mono ?_); rintro e cZ ⟨rfl, hb⟩; refine ⟨_, rfl, ?_⟩; replace aA := zV aA.out hb; replace HB := zX1 aC.out hb; (try clear hb); obtain ⟨bC, bD, bE, bF⟩ := zq2 aA.out) | ((with_reducible refine Qf (N := 15) rfl ?_); (try (refine Xa (by rfl) ?_; dsimp only)); refine Kd.R_lit (Kd.int .i64) _ 3 ?hg (N := 15) ?hd (xs := ([a1, a2] : List Int)) (inner := [.int .i64 a1, .int .i64 a2]) (ok := fun _ => True) (okp := fun _ => True) ?hr ?hp (fun _ hk => hk) trivial (Below.refl _ _) (Nat.le_refl _) (by simp) ?_; (case hd => rfl); (case hg => rfl); (case hr => first | (go_simp; done) | (go_simp; rfl)); (case hp => exact (Xb.one (show Kd.M (Kd.int .i64) _ _ _ a1 [.int .i64 a1] from rfl) (Xb.one (show Kd.M (Kd.int .i64) _ _ _ a2 [.int .i64 a2] from rfl) (Xb.none _ _)))); intro aX dA aM hb hg_ hnew_; clear hg_ hnew_; (first | rw [← aI.out] at aM | (simp only [Int.reduceToNat] at aM; rw [← aI.out] at aM)); have aD := Qa.mk (Kd.R_lower aM (Ql (zG aC.out))); replace aA := zV aA.out hb; replace HB := zX1 aC.out hb; clear hb aM; obtain ⟨bZ, cB, bW⟩ := Kd.R_slice aD.out; subst bW) | (go_at_call 107; (with_reducible refine (Jg.calls k aG _ _ y1199 true _ ?aN ?aQ A6.out).mono ?_); (case aN => exact zc ((Kd.R_reads' aD.out).2.2)); (case aQ => exact (Kd.R_reads' aD.out).2.1); rintro e w' ⟨rfl, ⟨nd, rfl⟩⟩; obtain ⟨bG, bH, bI, bJ⟩ := zq2 aA.out) | ((with_reducible refine Qb (f := 136) rfl ?_); refine zD (some 22) Try.func136 _ ((Jy.calls k aG aH a1 a2 aW _ A8.out).mono ?_); rintro e dB ⟨rfl, hb⟩; refine ⟨_, rfl, ?_⟩; replace aD := zW aD.out hb; replace aA := zV aA.out hb; replace HB := zX1 aC.out hb; (try clear hb)))
   go_ret
   exact ⟨zE, zG aC.out⟩
  replace c7 := Bool.eq_false_iff.mpr c7
  subst c7
  replace H := (if_neg zFf).symm.trans H
  obtain rfl := Option.some.inj H
  go_enter Try.func63, Try.ntmps63
  go_wp2_with (first | ((with_reducible refine Qf (N := 3) rfl ?_); (try (refine Xa (by rfl) ?_; dsimp only)); refine zBx (N := 3) #[.int .i64 aG, .string aH] 25 ?_; intro aJ hg dC hbox hb; have aA := Qa.mk (hbox); have aK := zS hg; have aC := zS hg; replace HB := zX hb; clear hb hbox hg; obtain ⟨bK, bL, bM, bN⟩ := zq2 aA.out) | ((with_reducible refine Qb (f := 24) rfl ?_); refine zD (some 8) Try.func24 _ ((Jb.calls k aG aH true _ A4.out).mono ?_); rintro e dD ⟨rfl, hb⟩; refine ⟨_, rfl, ?_⟩; replace aA := zV aA.out hb; replace HB := zX1 aC.out hb; (try clear hb); obtain ⟨bO, bP, bQ, bR⟩ := zq2 aA.out) | ((with_reducible refine Qf (N := 15) rfl ?_); (try (refine Xa (by rfl) ?_; dsimp only)); refine Kd.R_lit (Kd.int .i64) _ 3 ?hg (N := 15) ?hd (xs := ([a1, a2] : List Int)) (inner := [.int .i64 a1, .int .i64 a2]) (ok := fun _ => True) (okp := fun _ => True) ?hr ?hp (fun _ hk => hk) trivial (Below.refl _ _) (Nat.le_refl _) (by simp) ?_; (case hd => rfl); (case hg => rfl); (case hr => first | (go_simp; done) | (go_simp; rfl)); (case hp => exact (Xb.one (show Kd.M (Kd.int .i64) _ _ _ a1 [.int .i64 a1] from rfl) (Xb.one (show Kd.M (Kd.int .i64) _ _ _ a2 [.int .i64 a2] from rfl) (Xb.none _ _)))); intro aX dE aT hb hg_ hnew_; clear hg_ hnew_; (first | rw [← aI.out] at aT | (simp only [Int.reduceToNat] at aT; rw [← aI.out] at aT)); have aD := Qa.mk (Kd.R_lower aT (Ql (zG aC.out))); replace aA := zV aA.out hb; replace HB := zX1 aC.out hb; clear hb aT; obtain ⟨cK, cO, bX⟩ := Kd.R_slice aD.out; subst bX) | (go_at_call 107; (with_reducible refine (Jg.calls k aG _ _ y1199 false _ ?aN ?aQ A6.out).mono ?_); (case aN => exact zc ((Kd.R_reads' aD.out).2.2)); (case aQ => exact (Kd.R_reads' aD.out).2.1); rintro e w' ⟨rfl, ⟨nd, rfl⟩⟩))
  go_ret
  exact ⟨zE, zG aC.out⟩
 replace c5 := Bool.eq_false_iff.mpr c5
 subst c5
 replace H := (if_neg zFf).symm.trans H
 obtain rfl := Option.some.inj H
 go_enter Try.func63, Try.ntmps63
 go_wp2_with (first | ((with_reducible refine Qf (N := 3) rfl ?_); (try (refine Xa (by rfl) ?_; dsimp only)); refine zBx (N := 3) #[.int .i64 aG, .string aH] 25 ?_; intro aJ hg dF hbox hb; have aA := Qa.mk (hbox); have aK := zS hg; have aC := zS hg; replace HB := zX hb; clear hb hbox hg; obtain ⟨bS, bT, bU, bV⟩ := zq2 aA.out) | ((with_reducible refine Qb (f := 24) rfl ?_); refine zD (some 8) Try.func24 _ ((Jb.calls k aG aH false _ A4.out).mono ?_); rintro e dG ⟨rfl, hb⟩; refine ⟨_, rfl, ?_⟩; replace aA := zV aA.out hb; replace HB := zX1 aC.out hb; (try clear hb)))
 go_ret
 exact ⟨zE, zG aC.out⟩
def Qc (w0 W : World) (g : Nat) (f0 : List Int) (f1 : Int) (f2 : Int) : Prop := ∃ A0 c0, W.heap[g]? = some (.cells #[.slice A0 f0.length c0, .int .i64 f1, .int .i64 f2] 110 (0, 0)) ∧ w0.heap.size ≤ g ∧ Kd.C (Kd.int .u8) w0 A0 f0.length f0
theorem Qc.grown {w0 W : World} {g : Nat} {f0 : List Int} {f1 : Int} {f2 : Int} {W1 : World} {row : Option Nat} (h : Qc w0 W g f0 f1 f2) (hw : W.grownBy W1 row) (hne : some g ≠ row) : Qc w0 W1 g f0 f1 f2 := by
 obtain ⟨A0, c0, hb, hg, hr0⟩ := h
 exact ⟨A0, c0, Yh hb hw hne, hg, hr0⟩
theorem Qc.below {w0 W : World} {g : Nat} {f0 : List Int} {f1 : Int} {f2 : Int} {W1 : World} (h : Qc w0 W g f0 f1 f2) (hw : Below W.heap.size W W1) : Qc w0 W1 g f0 f1 f2 := h.grown (Ww hw none) (by simp)
theorem Qc.alloc {w0 W : World} {g : Nat} {f0 : List Int} {f1 : Int} {f2 : Int} (h : Qc w0 W g f0 f1 f2) (o : Obj) : Qc w0 (W.alloc o) g f0 f1 f2 := h.below (Jq (Below.refl _ _) o)
theorem Qc.drewN {w0 W : World} {g : Nat} {f0 : List Int} {f1 : Int} {f2 : Int} (h : Qc w0 W g f0 f1 f2) (m : Nat) : Qc w0 (W.drewN m) g f0 f1 f2 := h
theorem Qc.drew {w0 W : World} {g : Nat} {f0 : List Int} {f1 : Int} {f2 : Int} (h : Qc w0 W g f0 f1 f2) : Qc w0 W.drew g f0 f1 f2 := h
theorem Qc.apart {w0 W : World} {g : Nat} {f0 : List Int} {f1 : Int} {f2 : Int} {α : Type} {d : Kd α} {e : Nat} {base : Nat} {ok : Nat → Prop} {v : Value} {xs : List α} (h : Qc w0 W g f0 f1 f2) (ho : d.R e W base ok v xs) (ht : ∀ q, q ∈ e :: d.E → q ≠ 110) : d.R e W base (fun k => ok k ∧ k ≠ g) v xs := by
 obtain ⟨A0, c0, hb, hg, hr0⟩ := h
 exact Kd.R_types ho hb ht
theorem Qc.own_ne {w0 W : World} {g : Nat} {f0 : List Int} {f1 : Int} {f2 : Int} {α : Type} {d : Kd α} {e : Nat} {base : Nat} {ok : Nat → Prop} {v : Value} {xs : List α} (h : Qc w0 W g f0 f1 f2) (ho : d.R e W base ok v xs) (ht : e ≠ 110) : some g ≠ v.ownBlock := by
 obtain ⟨A0, c0, hb, hg, hr0⟩ := h
 exact Kd.R_ne ho hb ht
theorem Qc.apartQ {w0 W : World} {g : Nat} {f0 : List Int} {f1 : Int} {f2 : Int} {α : Type} {d : Kd α} {e : Nat} {base : Nat} {ok : Nat → Prop} {v : Value} {xs : List α} (h : Qc w0 W g f0 f1 f2) (ho : d.Q e W base ok v xs) (ht : ∀ q, q ∈ e :: d.E → q ≠ 110) : d.Q e W base (fun k => ok k ∧ k ≠ g) v xs := by
 obtain ⟨A0, c0, hb, hg, hr0⟩ := h
 exact Kd.Q_types ho hb ht
theorem Qc.lt {w0 W : World} {g : Nat} {f0 : List Int} {f1 : Int} {f2 : Int} (h : Qc w0 W g f0 f1 f2) : g < W.heap.size := by
 obtain ⟨A0, c0, hb, hg, hr0⟩ := h
 exact jA8 hb
theorem Qc.ge {w0 W : World} {g : Nat} {f0 : List Int} {f1 : Int} {f2 : Int} (h : Qc w0 W g f0 f1 f2) : w0.heap.size ≤ g := by
 obtain ⟨A0, c0, hb, hg, hr0⟩ := h
 exact hg
theorem Qc.ne_blk {w0 W : World} {g : Nat} {f0 : List Int} {f1 : Int} {f2 : Int} {a : Nat} {cs : Array Value} {t : TypeId} {fr : Nat × Nat} (h : Qc w0 W g f0 f1 f2) (hb2 : W.heap[a]? = some (.cells cs t fr)) (ht : t ≠ 110) : g ≠ a := by
 obtain ⟨A0, c0, hb, hg, hr0⟩ := h
 rintro rfl
 rw [hb] at hb2
 injection hb2 with hb2
 injection hb2 with _ ht2
 exact ht ht2.symm
theorem Qc.far {w0 W : World} {g : Nat} {f0 : List Int} {f1 : Int} {f2 : Int} {p : Addr} (h : Qc w0 W g f0 f1 f2) (hne : g ≠ p.block) (u : Value) : Qc w0 (W.setCell p u) g f0 f1 f2 := by
 obtain ⟨A0, c0, hb, hg, hr0⟩ := h
 exact ⟨A0, c0, jAd hb hne u, hg, hr0⟩
theorem jDm {W : World} {g : Nat} {A0 : Option Addr} {c0 : Nat} {f0 : List Int} {f1 : Int} {f2 : Int} (h : W.heap[g]? = some (.cells #[.slice A0 f0.length c0, .int .i64 f1, .int .i64 f2] 110 (0, 0))) : W.cell? ⟨g, 0, none⟩ = some (.slice A0 f0.length c0) := (Qo h 0).trans rfl
theorem jDr {W : World} {g : Nat} {A0 : Option Addr} {c0 : Nat} {f0 : List Int} {f1 : Int} {f2 : Int} (h : W.heap[g]? = some (.cells #[.slice A0 f0.length c0, .int .i64 f1, .int .i64 f2] 110 (0, 0))) : W.cell? ⟨g, 1, none⟩ = some (.int .i64 f1) := (Qo h 1).trans rfl
theorem Qc.set_1 {w0 W : World} {g : Nat} {f0 : List Int} {f1 : Int} {f2 : Int} (h : Qc w0 W g f0 f1 f2) (x : Int) : Qc w0 (W.setCell ⟨g, 1, none⟩ (.int .i64 x)) g f0 x f2 := by
 obtain ⟨A0, c0, hb, hg, hr0⟩ := h
 exact ⟨A0, c0, by simpa using jGq hb 1 (.int .i64 x), hg, hr0⟩
theorem jDb {W : World} {g : Nat} {A0 : Option Addr} {c0 : Nat} {f0 : List Int} {f1 : Int} {f2 : Int} (h : W.heap[g]? = some (.cells #[.slice A0 f0.length c0, .int .i64 f1, .int .i64 f2] 110 (0, 0))) : W.cell? ⟨g, 2, none⟩ = some (.int .i64 f2) := (Qo h 2).trans rfl
theorem Qc.set_2 {w0 W : World} {g : Nat} {f0 : List Int} {f1 : Int} {f2 : Int} (h : Qc w0 W g f0 f1 f2) (x : Int) : Qc w0 (W.setCell ⟨g, 2, none⟩ (.int .i64 x)) g f0 f1 x := by
 obtain ⟨A0, c0, hb, hg, hr0⟩ := h
 exact ⟨A0, c0, by simpa using jGq hb 2 (.int .i64 x), hg, hr0⟩
def Xv.f (aD : List Int) (aC : Int) (aA : Int) : Option (Int × Int × Int) := if aC < (aD.length : Int) then (if 0 ≤ aC then (some (Go.bits .and .i64 (wrap64 ((Go.bits .and .i64 (Go.bits .xor .i64 ((wrap64 ((wrap64 (aA * 6364136223846793005)) + 1442695040888963407)) / 8589934592) ((wrap64 ((wrap64 (aA * 6364136223846793005)) + 1442695040888963407)) / 35184372088832)) 255) + (wrap64 (rd aD aC)))) 255, wrap64 (aC + 1), wrap64 ((wrap64 (aA * 6364136223846793005)) + 1442695040888963407))) else (none)) else (some (Go.bits .and .i64 (Go.bits .xor .i64 ((wrap64 ((wrap64 (aA * 6364136223846793005)) + 1442695040888963407)) / 8589934592) ((wrap64 ((wrap64 (aA * 6364136223846793005)) + 1442695040888963407)) / 35184372088832)) 255, aC, wrap64 ((wrap64 (aA * 6364136223846793005)) + 1442695040888963407)))
theorem jNz {p q : Prop} (g : p) (h : p → q := by intro zg_; repeat (first | (with_reducible first | exact zg_ | apply Qc.alloc | apply Qc.drewN | apply Qc.drew | apply Qc.set_1 | apply Qc.set_2) | exact zg_)) : q := h g
theorem jN6 {p q : Prop} (g : p) (h : p → q := by intro zg_; repeat (first | (with_reducible first | exact zg_ | apply Qg.set_ | apply Xn | apply Xj | apply Xm) | exact zg_)) : q := h g
set_option maxHeartbeats 8000000 in
set_option maxRecDepth 100000 in
theorem Xv.calls (g : Nat) (aI : List Int) (aH : Int) (aJ : Int) (r1 : Int) (r2 : Int) (r3 : Int) (w0 w : World) (hI : Qc w0 w g aI aH aJ) (hB : Below w0.heap.size w0 w) (h : Xv.f aI aH aJ = some (r1, r2, r3)) :
  Calls Try.prog 151 #[.pointer (some ⟨g, 0, none⟩)] w fun e w' => e = .returned (.int .i64 r1) ∧ Qc w0 w' g aI r2 r3 ∧ Below w0.heap.size w0 w' ∧ Qg w w' g none := by
 have HI0 := Qa.mk hI
 have HK := Qa.mk (Qg.refl w g none)
 have HL := Qa.mk hB.size
 clear hI
 have HW0 := Qa.mk hB.size
 have HB := Qa.mk hB
 clear hB
 have H := h
 unfold Xv.f at H
 clear h
 replace H := Z5 H
 rcases H with ⟨aU, H⟩ | ⟨aU, H⟩
 ·replace H := Zq H
  rcases H with ⟨bN, H⟩ | ⟨c3, H⟩
  ·simp only [Option.some.injEq, Prod.mk.injEq] at H
   obtain ⟨rfl, rfl, rfl⟩ := H
   obtain ⟨aV, aW, aD, aX, aK⟩ := HI0.out
   have aY := jDm aD
   have aZ := jDr aD
   have bA := jDb aD
   have bB := Zd aD 1
   have bC := Zd aD 2
   clear aD aX
   have aM : 0 ≤ (aH : Int) := zA
   have aN : aH < (aI.length : Int) := zA
   obtain ⟨aQ, bD, aA⟩ := Kd.at_int aK aH aM aN
   cases bD
   have aC : aQ.block ≠ g := Nat.ne_of_lt (Nat.lt_of_lt_of_le (by have := World.block_lt_of_cell? _ _ aA; first | rwa [add_block] at this | exact this) (Qc.ge HI0.out))
   replace aA := V7 HB.out aA
   replace aA := (cell_far (p := ⟨g, 2, none⟩) (by first | (rw [add_block]; exact aC) | (show (Addr.add _ _).block ≠ _; rw [add_block]; exact aC) | exact aC) (.int .i64 (wrap64 ((wrap64 (aJ * 6364136223846793005)) + 1442695040888963407)))).trans aA
   (try have aT := fun (n_ : Nat) => (show (((w.drewN n_).setCell ⟨g, 2, none⟩ (.int .i64 (wrap64 ((wrap64 (aJ * 6364136223846793005)) + 1442695040888963407))))).cell? _ = some _ from aA))
   clear aC
   replace aM := eq_true aM
   replace aN := eq_true aN
   go_enter Try.func151, Try.ntmps151
   go_wp2
   repeat (go_quiet (fail); try go_wp2)
   go_ret
   exact ⟨zE, (jNz HI0.out), zG (Qc.ge HI0.out), (jN6 HK.out)⟩
  exact absurd H (by simp)
 simp only [Option.some.injEq, Prod.mk.injEq] at H
 obtain ⟨rfl, rfl, rfl⟩ := H
 obtain ⟨bE, bF, aG, bG, bH⟩ := HI0.out
 have bI := jDm aG
 have bJ := jDr aG
 have bK := jDb aG
 have bL := Zd aG 1
 have bM := Zd aG 2
 clear aG bG
 go_enter Try.func151, Try.ntmps151
 go_wp2
 repeat (go_quiet (fail); try go_wp2)
 go_ret
 exact ⟨zE, (jNz HI0.out), zG (Qc.ge HI0.out), (jN6 HK.out)⟩
def Xc.l0 : Nat → List Int → Int → Int → Option (List Int × Int × Int)
 | 0, _, _, _ => none
 | k + 1, x0, x3, x4 => if x4 < (x0.length : Int) then (if x4 < 4000 then (if 0 ≤ x4 then (Xc.l0 k x0 (Go.bits .and .i64 (wrap64 ((wrap64 ((wrap64 (x3 * 131)) + (wrap64 (rd x0 x4)))) + 7)) 1073741823) (wrap64 (x4 + 1))) else (none)) else (some (x0, 0, x3))) else (some (x0, 0, x3))
def Xc.f (k : Nat) (l0 : List Int) : Option (List Int × Int × Int) := Xc.l0 k l0 (wrap64 (26583 + (l0.length : Int))) 0
theorem jDz {p q : Prop} (g : p) (h : p → q := by intro zg_; repeat (first | (with_reducible first | exact zg_ | apply Jq | apply Jh | apply Qt) | exact zg_)) : q := h g
theorem jNq {p q p0 : Prop} (g : p) (g0 : p0) (h : p → p0 → q := by intro zg_ aA; repeat (first | (with_reducible first | exact zg_ | apply Jq | apply Jh | apply Qt | refine Jt ?_ aA) | exact zg_)) : q := h g g0
set_option maxHeartbeats 8000000 in
set_option maxRecDepth 100000 in
theorem Xc.calls (k : Nat) (A0 : Option Addr) (c0 : Nat) (l0 : List Int) (r1 : List Int) (r2 : Int) (r3 : Int) (w0 w : World) (hB : Below w0.heap.size w0 w) (hr0 : Kd.C (Kd.int .u8) w0 A0 l0.length l0) (hc0 : l0.length ≤ c0) (h : Xc.f k l0 = some (r1, r2, r3)) :
  Calls Try.prog 81 #[.slice A0 l0.length c0] w fun e w' => ∃ g_ : Nat, e = .returned (.pointer (some ⟨g_, 0, none⟩)) ∧ Qc w0 w' g_ r1 r2 r3 ∧ Below w0.heap.size w0 w' ∧ Below w.heap.size w w' := by
 have aY := Try.underlying110
 have aV := Qa.mk hr0
 have bC := Qa.mk hc0
 clear hr0 hc0
 have HBW := Qa.mk (Below.refl w.heap.size w)
 have HW0 := Qa.mk hB.size
 have HB := Qa.mk hB
 clear hB
 have H := h
 unfold Xc.f at H
 clear h
 have H' := Qa.mk H; clear H
 go_enter Try.func81, Try.ntmps81
 go_wp2
 go_loopg [3, 4] k (fun kq v3 v4 w' => ∃ (aA : Int) (aC : Int), v3 = .int .i64 aA ∧ v4 = .int .i64 aC ∧ Qa (Xc.l0 kq l0 aA aC = some (r1, r2, r3)) ∧ Qa (kq ≤ k) ∧ Qa (Below w0.heap.size w0 w') ∧ Qa (Below w.heap.size w w'))
 case atStart => exact ⟨(wrap64 (26583 + (l0.length : Int))), (0), zF, zF, H', ⟨Nat.le_refl _⟩, ⟨zB⟩, ⟨(jDz HBW.out)⟩⟩
 case round =>
 clear H'
 obtain ⟨aA, aC, rfl, rfl, HA, aZ, HB, HBW⟩ := hrel
 cases gk with
 | zero => exact absurd HA.out (by simp [Xc.l0])
 | succ k1 =>
 have H := HA.out
 clear HA
 simp only [Xc.l0] at H
 replace H := Z5 H
 rcases H with ⟨aW, H⟩ | ⟨aW, H⟩
 ·replace H := Z5 H
  rcases H with ⟨aX, H⟩ | ⟨aX, H⟩
  ·replace H := Zq H
   rcases H with ⟨bB, H⟩ | ⟨c4, H⟩
   ·have H' := Qa.mk H; clear H
    have aK : 0 ≤ (aC : Int) := zA
    have aM : aC < (l0.length : Int) := zA
    obtain ⟨bA, e242, aD⟩ := Kd.at_int aV.out aC aK aM
    cases e242
    replace aD := V7 HB.out aD
    replace aK := eq_true aK
    replace aM := eq_true aM
    go_wp2
    go_roundg k1
    case measure => have := aZ.out; omega
    case rel => exact ⟨(Go.bits .and .i64 (wrap64 ((wrap64 ((wrap64 (aA * 131)) + (wrap64 (rd l0 aC)))) + 7)) 1073741823), (wrap64 (aC + 1)), zF, zF, H', ⟨by have := aZ.out; omega⟩, ⟨zB⟩, ⟨(jDz HBW.out)⟩⟩
   exact absurd H (by simp)
  simp only [Option.some.injEq, Prod.mk.injEq] at H
  obtain ⟨rfl, rfl, rfl⟩ := H
  go_wp2_with (first | ((with_reducible refine Qf (N := 31) rfl ?_); refine zBx (N := 31) #[.slice A0 l0.length c0, .int .i64 0, .int .i64 aA] 110 ?_; intro aG hg w5 hbox hb; have aN := Qa.mk (hbox); have aQ := Qa.mk ((by rw [hg]; exact (Ql (jDz HBW.out)) : w.heap.size ≤ aG)); have aI := Qa.mk ((Nat.le_trans HW0.out (by rw [hg]; exact (Ql (jDz HBW.out)) : w.heap.size ≤ aG) : w0.heap.size ≤ aG)); replace HBW := Qa.mk (Qz HBW.out hb); replace HB := zX hb; clear hb hbox hg))
  go_ret
  exact ⟨_, rfl, (show Qc w0 _ aG l0 0 aA from ⟨_, _, zK aN.out, aI.out, aV.out⟩), zG aI.out, (jNq HBW.out aQ.out)⟩
 simp only [Option.some.injEq, Prod.mk.injEq] at H
 obtain ⟨rfl, rfl, rfl⟩ := H
 go_wp2_with (first | ((with_reducible refine Qf (N := 31) rfl ?_); refine zBx (N := 31) #[.slice A0 l0.length c0, .int .i64 0, .int .i64 aA] 110 ?_; intro aH hg w6 hbox hb; have aT := Qa.mk (hbox); have aU := Qa.mk ((by rw [hg]; exact (Ql (jDz HBW.out)) : w.heap.size ≤ aH)); have aJ := Qa.mk ((Nat.le_trans HW0.out (by rw [hg]; exact (Ql (jDz HBW.out)) : w.heap.size ≤ aH) : w0.heap.size ≤ aH)); replace HBW := Qa.mk (Qz HBW.out hb); replace HB := zX hb; clear hb hbox hg))
 go_ret
 exact ⟨_, rfl, (show Qc w0 _ aH l0 0 aA from ⟨_, _, zK aT.out, aJ.out, aV.out⟩), zG aJ.out, (jNq HBW.out aU.out)⟩
def Jz.f (aA : List Int) (aJ : Int) (aK : Int) (a1 : Int) : Option (Int × Int × Int) := if a1 ≤ 0 then (some (0, aJ, aK)) else (if a1 ≤ 256 then ((Xv.f aA aJ aK).bind fun aC => (if a1 = 0 then (none) else (some (Int.tmod aC.1 a1, aC.2.1, aC.2.2)))) else ((Xv.f aA aJ aK).bind fun aD => ((Xv.f aA aD.2.1 aD.2.2).bind fun aG => ((Xv.f aA aG.2.1 aG.2.2).bind fun aH => ((Xv.f aA aH.2.1 aH.2.2).bind fun aI => (if a1 = 0 then (none) else (some (Int.tmod (wrap64 ((wrap64 ((wrap64 ((wrap64 (aD.1 * 16777216)) + (wrap64 (aG.1 * 65536)))) + (wrap64 (aH.1 * 256)))) + aI.1)) a1, aI.2.1, aI.2.2))))))))
theorem jBx {p q : Prop} (g : p) (h : p → q := by intro zg_; repeat (first | (with_reducible first | exact zg_ | apply Qc.alloc | apply Qc.drewN | apply Qc.drew | apply Qc.set_1 | apply Qc.set_2) | exact zg_)) : q := h g
theorem jBr {p q : Prop} (g : p) (h : p → q := by intro zg_; repeat (first | (with_reducible first | exact zg_ | apply Qg.set_ | apply Xn | apply Xj | apply Xm) | exact zg_)) : q := h g
theorem jFn {p q p0 : Prop} (g : p) (g0 : p0) (h : p → p0 → q := by intro zg_ aA; repeat (first | (with_reducible first | exact zg_ | apply Jq | apply Jh | apply Qt | refine Jt ?_ aA) | exact zg_)) : q := h g g0
set_option maxHeartbeats 8000000 in
set_option maxRecDepth 100000 in
theorem Jz.calls (g : Nat) (aD : List Int) (aG : Int) (aH : Int) (a1 : Int) (r1 : Int) (r2 : Int) (r3 : Int) (w0 w : World) (hI : Qc w0 w g aD aG aH) (hB : Below w0.heap.size w0 w) (h : Jz.f aD aG aH a1 = some (r1, r2, r3)) :
  Calls Try.prog 125 #[.pointer (some ⟨g, 0, none⟩), .int .i64 a1] w fun e w' => e = .returned (.int .i64 r1) ∧ Qc w0 w' g aD r2 r3 ∧ Below w0.heap.size w0 w' ∧ Qg w w' g none := by
 have HI0 := Qa.mk hI
 have HK := Qa.mk (Qg.refl w g none)
 have HL := Qa.mk hB.size
 clear hI
 have HW0 := Qa.mk hB.size
 have HB := Qa.mk hB
 clear hB
 have H := h
 unfold Jz.f at H
 clear h
 replace H := Z5 H
 rcases H with ⟨aT, H⟩ | ⟨aT, H⟩
 ·simp only [Option.some.injEq, Prod.mk.injEq] at H
  obtain ⟨rfl, rfl, rfl⟩ := H
  go_enter Try.func125, Try.ntmps125
  go_wp2
  go_ret
  exact ⟨zE, (jBx HI0.out), zG (Qc.ge HI0.out), (jBr HK.out)⟩
 replace H := Z5 H
 rcases H with ⟨aU, H⟩ | ⟨aU, H⟩
 ·obtain ⟨⟨aV, aW, aX⟩, A5, H⟩ := zO H
  dsimp only at H
  replace H := jKo H
  rcases H with ⟨c6, H⟩ | ⟨c6, bG, bH, H⟩
  ·exact absurd H (by simp)
  simp only [Option.some.injEq, Prod.mk.injEq] at H
  obtain ⟨rfl, rfl, rfl⟩ := H
  go_enter Try.func125, Try.ntmps125
  go_wp2_with (first | ((with_reducible refine Qb (f := 151) rfl ?_); refine zD (some 14) Try.func151 _ ((Xv.calls g aD aG aH aV aW aX w0 _ ?aA ?aC A5.out).mono ?_); (case aA => exact (jBx HI0.out)); (case aC => exact (jFn HB.out (Qc.ge HI0.out))); rintro e w7 ⟨rfl, hi, hb, hk⟩; refine ⟨_, rfl, ?_⟩; replace HK := Qa.mk (Qg.trans (jBr HK.out) hk (.inl rfl)); replace HI0 := Qa.mk (hi); replace HB := Qa.mk (hb); (try clear hb); (try clear hk); (try clear hi)))
  go_ret
  exact ⟨zE, (jBx HI0.out), zG (Qc.ge HI0.out), (jBr HK.out)⟩
 obtain ⟨⟨aY, aI, aJ⟩, A8, H⟩ := zO H
 dsimp only at H
 obtain ⟨⟨aZ, aK, aM⟩, A9, H⟩ := zO H
 dsimp only at H
 obtain ⟨⟨bA, aN, aQ⟩, bI, H⟩ := zO H
 dsimp only at H
 obtain ⟨⟨bB, bC, bD⟩, bJ, H⟩ := zO H
 dsimp only at H
 replace H := jKo H
 rcases H with ⟨c12, H⟩ | ⟨c12, bE, bF, H⟩
 ·exact absurd H (by simp)
 simp only [Option.some.injEq, Prod.mk.injEq] at H
 obtain ⟨rfl, rfl, rfl⟩ := H
 go_enter Try.func125, Try.ntmps125
 go_wp2_with (first | ((with_reducible refine Qb (f := 151) rfl ?_); refine zD (some 18) Try.func151 _ ((Xv.calls g aD aG aH aY aI aJ w0 _ ?aA ?aC A8.out).mono ?_); (case aA => exact (jBx HI0.out)); (case aC => exact (jFn HB.out (Qc.ge HI0.out))); rintro e bK ⟨rfl, hi, hb, hk⟩; refine ⟨_, rfl, ?_⟩; replace HK := Qa.mk (Qg.trans (jBr HK.out) hk (.inl rfl)); replace HI0 := Qa.mk (hi); replace HB := Qa.mk (hb); (try clear hb); (try clear hk); (try clear hi)) | ((with_reducible refine Qb (f := 151) rfl ?_); refine zD (some 20) Try.func151 _ ((Xv.calls g aD aI aJ aZ aK aM w0 _ ?aA ?aC A9.out).mono ?_); (case aA => exact (jBx HI0.out)); (case aC => exact (jFn HB.out (Qc.ge HI0.out))); rintro e bL ⟨rfl, hi, hb, hk⟩; refine ⟨_, rfl, ?_⟩; replace HK := Qa.mk (Qg.trans (jBr HK.out) hk (.inl rfl)); replace HI0 := Qa.mk (hi); replace HB := Qa.mk (hb); (try clear hb); (try clear hk); (try clear hi)) | ((with_reducible refine Qb (f := 151) rfl ?_); refine zD (some 22) Try.func151 _ ((Xv.calls g aD aK aM bA aN aQ w0 _ ?aA ?aC bI.out).mono ?_); (case aA => exact (jBx HI0.out)); (case aC => exact (jFn HB.out (Qc.ge HI0.out))); rintro e bM ⟨rfl, hi, hb, hk⟩; refine ⟨_, rfl, ?_⟩; replace HK := Qa.mk (Qg.trans (jBr HK.out) hk (.inl rfl)); replace HI0 := Qa.mk (hi); replace HB := Qa.mk (hb); (try clear hb); (try clear hk); (try clear hi)) | ((with_reducible refine Qb (f := 151) rfl ?_); refine zD (some 24) Try.func151 _ ((Xv.calls g aD aN aQ bB bC bD w0 _ ?aA ?aC bJ.out).mono ?_); (case aA => exact (jBx HI0.out)); (case aC => exact (jFn HB.out (Qc.ge HI0.out))); rintro e w16 ⟨rfl, hi, hb, hk⟩; refine ⟨_, rfl, ?_⟩; replace HK := Qa.mk (Qg.trans (jBr HK.out) hk (.inl rfl)); replace HI0 := Qa.mk (hi); replace HB := Qa.mk (hb); (try clear hb); (try clear hk); (try clear hi)))
 go_ret
 exact ⟨zE, (jBx HI0.out), zG (Qc.ge HI0.out), (jBr HK.out)⟩
def Xk.f (aC : List Int) (aD : Int) (aG : Int) (a1 : Int) : Option (Bool × Int × Int) := (Jz.f aC aD aG a1).bind fun aA => (some ((aA.1 == 0), aA.2.1, aA.2.2))
theorem jNn {p q : Prop} (g : p) (h : p → q := by intro zg_; repeat (first | (with_reducible first | exact zg_ | apply Qc.alloc | apply Qc.drewN | apply Qc.drew | apply Qc.set_1 | apply Qc.set_2) | exact zg_)) : q := h g
theorem jP3 {p q p0 : Prop} (g : p) (g0 : p0) (h : p → p0 → q := by intro zg_ aA; repeat (first | (with_reducible first | exact zg_ | apply Jq | apply Jh | apply Qt | refine Jt ?_ aA) | exact zg_)) : q := h g g0
theorem jN1 {p q : Prop} (g : p) (h : p → q := by intro zg_; repeat (first | (with_reducible first | exact zg_ | apply Qg.set_ | apply Xn | apply Xj | apply Xm) | exact zg_)) : q := h g
set_option maxHeartbeats 8000000 in
set_option maxRecDepth 100000 in
theorem Xk.calls (g : Nat) (aA : List Int) (aC : Int) (aD : Int) (a1 : Int) (r1 : Bool) (r2 : Int) (r3 : Int) (w0 w : World) (hI : Qc w0 w g aA aC aD) (hB : Below w0.heap.size w0 w) (h : Xk.f aA aC aD a1 = some (r1, r2, r3)) :
  Calls Try.prog 127 #[.pointer (some ⟨g, 0, none⟩), .int .i64 a1] w fun e w' => e = .returned (.bool r1) ∧ Qc w0 w' g aA r2 r3 ∧ Below w0.heap.size w0 w' ∧ Qg w w' g none := by
 have HI0 := Qa.mk hI
 have HK := Qa.mk (Qg.refl w g none)
 have HL := Qa.mk hB.size
 clear hI
 have HW0 := Qa.mk hB.size
 have HB := Qa.mk hB
 clear hB
 have H := h
 unfold Xk.f at H
 clear h
 obtain ⟨⟨aG, aH, aI⟩, A3, H⟩ := zO H
 replace H : (some ((aG == 0), aH, aI)) = some (r1, r2, r3) := H
 simp only [Option.some.injEq, Prod.mk.injEq] at H
 obtain ⟨rfl, rfl, rfl⟩ := H
 go_enter Try.func127, Try.ntmps127
 go_wp2_with (first | ((with_reducible refine Qb (f := 125) rfl ?_); refine zD (some 7) Try.func125 _ ((Jz.calls g aA aC aD a1 aG aH aI w0 _ ?aJ ?aK A3.out).mono ?_); (case aJ => exact (jNn HI0.out)); (case aK => exact (jP3 HB.out (Qc.ge HI0.out))); rintro e w4 ⟨rfl, hi, hb, hk⟩; refine ⟨_, rfl, ?_⟩; replace HK := Qa.mk (Qg.trans (jN1 HK.out) hk (.inl rfl)); replace HI0 := Qa.mk (hi); replace HB := Qa.mk (hb); (try clear hb); (try clear hk); (try clear hi)))
 go_ret
 exact ⟨zE, (jNn HI0.out), zG (Qc.ge HI0.out), (jN1 HK.out)⟩
def X8.f (aA : Int) (aC : Int) (aD : Int) (aG : Int) (aH : Int) (aI : Int) : Option (Int) := some (wrap64 ((wrap64 ((wrap64 (aD - aA)) * (wrap64 (aI - aC)))) - (wrap64 ((wrap64 (aG - aC)) * (wrap64 (aH - aA))))))
set_option maxHeartbeats 8000000 in
set_option maxRecDepth 100000 in
theorem X8.calls (aQ : Int) (aT : Int) (aU : Int) (aV : Int) (aW : Int) (aX : Int) (r : Int) (w : World) (h : X8.f aQ aT aU aV aW aX = some r) :
  Calls Try.prog 103 #[.agg #[.int .i64 aQ, .int .i64 aT], .agg #[.int .i64 aU, .int .i64 aV], .agg #[.int .i64 aW, .int .i64 aX]] w fun e w' => e = .returned (.int .i64 r) ∧ Below w.heap.size w w' := by
 have bU := Try.underlying83
 have HB := Qa.mk (Below.refl w.heap.size w)
 have H := h
 unfold X8.f at H
 clear h
 obtain rfl := Option.some.inj H
 go_enter Try.func103, Try.ntmps103
 go_wp2_with (first | ((with_reducible refine Qf (N := 3) rfl ?_); refine zBx (N := 3) #[.int .i64 aQ, .int .i64 aT] 83 ?_; intro bM hg w4 hbox hb; have aA := Qa.mk (hbox); have bN := zS hg; have aC := zS hg; replace HB := zX hb; clear hb hbox hg) | ((with_reducible refine Qf (N := 4) rfl ?_); refine zBx (N := 4) #[.int .i64 aU, .int .i64 aV] 83 ?_; intro bO hg w5 hbox hb; have aD := Qa.mk (hbox); have bP := zSg hg (zG aC.out); have aG := zSg hg (zG aC.out); have aH := zL hg aA.out; have aI := zLg hg aA.out; replace aA := zV aA.out hb; replace HB := zX1 aC.out hb; clear hb hbox hg) | ((with_reducible refine Qf (N := 5) rfl ?_); refine zBx (N := 5) #[.int .i64 aW, .int .i64 aX] 83 ?_; intro bQ hg w6 hbox hb; have aY := Qa.mk (hbox); have bR := zSg hg (zG2 aC.out aG.out); have aZ := zSg hg (zG2 aC.out aG.out); have aJ := zL hg aA.out; have aK := zLg hg aA.out; replace aA := zV aA.out hb; have aM := zL hg aD.out; have aN := zLg hg aD.out; replace aD := zV aD.out hb; replace HB := Qa.mk (Qz (zG2 aC.out aG.out) hb); clear hb hbox hg; have bV := aI.out; have bW := aH.out; have bX := aM.out; have bY := aN.out; obtain ⟨bI, bJ, bK, bL⟩ := zq2 aD.out; have bS := aJ.out; have bT := aK.out; obtain ⟨bA, bB, bC, bD⟩ := zq2 aA.out; obtain ⟨bE, bF, bG, bH⟩ := zq2 aY.out))
 go_ret
 exact ⟨zE, zG3 aC.out aG.out aZ.out⟩
def Vj.f (aA : Int) (aC : Int) (a1 : Int) : Option (Bool) := (Zz.f aA (wrap64 (-a1)) a1).bind fun aD => (if aD = true then ((Zz.f aC (wrap64 (-a1)) a1).bind fun aG => (some aG)) else (some false))
set_option maxHeartbeats 8000000 in
set_option maxRecDepth 100000 in
theorem Vj.calls (aA : Int) (aC : Int) (a1 : Int) (r : Bool) (w : World) (h : Vj.f aA aC a1 = some r) :
  Calls Try.prog 149 #[.agg #[.int .i64 aA, .int .i64 aC], .int .i64 a1] w fun e w' => e = .returned (.bool r) ∧ Below w.heap.size w w' := by
 have aY := Try.underlying83
 have HB := Qa.mk (Below.refl w.heap.size w)
 have H := h
 unfold Vj.f at H
 clear h
 obtain ⟨aJ, A3, H⟩ := zO H
 by_cases c4 : aJ = true
 ·subst c4
  replace H := (if_pos rfl).symm.trans H
  obtain ⟨aK, A5, H⟩ := zO H
  obtain rfl := Option.some.inj H
  go_enter Try.func149, Try.ntmps149
  go_wp2_with (first | ((with_reducible refine Qf (N := 2) rfl ?_); refine zBx (N := 2) #[.int .i64 aA, .int .i64 aC] 83 ?_; intro aH hg w6 hbox hb; have aD := Qa.mk (hbox); have aI := zS hg; have aG := zS hg; replace HB := zX hb; clear hb hbox hg; obtain ⟨aM, aN, aQ, aT⟩ := zq2 aD.out) | ((with_reducible refine Qb (f := 89) rfl ?_); refine zD (some 10) Try.func89 _ ((Zz.calls aA (wrap64 (-a1)) a1 true _ A3.out).mono ?_); rintro e w' ⟨rfl, ⟨nd, rfl⟩⟩; refine ⟨_, rfl, ?_⟩) | (go_at_call 89; (with_reducible refine (Zz.calls aC (wrap64 (-a1)) a1 aK _ A5.out).mono ?_); rintro e w' ⟨rfl, ⟨nd, rfl⟩⟩))
  go_ret
  exact ⟨zE, zG aG.out⟩
 replace c4 := Bool.eq_false_iff.mpr c4
 subst c4
 replace H := (if_neg zFf).symm.trans H
 obtain rfl := Option.some.inj H
 go_enter Try.func149, Try.ntmps149
 go_wp2_with (first | ((with_reducible refine Qf (N := 2) rfl ?_); refine zBx (N := 2) #[.int .i64 aA, .int .i64 aC] 83 ?_; intro aH hg w8 hbox hb; have aD := Qa.mk (hbox); have aI := zS hg; have aG := zS hg; replace HB := zX hb; clear hb hbox hg; obtain ⟨aU, aV, aW, aX⟩ := zq2 aD.out) | ((with_reducible refine Qb (f := 89) rfl ?_); refine zD (some 10) Try.func89 _ ((Zz.calls aA (wrap64 (-a1)) a1 false _ A3.out).mono ?_); rintro e w' ⟨rfl, ⟨nd, rfl⟩⟩; refine ⟨_, rfl, ?_⟩))
 go_ret
 exact ⟨zE, zG aG.out⟩
mutual
def Qq.l0 : Nat → List (S83) → Int → Option (Bool)
 | 0, _, _ => none
 | k + 1, x0, x3 => if x3 < (x0.length : Int) then (if 0 ≤ x3 then ((Vj.f ((Js x0 x3).f0) ((Js x0 x3).f1) 50).bind fun aA => (if aA = true then (Qq.l1 k x0 x3 0) else (some false))) else (none)) else (some true)
def Qq.l1 : Nat → List (S83) → Int → Int → Option (Bool)
 | 0, _, _, _ => none
 | k + 1, x0, x3, x4 => if x4 < x3 then (Qq.l2 k x0 x3 x4 0) else (Qq.l0 k x0 (wrap64 (x3 + 1)))
def Qq.l2 : Nat → List (S83) → Int → Int → Int → Option (Bool)
 | 0, _, _, _, _ => none
 | k + 1, x0, x3, x4, x5 => if x5 < x4 then (if 0 ≤ x5 then (if x5 < (x0.length : Int) then (if 0 ≤ x4 then (if x4 < (x0.length : Int) then (if 0 ≤ x3 then (if x3 < (x0.length : Int) then ((X8.f ((Js x0 x5).f0) ((Js x0 x5).f1) ((Js x0 x4).f0) ((Js x0 x4).f1) ((Js x0 x3).f0) ((Js x0 x3).f1)).bind fun aA => (if aA = 0 then (some false) else (Qq.l2 k x0 x3 x4 (wrap64 (x5 + 1))))) else (none)) else (none)) else (none)) else (none)) else (none)) else (none)) else (Qq.l1 k x0 x3 (wrap64 (x4 + 1)))
end
def Qq.f (k : Nat) (l0 : List (S83)) : Option (Bool) := (Zz.f (l0.length : Int) 3 7).bind fun aA => (if aA = true then (Qq.l0 k l0 0) else (some false))
def Qq.T14 : Bool × List (List Nat × List Nat) := (true, [([], []), ([], []), ([0, 1], [0, 1]), ([2], [2]), ([], []), ([], []), ([4, 5], [4, 5]), ([6], [6]), ([], []), ([], []), ([8, 9], [8, 9]), ([10], [10]), ([3, 7, 11], [3, 7, 11]), ([12], [12])])
def Qq.B14 : List Nat := [0, 0, 3, 7, 0, 0, 48, 112, 0, 0, 768, 1792, 4095, 8191]
theorem Qq.tab14 : Uc .any (opsOf Try.f101 14) = Qq.T14 := by kernel_rfl
theorem Qq.bits14 : X6 Qq.T14.2 Qq.B14 = true := by kernel_rfl
set_option maxHeartbeats 8000000 in
set_option maxRecDepth 100000 in
theorem Qq.calls (k : Nat) (A0 : Option Addr) (c0 : Nat) (l0 : List (S83)) (r : Bool) (w : World) (hr0 : Kd.C k83 w A0 l0.length l0) (hc0 : l0.length ≤ c0) (h : Qq.f k l0 = some r) :
  Calls Try.prog 101 #[.slice A0 l0.length c0] w fun e w' => e = .returned (.bool r) ∧ Below w.heap.size w w' := by
 have dF := Try.underlying83
 have bL := Qa.mk hr0
 have dG := Qa.mk hc0
 clear hr0 hc0
 have HB := Qa.mk (Below.refl w.heap.size w)
 have H := h
 unfold Qq.f at H
 clear h
 obtain ⟨cB, A2, H⟩ := zO H
 by_cases c3 : cB = true
 ·subst c3
  replace H := (if_pos rfl).symm.trans H
  have H' := Qa.mk H; clear H
  go_enter Try.func101, Try.ntmps101
  go_wp2_with (first | ((with_reducible refine Qb (f := 89) rfl ?_); refine zD (some 8) Try.func89 _ ((Zz.calls (l0.length : Int) 3 7 true _ A2.out).mono ?_); rintro e w' ⟨rfl, ⟨nd, rfl⟩⟩; refine ⟨_, rfl, ?_⟩))
  go_loopg [3] k (fun kq v3 w' => ∃ (aA : Int), v3 = .int .i64 aA ∧ Qa (Qq.l0 kq l0 aA = some r) ∧ Qa (kq ≤ k) ∧ Qa (Below w.heap.size w w'))
  case atStart => exact ⟨(0), zF, H', ⟨Nat.le_refl _⟩, ⟨zB⟩⟩
  case round =>
  clear H'
  try clear c3
  obtain ⟨aA, rfl, HA, bR, HB⟩ := hrel
  cases gk with
  | zero => exact absurd HA.out (by simp [Qq.l0])
  | succ k1 =>
  have H := HA.out
  clear HA
  simp only [Qq.l0] at H
  replace H := Z5 H
  rcases H with ⟨bM, H⟩ | ⟨bM, H⟩
  ·replace H := Zq H
   rcases H with ⟨bT, H⟩ | ⟨c5, H⟩
   ·obtain ⟨cK, A6, H⟩ := zO H
    by_cases c7 : cK = true
    ·subst c7
     replace H := (if_pos rfl).symm.trans H
     have H' := Qa.mk H; clear H
     have bA : 0 ≤ (aA : Int) := zA
     have bB : aA < (l0.length : Int) := zA
     obtain ⟨aC, bN, aQ, aT⟩ := K5 bL.out aA bA bB
     cases bN
     replace aQ := (HB.out.cell (World.block_lt_of_cell? w _ aQ)).trans aQ
     replace aT := (HB.out.cell (World.block_lt_of_cell? w _ aT)).trans aT
     replace bA := eq_true bA
     replace bB := eq_true bB
     go_wp2_with (first | ((with_reducible refine Qb (f := 149) rfl ?_); refine zD (some 20) Try.func149 _ ((Vj.calls ((Js l0 aA).f0) ((Js l0 aA).f1) 50 true _ A6.out).mono ?_); rintro e w8 ⟨rfl, hb⟩; refine ⟨_, rfl, ?_⟩; replace HB := zX hb; (try clear hb)))
     go_loopg [4] k1 (fun kq v4 w' => ∃ (aD : Int), v4 = .int .i64 aD ∧ Qa (Qq.l1 kq l0 aA aD = some r) ∧ Qa (kq ≤ k1) ∧ Qa (Below w.heap.size w w'))
     case atStart => exact ⟨(0), zF, H', ⟨Nat.le_refl _⟩, ⟨zB⟩⟩
     case round =>
     clear H'
     try clear c3
     try clear c4
     try clear bM
     try clear c5
     try clear bT
     try clear c7
     try clear aQ
     try clear aT
     try clear bA
     try clear bB
     obtain ⟨aD, rfl, HA, bS, HB⟩ := hrel
     cases gk with
     | zero => exact absurd HA.out (by simp [Qq.l1])
     | succ k2 =>
     have H := HA.out
     clear HA
     simp only [Qq.l1] at H
     replace H := Z5 H
     rcases H with ⟨bU, H⟩ | ⟨bU, H⟩
     ·have H' := Qa.mk H; clear H
      go_wp2
      go_loopg [5] k2 (fun kq v5 w' => ∃ (aN : Int), v5 = .int .i64 aN ∧ Qa (Qq.l2 kq l0 aA aD aN = some r) ∧ Qa (kq ≤ k2) ∧ Qa (Below w.heap.size w w'))
      case atStart => exact ⟨(0), zF, H', ⟨Nat.le_refl _⟩, ⟨zB⟩⟩
      case round =>
      clear H'
      try clear c3
      try clear c4
      try clear bM
      try clear c5
      try clear bT
      try clear c7
      try clear c9
      try clear bU
      try clear aQ
      try clear aT
      try clear bA
      try clear bB
      obtain ⟨aN, rfl, HA, bZ, HB⟩ := hrel
      cases gk with
      | zero => exact absurd HA.out (by simp [Qq.l2])
      | succ k3 =>
      have H := HA.out
      clear HA
      simp only [Qq.l2] at H
      replace H := Z5 H
      rcases H with ⟨bV, H⟩ | ⟨bV, H⟩
      ·replace H := Zq H
       rcases H with ⟨cO, H⟩ | ⟨c11, H⟩
       ·replace H := Zq H
        rcases H with ⟨cZ, H⟩ | ⟨c12, H⟩
        ·replace H := Zq H
         rcases H with ⟨dA, H⟩ | ⟨c13, H⟩
         ·replace H := Zq H
          rcases H with ⟨dB, H⟩ | ⟨c14, H⟩
          ·replace H := Zq H
           rcases H with ⟨dC, H⟩ | ⟨c15, H⟩
           ·replace H := Zq H
            rcases H with ⟨dD, H⟩ | ⟨c16, H⟩
            ·obtain ⟨bW, dE, H⟩ := zO H
             replace H := Zi H
             rcases H with ⟨bX, bY, H⟩ | ⟨c18, bX, bY, H⟩
             ·obtain rfl := Option.some.inj H
              try go_wp2
              replace HB := Qa.mk (Qt HB.out)
              have bC : 0 ≤ (aN : Int) := zA
              have bD : aN < (l0.length : Int) := zA
              obtain ⟨bI, bO, aG, aH⟩ := K5 bL.out aN bC bD
              have aU := aH
              have aV := aG
              obtain rfl : aC = bI := (by injection bO)
              replace aG := (HB.out.cell (World.block_lt_of_cell? w _ aG)).trans aG
              replace aH := (HB.out.cell (World.block_lt_of_cell? w _ aH)).trans aH
              replace bC := eq_true bC
              replace bD := eq_true bD
              have bE : 0 ≤ (aD : Int) := zA
              have bF : aD < (l0.length : Int) := zA
              obtain ⟨bJ, bP, aI, aJ⟩ := K5 bL.out aD bE bF
              have aW := aJ
              have aX := aI
              obtain rfl : aC = bJ := (by injection bP)
              replace aI := (HB.out.cell (World.block_lt_of_cell? w _ aI)).trans aI
              replace aJ := (HB.out.cell (World.block_lt_of_cell? w _ aJ)).trans aJ
              replace bE := eq_true bE
              replace bF := eq_true bF
              have bG : 0 ≤ (aA : Int) := zA
              have bH : aA < (l0.length : Int) := zA
              obtain ⟨bK, bQ, aK, aM⟩ := K5 bL.out aA bG bH
              have aY := aM
              have aZ := aK
              obtain rfl : aC = bK := (by injection bQ)
              replace aK := (HB.out.cell (World.block_lt_of_cell? w _ aK)).trans aK
              replace aM := (HB.out.cell (World.block_lt_of_cell? w _ aM)).trans aM
              replace bG := eq_true bG
              replace bH := eq_true bH
              refine Ya (n := 14) (S := fun w' => w'.cell? (aC.add ((aN).toNat * 2)) = some (.int .i64 ((Js l0 aN).f0)) ∧ w'.cell? ⟨(aC.add ((aN).toNat * 2)).block, (aC.add ((aN).toNat * 2)).off + 1, none⟩ = some (.int .i64 ((Js l0 aN).f1)) ∧ w'.cell? (aC.add ((aD).toNat * 2)) = some (.int .i64 ((Js l0 aD).f0)) ∧ w'.cell? ⟨(aC.add ((aD).toNat * 2)).block, (aC.add ((aD).toNat * 2)).off + 1, none⟩ = some (.int .i64 ((Js l0 aD).f1)) ∧ w'.cell? (aC.add ((aA).toNat * 2)) = some (.int .i64 ((Js l0 aA).f0)) ∧ w'.cell? ⟨(aC.add ((aA).toNat * 2)).block, (aC.add ((aA).toNat * 2)).off + 1, none⟩ = some (.int .i64 ((Js l0 aA).f1))) (ds := []) #[false, false, false, false, false, false, false, false, false, false, false, false, false, false] (by kernel_rfl) rfl rfl ⟨((HB.out.cell (World.block_lt_of_cell? w _ aV)).trans aV), ((HB.out.cell (World.block_lt_of_cell? w _ aU)).trans aU), ((HB.out.cell (World.block_lt_of_cell? w _ aX)).trans aX), ((HB.out.cell (World.block_lt_of_cell? w _ aW)).trans aW), ((HB.out.cell (World.block_lt_of_cell? w _ aZ)).trans aZ), ((HB.out.cell (World.block_lt_of_cell? w _ aY)).trans aY)⟩ (fun hHeld => ?_); refine Z0 Qq.tab14 Qq.bits14 (fun HT_ HW_ => ?_)
              generalize wr.drew = dH at HB aG aH aI aJ aK aM hHeld ⊢
              refine zP 0 (some 32) rfl rfl ?_
              refine zP 1 (some 33) rfl rfl ?_
              refine zP 2 (some 34) rfl rfl ?_
              refine zP 4 (some 36) rfl rfl ?_
              refine zP 5 (some 37) rfl rfl ?_
              refine zP 6 (some 38) rfl rfl ?_
              refine zP 8 (some 40) rfl rfl ?_
              refine zP 9 (some 41) rfl rfl ?_
              refine zP 10 (some 42) rfl rfl ?_
              refine zY6 3 (some 35) rfl rfl hHeld ?_
              refine zY6 7 (some 39) rfl rfl hHeld ?_
              refine zY6 11 (some 43) rfl rfl hHeld ?_
              refine zU 12 (some 44) rfl rfl (fun K hK => ?_)
              refine Xx Try.func103 (by kernel_rfl) rfl #[.agg #[.int .i64 ((Js l0 aN).f0), .int .i64 ((Js l0 aN).f1)], .agg #[.int .i64 ((Js l0 aD).f0), .int .i64 ((Js l0 aD).f1)], .agg #[.int .i64 ((Js l0 aA).f0), .int .i64 ((Js l0 aA).f1)]] (by rfl) rfl rfl zM ?_
              with_reducible refine (X8.calls ((Js l0 aN).f0) ((Js l0 aN).f1) ((Js l0 aD).f0) ((Js l0 aD).f1) ((Js l0 aA).f0) ((Js l0 aA).f1) bW _ dE.out).mono ?_
              rintro e dI ⟨rfl, hb⟩
              refine ⟨_, rfl, ?_⟩
              replace HB := zX hb
              (try clear hb)
              refine hK.out _ _ ⟨((HB.out.cell (World.block_lt_of_cell? w _ aV)).trans aV), ((HB.out.cell (World.block_lt_of_cell? w _ aU)).trans aU), ((HB.out.cell (World.block_lt_of_cell? w _ aX)).trans aX), ((HB.out.cell (World.block_lt_of_cell? w _ aW)).trans aW), ((HB.out.cell (World.block_lt_of_cell? w _ aZ)).trans aZ), ((HB.out.cell (World.block_lt_of_cell? w _ aY)).trans aY)⟩ (fun hHeld => ?_)
              clear hK K
              refine zN ?_
              refine zP 13 (some 45) rfl rfl ?_
              refine Vh (Xu HT_.out (by kernel_rfl)) ?_
              try go_wp2
              go_ret
              exact ⟨zE, zB⟩
             have H' := Qa.mk H; clear H
             try go_wp2
             replace HB := Qa.mk (Qt HB.out)
             have bC : 0 ≤ (aN : Int) := zA
             have bD : aN < (l0.length : Int) := zA
             obtain ⟨bI, bO, aG, aH⟩ := K5 bL.out aN bC bD
             have aU := aH
             have aV := aG
             obtain rfl : aC = bI := (by injection bO)
             replace aG := (HB.out.cell (World.block_lt_of_cell? w _ aG)).trans aG
             replace aH := (HB.out.cell (World.block_lt_of_cell? w _ aH)).trans aH
             replace bC := eq_true bC
             replace bD := eq_true bD
             have bE : 0 ≤ (aD : Int) := zA
             have bF : aD < (l0.length : Int) := zA
             obtain ⟨bJ, bP, aI, aJ⟩ := K5 bL.out aD bE bF
             have aW := aJ
             have aX := aI
             obtain rfl : aC = bJ := (by injection bP)
             replace aI := (HB.out.cell (World.block_lt_of_cell? w _ aI)).trans aI
             replace aJ := (HB.out.cell (World.block_lt_of_cell? w _ aJ)).trans aJ
             replace bE := eq_true bE
             replace bF := eq_true bF
             have bG : 0 ≤ (aA : Int) := zA
             have bH : aA < (l0.length : Int) := zA
             obtain ⟨bK, bQ, aK, aM⟩ := K5 bL.out aA bG bH
             have aY := aM
             have aZ := aK
             obtain rfl : aC = bK := (by injection bQ)
             replace aK := (HB.out.cell (World.block_lt_of_cell? w _ aK)).trans aK
             replace aM := (HB.out.cell (World.block_lt_of_cell? w _ aM)).trans aM
             replace bG := eq_true bG
             replace bH := eq_true bH
             refine Ya (n := 14) (S := fun w' => w'.cell? (aC.add ((aN).toNat * 2)) = some (.int .i64 ((Js l0 aN).f0)) ∧ w'.cell? ⟨(aC.add ((aN).toNat * 2)).block, (aC.add ((aN).toNat * 2)).off + 1, none⟩ = some (.int .i64 ((Js l0 aN).f1)) ∧ w'.cell? (aC.add ((aD).toNat * 2)) = some (.int .i64 ((Js l0 aD).f0)) ∧ w'.cell? ⟨(aC.add ((aD).toNat * 2)).block, (aC.add ((aD).toNat * 2)).off + 1, none⟩ = some (.int .i64 ((Js l0 aD).f1)) ∧ w'.cell? (aC.add ((aA).toNat * 2)) = some (.int .i64 ((Js l0 aA).f0)) ∧ w'.cell? ⟨(aC.add ((aA).toNat * 2)).block, (aC.add ((aA).toNat * 2)).off + 1, none⟩ = some (.int .i64 ((Js l0 aA).f1))) (ds := []) #[false, false, false, false, false, false, false, false, false, false, false, false, false, false] (by kernel_rfl) rfl rfl ⟨((HB.out.cell (World.block_lt_of_cell? w _ aV)).trans aV), ((HB.out.cell (World.block_lt_of_cell? w _ aU)).trans aU), ((HB.out.cell (World.block_lt_of_cell? w _ aX)).trans aX), ((HB.out.cell (World.block_lt_of_cell? w _ aW)).trans aW), ((HB.out.cell (World.block_lt_of_cell? w _ aZ)).trans aZ), ((HB.out.cell (World.block_lt_of_cell? w _ aY)).trans aY)⟩ (fun hHeld => ?_); refine Z0 Qq.tab14 Qq.bits14 (fun HT_ HW_ => ?_)
             generalize wr.drew = dJ at HB aG aH aI aJ aK aM hHeld ⊢
             refine zP 0 (some 32) rfl rfl ?_
             refine zP 1 (some 33) rfl rfl ?_
             refine zP 2 (some 34) rfl rfl ?_
             refine zP 4 (some 36) rfl rfl ?_
             refine zP 5 (some 37) rfl rfl ?_
             refine zP 6 (some 38) rfl rfl ?_
             refine zP 8 (some 40) rfl rfl ?_
             refine zP 9 (some 41) rfl rfl ?_
             refine zP 10 (some 42) rfl rfl ?_
             refine zY6 3 (some 35) rfl rfl hHeld ?_
             refine zY6 7 (some 39) rfl rfl hHeld ?_
             refine zY6 11 (some 43) rfl rfl hHeld ?_
             refine zU 12 (some 44) rfl rfl (fun K hK => ?_)
             refine Xx Try.func103 (by kernel_rfl) rfl #[.agg #[.int .i64 ((Js l0 aN).f0), .int .i64 ((Js l0 aN).f1)], .agg #[.int .i64 ((Js l0 aD).f0), .int .i64 ((Js l0 aD).f1)], .agg #[.int .i64 ((Js l0 aA).f0), .int .i64 ((Js l0 aA).f1)]] (by rfl) rfl rfl zM ?_
             with_reducible refine (X8.calls ((Js l0 aN).f0) ((Js l0 aN).f1) ((Js l0 aD).f0) ((Js l0 aD).f1) ((Js l0 aA).f0) ((Js l0 aA).f1) bW _ dE.out).mono ?_
             rintro e dK ⟨rfl, hb⟩
             refine ⟨_, rfl, ?_⟩
             replace HB := zX hb
             (try clear hb)
             refine hK.out _ _ ⟨((HB.out.cell (World.block_lt_of_cell? w _ aV)).trans aV), ((HB.out.cell (World.block_lt_of_cell? w _ aU)).trans aU), ((HB.out.cell (World.block_lt_of_cell? w _ aX)).trans aX), ((HB.out.cell (World.block_lt_of_cell? w _ aW)).trans aW), ((HB.out.cell (World.block_lt_of_cell? w _ aZ)).trans aZ), ((HB.out.cell (World.block_lt_of_cell? w _ aY)).trans aY)⟩ (fun hHeld => ?_)
             clear hK K
             refine zN ?_
             refine zP 13 (some 45) rfl rfl ?_
             refine Vh (Xu HT_.out (by kernel_rfl)) ?_
             try go_wp2
             go_roundg k3
             case measure => have := bR.out; have := bS.out; have := bZ.out; omega
             case rel => exact ⟨(wrap64 (aN + 1)), zF, H', ⟨by have := bR.out; have := bS.out; have := bZ.out; omega⟩, ⟨zB⟩⟩
            exact absurd H (by simp)
           exact absurd H (by simp)
          exact absurd H (by simp)
         exact absurd H (by simp)
        exact absurd H (by simp)
       exact absurd H (by simp)
      have H' := Qa.mk H; clear H
      go_wp2
      go_roundg k3
      case measure => have := bR.out; have := bS.out; have := bZ.out; omega
      case rel => exact ⟨(wrap64 (aD + 1)), zF, H', ⟨by have := bR.out; have := bS.out; have := bZ.out; omega⟩, ⟨zB⟩⟩
     have H' := Qa.mk H; clear H
     go_wp2
     go_roundg k2
     case measure => have := bR.out; have := bS.out; omega
     case rel => exact ⟨(wrap64 (aA + 1)), zF, H', ⟨by have := bR.out; have := bS.out; omega⟩, ⟨zB⟩⟩
    replace c7 := Bool.eq_false_iff.mpr c7
    subst c7
    replace H := (if_neg zFf).symm.trans H
    obtain rfl := Option.some.inj H
    have bA : 0 ≤ (aA : Int) := zA
    have bB : aA < (l0.length : Int) := zA
    obtain ⟨aC, bN, aQ, aT⟩ := K5 bL.out aA bA bB
    cases bN
    replace aQ := (HB.out.cell (World.block_lt_of_cell? w _ aQ)).trans aQ
    replace aT := (HB.out.cell (World.block_lt_of_cell? w _ aT)).trans aT
    replace bA := eq_true bA
    replace bB := eq_true bB
    go_wp2_with (first | ((with_reducible refine Qb (f := 149) rfl ?_); refine zD (some 20) Try.func149 _ ((Vj.calls ((Js l0 aA).f0) ((Js l0 aA).f1) 50 false _ A6.out).mono ?_); rintro e dL ⟨rfl, hb⟩; refine ⟨_, rfl, ?_⟩; replace HB := zX hb; (try clear hb)))
    go_ret
    exact ⟨zE, zB⟩
   exact absurd H (by simp)
  obtain rfl := Option.some.inj H
  go_wp2
  go_ret
  exact ⟨zE, zB⟩
 replace c3 := Bool.eq_false_iff.mpr c3
 subst c3
 replace H := (if_neg zFf).symm.trans H
 obtain rfl := Option.some.inj H
 go_enter Try.func101, Try.ntmps101
 go_wp2_with (first | ((with_reducible refine Qb (f := 89) rfl ?_); refine zD (some 8) Try.func89 _ ((Zz.calls (l0.length : Int) 3 7 false _ A2.out).mono ?_); rintro e w' ⟨rfl, ⟨nd, rfl⟩⟩; refine ⟨_, rfl, ?_⟩))
 go_ret
 exact ⟨zE, zB⟩
mutual
def Q8.l0 : Nat → List (S83) → Int → Int → ByteArray → Option (Int × ByteArray × Bool)
 | 0, _, _, _, _ => none
 | k + 1, x0, x5, aA, aC => if x5 < (x0.length : Int) then (Q8.l1 k x0 x5 (wrap64 (x5 + 1)) aA aC) else (some (aA, aC, true))
def Q8.l1 : Nat → List (S83) → Int → Int → Int → ByteArray → Option (Int × ByteArray × Bool)
 | 0, _, _, _, _, _ => none
 | k + 1, x0, x5, x6, aA, aC => if x6 < (x0.length : Int) then (Q8.l2 k x0 x5 x6 (wrap64 (x6 + 1)) aA aC) else (Q8.l0 k x0 (wrap64 (x5 + 1)) aA aC)
def Q8.l2 : Nat → List (S83) → Int → Int → Int → Int → ByteArray → Option (Int × ByteArray × Bool)
 | 0, _, _, _, _, _, _ => none
 | k + 1, x0, x5, x6, x7, aC, aA => if x7 < (x0.length : Int) then (if 0 ≤ x5 then (if x5 < (x0.length : Int) then (if 0 ≤ x6 then (if x6 < (x0.length : Int) then (if 0 ≤ x7 then ((X8.f ((Js x0 x5).f0) ((Js x0 x5).f1) ((Js x0 x6).f0) ((Js x0 x6).f1) ((Js x0 x7).f0) ((Js x0 x7).f1)).bind fun aG => ((Xd.f aG).bind fun aD => (if aA.size + aD.size ≤ 9223372036854775807 then (Q8.l2 k x0 x5 x6 (wrap64 (x7 + 1)) aC (aA ++ aD)) else (none)))) else (none)) else (none)) else (none)) else (none)) else (none)) else (Q8.l1 k x0 x5 (wrap64 (x6 + 1)) aC aA)
end
def Q8.f (k : Nat) (l0 : List (S83)) : Option (Int × ByteArray × Bool) := (Qq.f k l0).bind fun aA => (if aA = true then (Q8.l0 k l0 0 (l0.length : Int) (⟨#[]⟩ : ByteArray)) else (some (0, (⟨#[]⟩ : ByteArray), false)))
def Q8.T13 : Bool × List (List Nat × List Nat) := (true, [([], []), ([0], [0]), ([], []), ([], []), ([2, 3], [2, 3]), ([4], [4]), ([], []), ([], []), ([6, 7], [6, 7]), ([8], [8]), ([], []), ([], []), ([10, 11], [10, 11]), ([12], [12]), ([5, 9, 13], [5, 9, 13]), ([14, 14], [14]), ([1, 15], [1, 15]), ([0, 1, 2, 3, 4, 5, 6, 7, 8, 9, 10, 11, 12, 13, 14, 15, 16], []), ([17, 16, 15, 0, 1, 2, 3, 4, 5, 6, 7, 8, 9, 10, 11, 12, 13, 14, 15, 16], [16, 17])])
def Q8.B13 : List Nat := [0, 1, 0, 0, 12, 28, 0, 0, 192, 448, 0, 0, 3072, 7168, 16380, 32764, 65535, 131071, 262143]
theorem Q8.tab13 : Uc .any (opsOf Try.f27 13) = Q8.T13 := by kernel_rfl
theorem Q8.bits13 : X6 Q8.T13.2 Q8.B13 = true := by kernel_rfl
set_option maxHeartbeats 8000000 in
set_option maxRecDepth 100000 in
theorem Q8.calls (k : Nat) (A0 : Option Addr) (c0 : Nat) (l0 : List (S83)) (r1 : Int) (r2 : ByteArray) (r3 : Bool) (w : World) (hr0 : Kd.C k83 w A0 l0.length l0) (hc0 : l0.length ≤ c0) (h : Q8.f k l0 = some (r1, r2, r3)) :
  Calls Try.prog 27 #[.slice A0 l0.length c0] w fun e w' => e = .returned (.tuple #[.agg #[.int .i64 r1, .string r2], .bool r3]) ∧ Below w.heap.size w w' := by
 have eQ := Try.underlying25
 have eT := Try.underlying83
 have cK := Qa.mk hr0
 have dU := Qa.mk hc0
 clear hr0 hc0
 have HB := Qa.mk (Below.refl w.heap.size w)
 have H := h
 unfold Q8.f at H
 clear h
 obtain ⟨dR, A2, H⟩ := zO H
 by_cases c3 : dR = true
 ·subst c3
  replace H := (if_pos rfl).symm.trans H
  have H' := Qa.mk H; clear H
  go_enter Try.func27, Try.ntmps27
  go_wp2_with (first | ((with_reducible refine Qf (N := 2) rfl ?_); refine zBx (N := 2) #[.int .i64 0, .string (⟨#[]⟩ : ByteArray)] 25 ?_; intro bH hg w4 hbox hb; have aA := Qa.mk (hbox); have cO := zS hg; have aH := zS hg; replace HB := zX hb; clear hb hbox hg) | ((with_reducible refine Qb (f := 101) rfl ?_); refine zD (some 9) Try.func101 #[.slice A0 l0.length c0] ((Qq.calls k _ _ l0 true _ ?bN ?bO A2.out).mono ?_); (case bN => exact zc (Kd.C_below cK.out HB.out)); (case bO => exact dU.out); rintro e w5 ⟨rfl, hb⟩; refine ⟨_, rfl, ?_⟩; replace aA := zV aA.out hb; replace HB := zX1 aH.out hb; (try clear hb)) | ((with_reducible refine Qf (N := 4) rfl ?_); refine zBx (N := 4) #[.int .i64 0, .string (⟨#[]⟩ : ByteArray)] 25 ?_; intro bI hg w6 hbox hb; have aC := Qa.mk (hbox); have dV := zSg hg (zG aH.out); have bG := zSg hg (zG aH.out); have aG := zL hg aA.out; have bF := zLg hg aA.out; replace aA := zV aA.out hb; replace HB := zX1 aH.out hb; clear hb hbox hg; have eU := bF.out; have eX := aG.out; obtain ⟨bJ, bK, bL, bM⟩ := zq2 aC.out))
  go_loopg [5] k (fun kq v5 w' => ∃ (aK : Int) (aI : ByteArray), v5 = .int .i64 aK ∧ Qa (Q8.l0 kq l0 aK (l0.length : Int) aI = some (r1, r2, r3)) ∧ Qa (kq ≤ k) ∧ Qa (w'.heap[bH]? = some (.cells #[.int .i64 0, .string (⟨#[]⟩ : ByteArray)] 25 (0, 0))) ∧ Qa (w'.heap[bI]? = some (.cells #[.int .i64 (l0.length : Int), .string aI] 25 (0, 0))) ∧ Qa (Below w.heap.size w w'))
  case atStart => exact ⟨(0), ((⟨#[]⟩ : ByteArray)), zF, H', ⟨Nat.le_refl _⟩, ⟨zk2 aA.out aG.out aG.out⟩, ⟨zk0 aC.out⟩, ⟨zG2 aH.out bG.out⟩⟩
  case round =>
  clear H'
  try clear c3
  try clear bJ
  try clear bK
  try clear bL
  try clear bM
  obtain ⟨aK, aI, rfl, HA, bZ, aA, aC, HB⟩ := hrel
  cases gk with
  | zero => exact absurd HA.out (by simp [Q8.l0])
  | succ k1 =>
  have H := HA.out
  clear HA
  simp only [Q8.l0] at H
  replace H := Z5 H
  rcases H with ⟨bQ, H⟩ | ⟨bQ, H⟩
  ·have H' := Qa.mk H; clear H
   go_wp2
   go_loopg [6] k1 (fun kq v6 w' => ∃ (aM : Int) (aJ : ByteArray), v6 = .int .i64 aM ∧ Qa (Q8.l1 kq l0 aK aM (l0.length : Int) aJ = some (r1, r2, r3)) ∧ Qa (kq ≤ k1) ∧ Qa (w'.heap[bH]? = some (.cells #[.int .i64 0, .string (⟨#[]⟩ : ByteArray)] 25 (0, 0))) ∧ Qa (w'.heap[bI]? = some (.cells #[.int .i64 (l0.length : Int), .string aJ] 25 (0, 0))) ∧ Qa (Below w.heap.size w w'))
   case atStart => exact ⟨(wrap64 (aK + 1)), (aI), zF, H', ⟨Nat.le_refl _⟩, ⟨zK aA.out⟩, ⟨zK aC.out⟩, ⟨zG2 aH.out bG.out⟩⟩
   case round =>
   clear H'
   try clear c3
   try clear c9
   try clear bQ
   try clear bJ
   try clear bK
   try clear bL
   try clear bM
   obtain ⟨aM, aJ, rfl, HA, cB, aA, aC, HB⟩ := hrel
   cases gk with
   | zero => exact absurd HA.out (by simp [Q8.l1])
   | succ k2 =>
   have H := HA.out
   clear HA
   simp only [Q8.l1] at H
   replace H := Z5 H
   rcases H with ⟨bP, H⟩ | ⟨bP, H⟩
   ·have H' := Qa.mk H; clear H
    go_wp2
    go_loopg [7] k2 (fun kq v7 w' => ∃ (aY : Int) (aD : ByteArray), v7 = .int .i64 aY ∧ Qa (Q8.l2 kq l0 aK aM aY (l0.length : Int) aD = some (r1, r2, r3)) ∧ Qa (kq ≤ k2) ∧ Qa (w'.heap[bH]? = some (.cells #[.int .i64 0, .string (⟨#[]⟩ : ByteArray)] 25 (0, 0))) ∧ Qa (w'.heap[bI]? = some (.cells #[.int .i64 (l0.length : Int), .string aD] 25 (0, 0))) ∧ Qa (Below w.heap.size w w'))
    case atStart => exact ⟨(wrap64 (aM + 1)), (aJ), zF, H', ⟨Nat.le_refl _⟩, ⟨zK aA.out⟩, ⟨zK aC.out⟩, ⟨zG2 aH.out bG.out⟩⟩
    case round =>
    clear H'
    try clear c3
    try clear c9
    try clear bQ
    try clear c10
    try clear bP
    try clear bJ
    try clear bK
    try clear bL
    try clear bM
    obtain ⟨aY, aD, rfl, HA, dC, aA, aC, HB⟩ := hrel
    cases gk with
    | zero => exact absurd HA.out (by simp [Q8.l2])
    | succ k3 =>
    have H := HA.out
    clear HA
    simp only [Q8.l2] at H
    replace H := Z5 H
    rcases H with ⟨cZ, H⟩ | ⟨cZ, H⟩
    ·replace H := Zq H
     rcases H with ⟨dW, H⟩ | ⟨c12, H⟩
     ·replace H := Zq H
      rcases H with ⟨dX, H⟩ | ⟨c13, H⟩
      ·replace H := Zq H
       rcases H with ⟨dY, H⟩ | ⟨c14, H⟩
       ·replace H := Zq H
        rcases H with ⟨dZ, H⟩ | ⟨c15, H⟩
        ·replace H := Zq H
         rcases H with ⟨eB, H⟩ | ⟨c16, H⟩
         ·obtain ⟨bR, eY, H⟩ := zO H
          obtain ⟨bS, eZ, H⟩ := zO H
          replace H := U1 H
          rcases H with ⟨c19, eD, eF, H⟩ | ⟨c19, H⟩
          ·try have eG : (9223372036854775807 < aD.size + bS.size) = False := eq_false (Nat.not_lt.2 c19)
           have H' := Qa.mk H; clear H
           try go_wp2
           replace aA := Qa.mk (Jo aA.out)
           replace aC := Qa.mk (Jo aC.out)
           replace HB := Qa.mk (Qt HB.out)
           have bT : 0 ≤ (aK : Int) := zA
           have bU : aK < (l0.length : Int) := zA
           obtain ⟨aN, dS, aZ, bA⟩ := K5 cK.out aK bT bU
           have aQ := bA
           have aT := aZ
           cases dS
           replace aZ := (HB.out.cell (World.block_lt_of_cell? w _ aZ)).trans aZ
           replace bA := (HB.out.cell (World.block_lt_of_cell? w _ bA)).trans bA
           replace bT := eq_true bT
           replace bU := eq_true bU
           have bV : 0 ≤ (aM : Int) := zA
           have bW : aM < (l0.length : Int) := zA
           obtain ⟨dA, e152, bB, bC⟩ := K5 cK.out aM bV bW
           have aU := bC
           have aV := bB
           obtain rfl : aN = dA := (by injection e152)
           replace bB := (HB.out.cell (World.block_lt_of_cell? w _ bB)).trans bB
           replace bC := (HB.out.cell (World.block_lt_of_cell? w _ bC)).trans bC
           replace bV := eq_true bV
           replace bW := eq_true bW
           have bX : 0 ≤ (aY : Int) := zA
           have bY : aY < (l0.length : Int) := zA
           obtain ⟨dB, e153, bD, bE⟩ := K5 cK.out aY bX bY
           have aW := bE
           have aX := bD
           obtain rfl : aN = dB := (by injection e153)
           replace bD := (HB.out.cell (World.block_lt_of_cell? w _ bD)).trans bD
           replace bE := (HB.out.cell (World.block_lt_of_cell? w _ bE)).trans bE
           replace bX := eq_true bX
           replace bY := eq_true bY
           refine Ya (n := 19) (S := fun w' => w'.cell? ⟨bI, 0, none⟩ = some (.int .i64 (l0.length : Int)) ∧ w'.cell? ⟨bI, 1, none⟩ = some (.string aD) ∧ w'.cell? (aN.add ((aK).toNat * 2)) = some (.int .i64 ((Js l0 aK).f0)) ∧ w'.cell? ⟨(aN.add ((aK).toNat * 2)).block, (aN.add ((aK).toNat * 2)).off + 1, none⟩ = some (.int .i64 ((Js l0 aK).f1)) ∧ w'.cell? (aN.add ((aM).toNat * 2)) = some (.int .i64 ((Js l0 aM).f0)) ∧ w'.cell? ⟨(aN.add ((aM).toNat * 2)).block, (aN.add ((aM).toNat * 2)).off + 1, none⟩ = some (.int .i64 ((Js l0 aM).f1)) ∧ w'.cell? (aN.add ((aY).toNat * 2)) = some (.int .i64 ((Js l0 aY).f0)) ∧ w'.cell? ⟨(aN.add ((aY).toNat * 2)).block, (aN.add ((aY).toNat * 2)).off + 1, none⟩ = some (.int .i64 ((Js l0 aY).f1))) (ds := [18]) #[false, false, false, false, false, false, false, false, false, false, false, false, false, false, false, false, false, false, false] (by kernel_rfl) rfl rfl ⟨(Qo aC.out 0).trans rfl, (Qo aC.out 1).trans rfl, ((HB.out.cell (World.block_lt_of_cell? w _ aT)).trans aT), ((HB.out.cell (World.block_lt_of_cell? w _ aQ)).trans aQ), ((HB.out.cell (World.block_lt_of_cell? w _ aV)).trans aV), ((HB.out.cell (World.block_lt_of_cell? w _ aU)).trans aU), ((HB.out.cell (World.block_lt_of_cell? w _ aX)).trans aX), ((HB.out.cell (World.block_lt_of_cell? w _ aW)).trans aW)⟩ (fun hHeld => ?_); refine Z0 Q8.tab13 Q8.bits13 (fun HT_ HW_ => ?_)
           generalize wr.drew = fC at aA aC HB aZ bA bB bC bD bE hHeld ⊢
           refine zP 0 (some 37) rfl rfl ?_
           refine zP 2 (some 39) rfl rfl ?_
           refine zP 3 (some 40) rfl rfl ?_
           refine zP 4 (some 41) rfl rfl ?_
           refine zP 6 (some 43) rfl rfl ?_
           refine zP 7 (some 44) rfl rfl ?_
           refine zP 8 (some 45) rfl rfl ?_
           refine zP 10 (some 47) rfl rfl ?_
           refine zP 11 (some 48) rfl rfl ?_
           refine zP 12 (some 49) rfl rfl ?_
           refine zY8 1 (some 38) rfl rfl hHeld ?_
           refine zY8 5 (some 42) rfl rfl hHeld ?_
           refine zY8 9 (some 46) rfl rfl hHeld ?_
           refine zY8 13 (some 50) rfl rfl hHeld ?_
           refine zU 14 (some 51) rfl rfl (fun K hK => ?_)
           refine Xx Try.func103 (by kernel_rfl) rfl #[.agg #[.int .i64 ((Js l0 aK).f0), .int .i64 ((Js l0 aK).f1)], .agg #[.int .i64 ((Js l0 aM).f0), .int .i64 ((Js l0 aM).f1)], .agg #[.int .i64 ((Js l0 aY).f0), .int .i64 ((Js l0 aY).f1)]] (by rfl) rfl rfl zM ?_
           with_reducible refine (X8.calls ((Js l0 aK).f0) ((Js l0 aK).f1) ((Js l0 aM).f0) ((Js l0 aM).f1) ((Js l0 aY).f0) ((Js l0 aY).f1) bR _ eY.out).mono ?_
           rintro e fA ⟨rfl, hb⟩
           refine ⟨_, rfl, ?_⟩
           replace aA := zV aA.out hb
           replace aC := zV aC.out hb
           replace HB := Qa.mk (Qz (zG2 aH.out bG.out) hb)
           (try clear hb)
           refine hK.out _ _ ⟨(Qo aC.out 0).trans rfl, (Qo aC.out 1).trans rfl, ((HB.out.cell (World.block_lt_of_cell? w _ aT)).trans aT), ((HB.out.cell (World.block_lt_of_cell? w _ aQ)).trans aQ), ((HB.out.cell (World.block_lt_of_cell? w _ aV)).trans aV), ((HB.out.cell (World.block_lt_of_cell? w _ aU)).trans aU), ((HB.out.cell (World.block_lt_of_cell? w _ aX)).trans aX), ((HB.out.cell (World.block_lt_of_cell? w _ aW)).trans aW)⟩ (fun hHeld => ?_)
           clear hK K
           refine zN ?_
           refine zU 15 (some 52) rfl rfl (fun K hK => ?_)
           refine Xx Try.func102 (by kernel_rfl) rfl #[.int .i64 bR] (by rfl) rfl rfl zM ?_
           with_reducible refine (Xd.calls bR bS _ eZ.out).mono ?_
           rintro e w' ⟨rfl, ⟨nd, rfl⟩⟩
           refine ⟨_, rfl, ?_⟩
           refine hK.out _ _ ⟨(Qo aC.out 0).trans rfl, (Qo aC.out 1).trans rfl, ((HB.out.cell (World.block_lt_of_cell? w _ aT)).trans aT), ((HB.out.cell (World.block_lt_of_cell? w _ aQ)).trans aQ), ((HB.out.cell (World.block_lt_of_cell? w _ aV)).trans aV), ((HB.out.cell (World.block_lt_of_cell? w _ aU)).trans aU), ((HB.out.cell (World.block_lt_of_cell? w _ aX)).trans aX), ((HB.out.cell (World.block_lt_of_cell? w _ aW)).trans aW)⟩ (fun hHeld => ?_)
           clear hK K
           refine zN ?_
           refine zP 16 (some 53) rfl rfl ?_
           refine zP 17 (some 54) rfl rfl ?_
           refine jJs (i := 18) (N := none) #[true, true, true, true, true, true, true, true, true, true, true, true, true, true, true, true, true, true, true] rfl rfl (jHq HT_.out (by kernel_rfl)) (by decide) (fun K hK => ?_)
           have fB : fA.cell? ⟨bI, 1, none⟩ = some (.string aD) := (Qo aC.out 1).trans rfl
           have eH := Zd aC.out 1
           have dD := aG.out
           have dE := bF.out
           refine jEr (w1 := ?_) (by rfl) rfl ?_ ?_
           rotate_left
           ·go_simp
            rfl
           refine hK.out _ _ ?_
           clear hK K
           refine Vh (Xu HT_.out (by kernel_rfl)) ?_
           try go_wp2
           go_roundg k3
           case measure => have := bZ.out; have := cB.out; have := dC.out; omega
           case rel => exact ⟨(wrap64 (aY + 1)), (aD ++ bS), zF, H', ⟨by have := bZ.out; have := cB.out; have := dC.out; omega⟩, ⟨zk1 aA.out aG.out⟩, ⟨zk0 aC.out⟩, ⟨zG2 aH.out bG.out⟩⟩
          exact absurd H (by simp)
         exact absurd H (by simp)
        exact absurd H (by simp)
       exact absurd H (by simp)
      exact absurd H (by simp)
     exact absurd H (by simp)
    have H' := Qa.mk H; clear H
    go_wp2
    go_roundg k3
    case measure => have := bZ.out; have := cB.out; have := dC.out; omega
    case rel => exact ⟨(wrap64 (aM + 1)), (aD), zF, H', ⟨by have := bZ.out; have := cB.out; have := dC.out; omega⟩, ⟨zK aA.out⟩, ⟨zK aC.out⟩, ⟨zG2 aH.out bG.out⟩⟩
   have H' := Qa.mk H; clear H
   go_wp2
   go_roundg k2
   case measure => have := bZ.out; have := cB.out; omega
   case rel => exact ⟨(wrap64 (aK + 1)), (aJ), zF, H', ⟨by have := bZ.out; have := cB.out; omega⟩, ⟨zK aA.out⟩, ⟨zK aC.out⟩, ⟨zG2 aH.out bG.out⟩⟩
  simp only [Option.some.injEq, Prod.mk.injEq] at H
  obtain ⟨rfl, rfl, rfl⟩ := H
  have eO := bF.out
  have eP := aG.out
  obtain ⟨dF, dG, dH, dI⟩ := zq2 aC.out
  obtain ⟨dJ, dK, dL, dM⟩ := zq2 aA.out
  go_wp2
  refine bodyPost_ret (Uj rfl _ _ bH 25 #[.int .i64 (l0.length : Int), .string aI] (0, 0) _ rfl (zk0 aA.out) Try.underlying25 rfl (by kernel_rfl)) rfl ?_
  exact ⟨zE, zG2 aH.out bG.out⟩
 replace c3 := Bool.eq_false_iff.mpr c3
 subst c3
 replace H := (if_neg zFf).symm.trans H
 simp only [Option.some.injEq, Prod.mk.injEq] at H
 obtain ⟨rfl, rfl, rfl⟩ := H
 go_enter Try.func27, Try.ntmps27
 go_wp2_with (first | ((with_reducible refine Qf (N := 2) rfl ?_); refine zBx (N := 2) #[.int .i64 0, .string (⟨#[]⟩ : ByteArray)] 25 ?_; intro bH hg fD hbox hb; have aA := Qa.mk (hbox); have cO := zS hg; have aH := zS hg; replace HB := zX hb; clear hb hbox hg) | ((with_reducible refine Qb (f := 101) rfl ?_); refine zD (some 9) Try.func101 #[.slice A0 l0.length c0] ((Qq.calls k _ _ l0 false _ ?bN ?bO A2.out).mono ?_); (case bN => exact zc (Kd.C_below cK.out HB.out)); (case bO => exact dU.out); rintro e fE ⟨rfl, hb⟩; refine ⟨_, rfl, ?_⟩; replace aA := zV aA.out hb; replace HB := zX1 aH.out hb; (try clear hb); obtain ⟨dN, dO, dP, dQ⟩ := zq2 aA.out))
 refine bodyPost_ret (Uj rfl _ _ bH 25 #[.int .i64 0, .string (⟨#[]⟩ : ByteArray)] (0, 0) _ rfl (zk0 aA.out) Try.underlying25 rfl (by kernel_rfl)) rfl ?_
 exact ⟨zE, zG aH.out⟩
theorem jRx (d : Nat) (w : World) (x0 y0 : Int) (x1 y1 : Int) :
  (Op.equalIn (d + 2) 83 (.agg #[.int .i64 x0, .int .i64 x1]) (.agg #[.int .i64 y0, .int .i64 y1])).run Try.prog w = .ok (x0 == y0 && (x1 == y1)) w := by
 refine jRa Try.underlying83 (by kernel_rfl) ?_
 refine jMi (by rfl) (by go_simp; rfl) (by go_simp; rfl) (by go_simp) ?_
 exact jLr (by rfl) (by go_simp; rfl) (by go_simp; rfl) (by go_simp)
end Go.Proofs.Ytckkfjdkaimmhaa.PX
namespace Go.Proofs.Ytckkfjdkaimmhaa.PX
open Go.RowKit Go.Proofs.Ytckkfjdkaimmhaa.G Go.Proofs.YtckkfjdkaimmhaaW.PrintWords Go.Proofs.YtckkfjdkaimmhaaW.PrintLast Go.Proofs.YtckkfjdkaimmhaaW.PrintMore
attribute [local go_sem] max2_int min2_int Yd Yg Xh Xf Xq Xp   -- for this text's walks alone
set_option linter.unusedVariables false
set_option linter.unusedSimpArgs false
attribute [local go_sem high] jRx
mutual
def Qn.l0 : Nat → Int → List (S83) → Int → List Int → Int → Int → Option ((List (S83)) × Int × Int)
 | 0, _, _, _, _, _, _ => none
 | k + 1, x3, x4, x5, x1000, aA, aC => if x5 < 12 then (Qn.j1 k x3 x4 x5 (decide ((x4.length : Int) < x3)) x1000 aA aC) else (Qn.j1 k x3 x4 x5 false x1000 aA aC)
def Qn.j1 : Nat → Int → List (S83) → Int → Bool → List Int → Int → Int → Option ((List (S83)) × Int × Int)
 | 0, _, _, _, _, _, _, _ => none
 | k + 1, x3, x4, x5, aH, x1000, aA, aC => if aH = true then ((Jz.f x1000 aA aC 13).bind fun aD => ((Jz.f x1000 aD.2.1 aD.2.2 13).bind fun aG => (Qn.l1 k x3 x4 x5 true 0 x1000 aG.2.1 aG.2.2 (wrap64 (aD.1 - 6)) (wrap64 (aG.1 - 6))))) else (if (x4.length : Int) < 3 then (some ((([(⟨0, 0⟩ : S83), (⟨4, 1⟩ : S83), (⟨1, 3⟩ : S83), (⟨2, 2⟩ : S83)] : List (S83))), aA, aC)) else (some (x4, aA, aC)))
def Qn.l1 : Nat → Int → List (S83) → Int → Bool → Int → List Int → Int → Int → Int → Int → Option ((List (S83)) × Int × Int)
 | 0, _, _, _, _, _, _, _, _, _, _ => none
 | k + 1, x3, x4, x5, x7, x8, x1000, aD, aG, aA, aC => if x8 < (x4.length : Int) then (Qn.j3 k x3 x4 x5 x7 x8 x7 x1000 aD aG aA aC) else (Qn.j3 k x3 x4 x5 x7 x8 false x1000 aD aG aA aC)
def Qn.j3 : Nat → Int → List (S83) → Int → Bool → Int → Bool → List Int → Int → Int → Int → Int → Option ((List (S83)) × Int × Int)
 | 0, _, _, _, _, _, _, _, _, _, _, _ => none
 | k + 1, x3, x4, x5, x7, x8, aH, x1000, aD, aG, aA, aC => if aH = true then (if 0 ≤ x8 then (if x8 < (x4.length : Int) then (Qn.l2 k x3 x4 x5 (!(((Js x4 x8).f0) == aA) || (!(((Js x4 x8).f1) == aC))) x8 0 x1000 aD aG aA aC) else (none)) else (none)) else (if x7 = true then (if x4.length < 8796093022208 then (Qn.l0 k x3 (x4 ++ [(⟨aA, aC⟩ : S83)]) (wrap64 (x5 + 1)) x1000 aD aG) else (none)) else (Qn.l0 k x3 x4 (wrap64 (x5 + 1)) x1000 aD aG))
def Qn.l2 : Nat → Int → List (S83) → Int → Bool → Int → Int → List Int → Int → Int → Int → Int → Option ((List (S83)) × Int × Int)
 | 0, _, _, _, _, _, _, _, _, _, _, _ => none
 | k + 1, x3, x4, x5, x7, x8, x9, x1000, aD, aG, aA, aC => if x9 < x8 then (if x7 = true then (if 0 ≤ x9 then (if x9 < (x4.length : Int) then (if 0 ≤ x8 then (if x8 < (x4.length : Int) then ((X8.f ((Js x4 x9).f0) ((Js x4 x9).f1) ((Js x4 x8).f0) ((Js x4 x8).f1) aA aC).bind fun aH => (Qn.l2 k x3 x4 x5 (aH != 0) x8 (wrap64 (x9 + 1)) x1000 aD aG aA aC)) else (none)) else (none)) else (none)) else (none)) else (Qn.l1 k x3 x4 x5 x7 (wrap64 (x8 + 1)) x1000 aD aG aA aC)) else (Qn.l1 k x3 x4 x5 x7 (wrap64 (x8 + 1)) x1000 aD aG aA aC)
end
def Qn.f (k : Nat) (aC : List Int) (aD : Int) (aG : Int) : Option ((List (S83)) × Int × Int) := (Jz.f aC aD aG 4).bind fun aA => (Qn.l0 k (wrap64 (3 + aA.1)) (([] : List (S83))) 0 aC aA.2.1 aA.2.2)
def Qn.T15 : Bool × List (List Nat × List Nat) := (true, [([], []), ([], []), ([0, 1], [0, 1]), ([2], [2]), ([], []), ([], []), ([4, 5], [4, 5]), ([6], [6]), ([], []), ([3, 7, 8], [3, 7, 8]), ([9], [9]), ([10, 9, 0, 1, 2, 3, 4, 5, 6, 7, 8, 9, 10], [10])])
def Qn.B15 : List Nat := [0, 0, 3, 7, 0, 0, 48, 112, 0, 511, 1023, 2047]
theorem Qn.tab15 : Uc .any (opsOf Try.f148 15) = Qn.T15 := by kernel_rfl
theorem Qn.bits15 : X6 Qn.T15.2 Qn.B15 = true := by kernel_rfl
theorem K3 {p q : Prop} (g : p) (h : p → q := by intro zg_; repeat (first | (with_reducible first | exact zg_ | apply Qc.alloc | apply Qc.drewN | apply Qc.drew | apply Qc.set_1 | apply Qc.set_2) | exact zg_)) : q := h g
theorem jKw {p q p0 : Prop} (g : p) (g0 : p0) (h : p → p0 → q := by intro zg_ aA; repeat (first | (with_reducible first | exact zg_ | apply Jq | apply Jh | apply Qt | refine Jt ?_ aA) | exact zg_)) : q := h g g0
theorem Kv {p q : Prop} (g : p) (h : p → q := by intro zg_; repeat (first | (with_reducible first | exact zg_ | apply Qg.set_ | apply Xn | apply Xj | apply Xm) | exact zg_)) : q := h g
theorem U7 {p q p0 : Prop} (g : p) (g0 : p0) (h : p → p0 → q := by intro zg_ aA; repeat (first | (with_reducible first | exact zg_ | apply Qc.alloc | apply Qc.drewN | apply Qc.drew | apply Qc.set_1 | apply Qc.set_2 | refine Qc.far ?_ aA _) | exact zg_)) : q := h g g0
theorem Ux {p q p0 : Prop} (g : p) (g0 : p0) (h : p → p0 → q := by intro zg_ aA; repeat (first | (with_reducible first | exact zg_ | apply Qg.set_ | apply Xn | apply Xj | apply Xm | refine Vp ?_ aA _) | exact zg_)) : q := h g g0
set_option maxHeartbeats 8000000 in
set_option maxRecDepth 100000 in
theorem Qn.calls (k : Nat) (g : Nat) (aJ : List Int) (dH : Int) (dI : Int) (r1 : List (S83)) (r2 : Int) (r3 : Int) (w0 w : World) (hI : Qc w0 w g aJ dH dI) (hB : Below w0.heap.size w0 w) (h : Qn.f k aJ dH dI = some (r1, r2, r3)) :
  Calls Try.prog 148 #[.pointer (some ⟨g, 0, none⟩)] w fun e w' => ∃ fV : Value, e = .returned (fV) ∧ Kd.R k83 83 w' w.heap.size (fun _ => True) fV r1 ∧ Qc w0 w' g aJ r2 r3 ∧ Below w0.heap.size w0 w' ∧ Qg w w' g none := by
 have gV := Try.underlying83
 have HI0 := Qa.mk hI
 have HK := Qa.mk (Qg.refl w g none)
 have HL := Qa.mk hB.size
 clear hI
 have HW0 := Qa.mk hB.size
 have HB := Qa.mk hB
 clear hB
 have H := h
 unfold Qn.f at H
 clear h
 obtain ⟨⟨bL, dR, dS⟩, A2, H⟩ := zO H
 dsimp only at H
 generalize hy159 : (([] : List (S83)) : List (S83)) = y159 at H
 have dD := Qa.mk hy159.symm
 clear hy159
 have H' := Qa.mk H; clear H
 go_enter Try.func148, Try.ntmps148
 go_wp2_with (first | ((with_reducible refine Qb (f := 125) rfl ?_); refine zD (some 11) Try.func125 _ ((Jz.calls g aJ dH dI 4 bL dR dS w0 _ ?bI ?bJ A2.out).mono ?_); (case bI => exact (K3 HI0.out)); (case bJ => exact (jKw HB.out (Qc.ge HI0.out))); rintro e w3 ⟨rfl, hi, hb, hk⟩; refine ⟨_, rfl, ?_⟩; replace HK := Qa.mk (Qg.trans (Kv HK.out) hk (.inl rfl)); replace HI0 := Qa.mk (hi); replace HB := Qa.mk (hb); (try clear hb); (try clear hk); (try clear hi)) | ((with_reducible refine Qf (N := 13) rfl ?_); (try (refine Xa (by rfl) ?_; dsimp only)); refine Kd.R_lit k83 _ 83 ?hg (N := 13) ?hd (xs := ([] : List (S83))) (inner := []) (ok := fun _ => True) (okp := fun _ => True) ?hr ?hp (fun _ hk => hk) trivial (Below.refl _ _) (Nat.le_refl _) (by simp) ?_; (case hd => rfl); (case hg => rfl); (case hr => first | (go_simp; done) | (go_simp; rfl)); (case hp => exact (Xb.none _ _)); intro v160 w4 dU hb hg_ hnew_; clear hg_ hnew_; (first | rw [← dD.out] at dU | (simp only [Int.reduceToNat] at dU; rw [← dD.out] at dU)); have bM := Qa.mk (Kd.R_lower dU (J6 (w := w) (g := g) (row := none) (Kv HK.out))); have bN := Qa.mk (Qc.below (K3 HI0.out) hb); have bO := Qa.mk (Qg.trans (Kv HK.out) (Qg.of_below hb g none) (.inl rfl)); have bP := Qa.mk (Qz (zG (Qc.ge HI0.out)) hb); clear HI0; clear HK; clear HB; have dV := bM; have HI0 := bN; have HK := bO; have HB := bP; clear bM bN bO bP; clear hb dU))
 go_loopg [4, 5] k (fun kq v4 v5 w' => ∃ (aD : List (S83)) (bA : Int) (aK : Int) (aM : Int), v5 = .int .i64 bA ∧ Qa (Qn.l0 kq (wrap64 (3 + bL)) aD bA aJ aK aM = some (r1, r2, r3)) ∧ Qa (kq ≤ k) ∧ Qa (Kd.R k83 83 w' w.heap.size (fun _ => True) v4 aD) ∧ Qa (Qc w0 w' g aJ aK aM) ∧ Qa (Qg w w' g none) ∧ Qa (Below w0.heap.size w0 w'))
 case atStart => exact ⟨(y159), (0), (dR), (dS), zF, H', ⟨Nat.le_refl _⟩, ⟨zR dV.out⟩, ⟨(K3 HI0.out)⟩, ⟨(Kv HK.out)⟩, ⟨zG (Qc.ge HI0.out)⟩⟩
 case round =>
 clear H'
 obtain ⟨aD, bA, aK, aM, rfl, HA, bQ, aA, HI0, HK, HB⟩ := hrel
 cases gk with
 | zero => exact absurd HA.out (by simp [Qn.l0])
 | succ k1 =>
 have H := HA.out
 clear HA
 simp only [Qn.l0] at H
 have fC := Qa.mk H
 clear H
 go_upto_region 4 with (fail)
 go_cut [21] (fun v21 wc => ∃ (kq : Nat) (bR : Bool), v21 = .bool bR ∧ Qa (Qn.j1 kq (wrap64 (3 + bL)) aD bA bR aJ aK aM = some (r1, r2, r3)) ∧ Qa (kq ≤ k1) ∧ Qa (Kd.R k83 83 wc w.heap.size (fun _ => True) u4 aD) ∧ Qa (Qc w0 wc g aJ aK aM) ∧ Qa (Qg w wc g none) ∧ Qa (Below w0.heap.size w0 wc))
 case first =>
  have H := fC.out
  clear fC
  replace H := Z5 H
  rcases H with ⟨cK, H⟩ | ⟨cK, H⟩
  ·(first | rw [cK] | (simp only [Zu, Xo]; rw [cK]) | skip)
   have H' := Qa.mk H; clear H
   obtain ⟨iP, iQ, gW⟩ := Kd.R_slice aA.out
   subst gW
   go_wp2
   go_meet
   case rel => exact ⟨_, (decide ((aD.length : Int) < (wrap64 (3 + bL)))), zF, H', ⟨by have := bQ.out; first | omega | exact Nat.le_refl _⟩, ⟨zR aA.out⟩, ⟨(K3 HI0.out)⟩, ⟨(Kv HK.out)⟩, ⟨zG (Qc.ge HI0.out)⟩⟩
  (first | rw [cK] | (simp only [Zu, Xo]; rw [cK]) | skip)
  have H' := Qa.mk H; clear H
  go_wp2
  go_meet
  case rel => exact ⟨_, (false), zF, H', ⟨by have := bQ.out; first | omega | exact Nat.le_refl _⟩, ⟨zR aA.out⟩, ⟨(K3 HI0.out)⟩, ⟨(Kv HK.out)⟩, ⟨zG (Qc.ge HI0.out)⟩⟩
 case rest =>
 clear fC
 obtain ⟨kq, bR, rfl, HA, bZ, aA, HI0, HK, HB⟩ := hcut
 cases kq with
 | zero => exact absurd HA.out (by simp [Qn.j1])
 | succ fZ =>
 have H := HA.out
 clear HA
 simp only [Qn.j1] at H
 by_cases c9 : bR = true
 ·subst c9
  replace H := (if_pos rfl).symm.trans H
  obtain ⟨⟨aN, dJ, dK⟩, gX, H⟩ := zO H
  dsimp only at H
  obtain ⟨⟨aQ, aX, aY⟩, gY, H⟩ := zO H
  dsimp only at H
  have H' := Qa.mk H; clear H
  go_wp2_with (first | ((with_reducible refine Qb (f := 125) rfl ?_); refine zD (some 25) Try.func125 _ ((Jz.calls g aJ aK aM 13 aN dJ dK w0 _ ?bI ?bJ gX.out).mono ?_); (case bI => exact (K3 HI0.out)); (case bJ => exact (jKw HB.out (Qc.ge HI0.out))); rintro e iR ⟨rfl, hi, hb, hk⟩; refine ⟨_, rfl, ?_⟩; replace aA := Qa.mk (Kd.R_mono (Kd.R_keep (Qc.apart (show Qc w0 _ g aJ aK aM from (K3 HI0.out)) (zR aA.out) (by decide)) hk (fun _ h => h.2)) (fun _ h => h.1)); replace HK := Qa.mk (Qg.trans (Kv HK.out) hk (.inl rfl)); replace HI0 := Qa.mk (hi); replace HB := Qa.mk (hb); (try clear hb); (try clear hk); (try clear hi)) | ((with_reducible refine Qb (f := 125) rfl ?_); refine zD (some 28) Try.func125 _ ((Jz.calls g aJ dJ dK 13 aQ aX aY w0 _ ?bI ?bJ gY.out).mono ?_); (case bI => exact (K3 HI0.out)); (case bJ => exact (jKw HB.out (Qc.ge HI0.out))); rintro e iT ⟨rfl, hi, hb, hk⟩; refine ⟨_, rfl, ?_⟩; replace aA := Qa.mk (Kd.R_mono (Kd.R_keep (Qc.apart (show Qc w0 _ g aJ dJ dK from (K3 HI0.out)) (zR aA.out) (by decide)) hk (fun _ h => h.2)) (fun _ h => h.1)); replace HK := Qa.mk (Qg.trans (Kv HK.out) hk (.inl rfl)); replace HI0 := Qa.mk (hi); replace HB := Qa.mk (hb); (try clear hb); (try clear hk); (try clear hi)) | ((with_reducible refine Qf (N := 6) rfl ?_); (try (refine Xa (by rfl) ?_; dsimp only)); refine zBx (N := 6) #[.int .i64 0, .int .i64 0] 83 ?_; intro aH hg iU hbox hb; have bM := Qa.mk (Kd.R_below (Kd.R_elderB (zR aA.out) aH (Nat.le_of_eq hg.symm)) hb); have bN := Qa.mk (Qc.below (K3 HI0.out) hb); have bO := Qa.mk (Qg.trans (Kv HK.out) (Qg.of_below hb g none) (.inl rfl)); have bP := Qa.mk (Qz (zG (Qc.ge HI0.out)) hb); have cO := Qa.mk (hbox); have gB := Qa.mk ((by rw [hg]; exact (J6 (w := w) (g := g) (row := none) (Kv HK.out)) : w.heap.size ≤ aH)); have gD := Qa.mk ((Nat.le_trans HW0.out (by rw [hg]; exact (J6 (w := w) (g := g) (row := none) (Kv HK.out)) : w.heap.size ≤ aH) : w0.heap.size ≤ aH)); have gF := Qa.mk ((by rw [hg]; exact Nat.ne_of_lt (Qc.lt (show Qc w0 _ g aJ aX aY from (K3 HI0.out))) : g ≠ aH)); have gG := Qa.mk ((by rw [hg]; exact Nat.ne_of_gt (Qc.lt (show Qc w0 _ g aJ aX aY from (K3 HI0.out))) : aH ≠ g)); clear aA; clear HI0; clear HK; clear HB; have aA := bM; have HI0 := bN; have HK := bO; have HB := bP; have aC := cO; have aT := gB; have aV := gD; have aG := gF; have bS := gG; clear bM bN bO bP cO gB gD gF gG; clear hb hbox hg; have gH := bS.out; have gJ := aG.out; obtain ⟨bB, bC, bD, bE⟩ := zq2 aC.out))
  go_loopg [7, 8] fZ (fun kq v7 v8 w' => ∃ (bX : Bool) (aI : Int), v7 = .bool bX ∧ v8 = .int .i64 aI ∧ Qa (Qn.l1 kq (wrap64 (3 + bL)) aD bA bX aI aJ aX aY (wrap64 (aN - 6)) (wrap64 (aQ - 6)) = some (r1, r2, r3)) ∧ Qa (kq ≤ fZ) ∧ Qa (Kd.R k83 83 w' w.heap.size (fun k_ => k_ ≠ aH) u4 aD) ∧ Qa (w'.heap[aH]? = some (.cells #[.int .i64 (wrap64 (aN - 6)), .int .i64 (wrap64 (aQ - 6))] 83 (0, 0))) ∧ Qa (Qc w0 w' g aJ aX aY) ∧ Qa (Qg w w' g none) ∧ Qa (Below w0.heap.size w0 w'))
  case atStart => exact ⟨(true), (0), zF, zF, H', ⟨Nat.le_refl _⟩, ⟨by (with_reducible repeat (first | apply Kd.R_alloc | apply Kd.R_drewN | apply Kd.R_drew)); exact Kd.R_mono (Kd.R_far (p := ⟨aH, 1, none⟩) (Kd.R_far (p := ⟨aH, 0, none⟩) (Kd.R_mono aA.out (fun k_ hk => (⟨hk, hk.2⟩ : _ ∧ k_ ≠ aH))) (fun _ hk => hk.2) (.int .i64 (wrap64 (aN - 6)))) (fun _ hk => hk.2) (.int .i64 (wrap64 (aQ - 6)))) (fun _ hk => hk.1.2)⟩, ⟨zk0 aC.out⟩, ⟨(U7 HI0.out aG.out)⟩, ⟨(Ux HK.out aT.out)⟩, ⟨zG2 (Qc.ge HI0.out) aV.out⟩⟩
  case round =>
  clear H'
  try clear c9
  try clear bB
  try clear bC
  try clear bD
  try clear bE
  obtain ⟨bX, aI, rfl, rfl, HA, cB, aA, aC, HI0, HK, HB⟩ := hrel
  cases gk with
  | zero => exact absurd HA.out (by simp [Qn.l1])
  | succ k3 =>
  have H := HA.out
  clear HA
  simp only [Qn.l1] at H
  have dL := Qa.mk H
  clear H
  go_upto_region 9 with (fail)
  go_cut [37] (fun v37 wc => ∃ (kq : Nat) (bF : Bool), v37 = .bool bF ∧ Qa (Qn.j3 kq (wrap64 (3 + bL)) aD bA bX aI bF aJ aX aY (wrap64 (aN - 6)) (wrap64 (aQ - 6)) = some (r1, r2, r3)) ∧ Qa (kq ≤ k3) ∧ Qa (Kd.R k83 83 wc w.heap.size (fun k_ => k_ ≠ aH) u4 aD) ∧ Qa (wc.heap[aH]? = some (.cells #[.int .i64 (wrap64 (aN - 6)), .int .i64 (wrap64 (aQ - 6))] 83 (0, 0))) ∧ Qa (Qc w0 wc g aJ aX aY) ∧ Qa (Qg w wc g none) ∧ Qa (Below w0.heap.size w0 wc))
  case first =>
   have H := dL.out
   clear dL
   replace H := Z5 H
   rcases H with ⟨bK, H⟩ | ⟨bK, H⟩
   ·(first | rw [bK] | (simp only [Zu, Xo]; rw [bK]) | skip)
    have H' := Qa.mk H; clear H
    obtain ⟨gZ, iA, fD⟩ := Kd.R_slice aA.out
    subst fD
    go_wp2
    go_meet
    case rel => exact ⟨_, (bX), zF, H', ⟨by have := bQ.out; have := bZ.out; have := cB.out; first | omega | exact Nat.le_refl _⟩, ⟨zR aA.out⟩, ⟨zK aC.out⟩, ⟨(U7 HI0.out aG.out)⟩, ⟨(Ux HK.out aT.out)⟩, ⟨zG2 (Qc.ge HI0.out) aV.out⟩⟩
   (first | rw [bK] | (simp only [Zu, Xo]; rw [bK]) | skip)
   have H' := Qa.mk H; clear H
   obtain ⟨iB, iC, fE⟩ := Kd.R_slice aA.out
   subst fE
   go_wp2
   go_meet
   case rel => exact ⟨_, (false), zF, H', ⟨by have := bQ.out; have := bZ.out; have := cB.out; first | omega | exact Nat.le_refl _⟩, ⟨zR aA.out⟩, ⟨zK aC.out⟩, ⟨(U7 HI0.out aG.out)⟩, ⟨(Ux HK.out aT.out)⟩, ⟨zG2 (Qc.ge HI0.out) aV.out⟩⟩
  case rest =>
  clear dL
  try clear c9
  try clear bB
  try clear bC
  try clear bD
  try clear bE
  obtain ⟨kq, bF, rfl, HA, aZ, aA, aC, HI0, HK, HB⟩ := hcut
  cases kq with
  | zero => exact absurd HA.out (by simp [Qn.j3])
  | succ dA =>
  have H := HA.out
  clear HA
  simp only [Qn.j3] at H
  by_cases c21 : bF = true
  ·subst c21
   replace H := (if_pos rfl).symm.trans H
   replace H := Zq H
   rcases H with ⟨dW, H⟩ | ⟨iD, H⟩
   ·replace H := Zq H
    rcases H with ⟨dX, H⟩ | ⟨c23, H⟩
    ·have H' := Qa.mk H; clear H
     try go_wp2
     replace aA := Qa.mk (Kd.R_drew aA.out)
     replace aC := Qa.mk (Jo aC.out)
     replace HI0 := Qa.mk (Qc.drew HI0.out)
     replace HK := Qa.mk (Xj HK.out)
     replace HB := Qa.mk (Qt HB.out)
     obtain ⟨iE, fF, dY⟩ := Kd.R_slice aA.out
     (first | subst dY | (injection dY with gK iF gL; have iG := gK.symm; have iH := gL.symm; clear gK iF gL; subst iG; subst iH))
     have dB : 0 ≤ (aI : Int) := zA
     have dC : aI < (aD.length : Int) := zA
     obtain ⟨aU, fG, bG, bH⟩ := K5 (Kd.R_reads' aA.out).2.2 aI dB dC
     cases fG
     replace dB := eq_true dB
     replace dC := eq_true dC
     refine Ya (n := 7) (S := fun w' => w'.cell? ⟨aH, 0, none⟩ = some (.int .i64 (wrap64 (aN - 6))) ∧ w'.cell? ⟨aH, 1, none⟩ = some (.int .i64 (wrap64 (aQ - 6))) ∧ w'.cell? (aU.add ((aI).toNat * 2)) = some (.int .i64 ((Js aD aI).f0)) ∧ w'.cell? ⟨(aU.add ((aI).toNat * 2)).block, (aU.add ((aI).toNat * 2)).off + 1, none⟩ = some (.int .i64 ((Js aD aI).f1))) (ds := []) #[false, false, false, false, false, false, false] (by kernel_rfl) rfl rfl ⟨(Qo aC.out 0).trans rfl, (Qo aC.out 1).trans rfl, bG, bH⟩ (fun hHeld => ?_)
     generalize wc.drew = iV at aA aC HI0 HK HB bG bH hHeld ⊢
     refine Vr (i := 0) (N := some 40) (v := ?_) (a' := ?_) #[true, false, false, false, false, false, false] rfl rfl (by kernel_rfl) (fun _ _ _ h => h) (Or.inl ⟨by rfl, ?_⟩) ?_ ?_
     rotate_left
     ·intro w'
      go_simp
      with_reducible rfl
     rotate_left
     ·simp only [Act.put, List.setIfInBounds_toArray, List.set_cons_zero, List.set_cons_succ, Zu, Xo]
      rfl
     refine Vr (i := 1) (N := some 41) (v := ?_) (a' := ?_) #[true, true, false, false, false, false, false] rfl rfl (by kernel_rfl) (fun _ _ _ h => h) (Or.inl ⟨by rfl, ?_⟩) ?_ ?_
     rotate_left
     ·intro w'
      go_simp
      with_reducible rfl
     rotate_left
     ·simp only [Act.put, List.setIfInBounds_toArray, List.set_cons_zero, List.set_cons_succ, Zu, Xo]
      rfl
     refine Vr (i := 2) (N := some 42) (v := ?_) (a' := ?_) #[true, true, true, false, false, false, false] rfl rfl (by kernel_rfl) (fun _ _ _ h => h) (Or.inl ⟨by rfl, ?_⟩) ?_ ?_
     rotate_left
     ·intro w'
      go_simp
      with_reducible rfl
     rotate_left
     ·simp only [Act.put, List.setIfInBounds_toArray, List.set_cons_zero, List.set_cons_succ, Zu, Xo]
      rfl
     refine take_ (i := 3) (N := some 43) (v := ?_) (a' := ?_) #[true, true, true, true, false, false, false] rfl rfl (by kernel_rfl) (fun _ _ _ h => h) (Or.inl ⟨by rfl, ?_⟩) hHeld ?_ ?_
     rotate_left
     ·rintro w' ⟨s0, s1, s2, s3⟩
      go_simp
      with_reducible rfl
     rotate_left
     ·simp only [Act.put, List.setIfInBounds_toArray, List.set_cons_zero, List.set_cons_succ, Zu, Xo]
      rfl
     refine take_ (i := 4) (N := some 44) (v := ?_) (a' := ?_) #[true, true, true, true, true, false, false] rfl rfl (by kernel_rfl) (fun _ _ _ h => h) (Or.inl ⟨by rfl, ?_⟩) hHeld ?_ ?_
     rotate_left
     ·rintro w' ⟨s0, s1, s2, s3⟩
      go_simp
      with_reducible rfl
     rotate_left
     ·simp only [Act.put, List.setIfInBounds_toArray, List.set_cons_zero, List.set_cons_succ, Zu, Xo]
      rfl
     refine Vr (i := 5) (N := some 45) (v := ?_) (a' := ?_) #[true, true, true, true, true, true, false] rfl rfl (by kernel_rfl) (fun _ _ _ h => h) (Or.inl ⟨by rfl, ?_⟩) ?_ ?_
     rotate_left
     ·intro w'
      go_simp
      with_reducible rfl
     rotate_left
     ·simp only [Act.put, List.setIfInBounds_toArray, List.set_cons_zero, List.set_cons_succ, Zu, Xo]
      rfl
     refine Vr (i := 6) (N := some 7) (v := ?_) (a' := ?_) #[true, true, true, true, true, true, true] rfl rfl (by kernel_rfl) (fun _ _ _ h => h) (Or.inl ⟨by rfl, ?_⟩) ?_ ?_
     rotate_left
     ·intro w'
      go_simp
      with_reducible rfl
     rotate_left
     ·simp only [Act.put, List.setIfInBounds_toArray, List.set_cons_zero, List.set_cons_succ, Zu, Xo]
      rfl
     refine Vh (by kernel_rfl) ?_
     try go_wp2
     go_loopg [7, 9] dA (fun kq v7 v9 w' => ∃ (cZ : Bool) (aW : Int), v7 = .bool cZ ∧ v9 = .int .i64 aW ∧ Qa (Qn.l2 kq (wrap64 (3 + bL)) aD bA cZ aI aW aJ aX aY (wrap64 (aN - 6)) (wrap64 (aQ - 6)) = some (r1, r2, r3)) ∧ Qa (kq ≤ dA) ∧ Qa (Kd.R k83 83 w' w.heap.size (fun k_ => k_ ≠ aH) (.slice (some aU) aD.length fF) aD) ∧ Qa (w'.heap[aH]? = some (.cells #[.int .i64 (wrap64 (aN - 6)), .int .i64 (wrap64 (aQ - 6))] 83 (0, 0))) ∧ Qa (Qc w0 w' g aJ aX aY) ∧ Qa (Qg w w' g none) ∧ Qa (Below w0.heap.size w0 w'))
     case atStart => exact ⟨((!(((Js aD aI).f0) == (wrap64 (aN - 6))) || (!(((Js aD aI).f1) == (wrap64 (aQ - 6)))))), (0), zF, zF, H', ⟨Nat.le_refl _⟩, ⟨zR aA.out⟩, ⟨zK aC.out⟩, ⟨(U7 HI0.out aG.out)⟩, ⟨(Ux HK.out aT.out)⟩, ⟨zG2 (Qc.ge HI0.out) aV.out⟩⟩
     case round =>
     clear H'
     try clear c9
     try clear c21
     try clear iD
     try clear dW
     try clear c23
     try clear dX
     try clear bB
     try clear bC
     try clear bD
     try clear bE
     try clear bG
     try clear bH
     try clear dB
     try clear dC
     obtain ⟨cZ, aW, rfl, rfl, HA, dQ, aA, aC, HI0, HK, HB⟩ := hrel
     cases gk with
     | zero => exact absurd HA.out (by simp [Qn.l2])
     | succ k5 =>
     have H := HA.out
     clear HA
     simp only [Qn.l2] at H
     replace H := Z5 H
     rcases H with ⟨dZ, H⟩ | ⟨dZ, H⟩
     ·by_cases eU : cZ = true
      ·subst eU
       replace H := (if_pos rfl).symm.trans H
       replace H := Zq H
       rcases H with ⟨gM, H⟩ | ⟨c28, H⟩
       ·replace H := Zq H
        rcases H with ⟨gN, H⟩ | ⟨iW, H⟩
        ·replace H := Zq H
         rcases H with ⟨gP, H⟩ | ⟨iX, H⟩
         ·replace H := Zq H
          rcases H with ⟨gQ, H⟩ | ⟨c31, H⟩
          ·obtain ⟨eB, iI, H⟩ := zO H
           have H' := Qa.mk H; clear H
           try go_wp2
           replace aA := Qa.mk (Kd.R_drew aA.out)
           replace aC := Qa.mk (Jo aC.out)
           replace HI0 := Qa.mk (Qc.drew HI0.out)
           replace HK := Qa.mk (Xj HK.out)
           replace HB := Qa.mk (Qt HB.out)
           have dM : 0 ≤ (aW : Int) := zA
           have dN : aW < (aD.length : Int) := zA
           obtain ⟨eD, fH, bT, bU⟩ := K5 (Kd.R_reads' aA.out).2.2 aW dM dN
           obtain rfl : aU = eD := (by injection fH)
           replace dM := eq_true dM
           replace dN := eq_true dN
           have dO : 0 ≤ (aI : Int) := zA
           have dP : aI < (aD.length : Int) := zA
           obtain ⟨eF, fI, bV, bW⟩ := K5 (Kd.R_reads' aA.out).2.2 aI dO dP
           obtain rfl : aU = eF := (by injection fI)
           replace dO := eq_true dO
           replace dP := eq_true dP
           refine Ya (n := 12) (S := fun w' => w'.cell? ⟨aH, 0, none⟩ = some (.int .i64 (wrap64 (aN - 6))) ∧ w'.cell? ⟨aH, 1, none⟩ = some (.int .i64 (wrap64 (aQ - 6))) ∧ w'.cell? (aU.add ((aW).toNat * 2)) = some (.int .i64 ((Js aD aW).f0)) ∧ w'.cell? ⟨(aU.add ((aW).toNat * 2)).block, (aU.add ((aW).toNat * 2)).off + 1, none⟩ = some (.int .i64 ((Js aD aW).f1)) ∧ w'.cell? (aU.add ((aI).toNat * 2)) = some (.int .i64 ((Js aD aI).f0)) ∧ w'.cell? ⟨(aU.add ((aI).toNat * 2)).block, (aU.add ((aI).toNat * 2)).off + 1, none⟩ = some (.int .i64 ((Js aD aI).f1))) (ds := []) #[false, false, false, false, false, false, false, false, false, false, false, false] (by kernel_rfl) rfl rfl ⟨(Qo aC.out 0).trans rfl, (Qo aC.out 1).trans rfl, bT, bU, bV, bW⟩ (fun hHeld => ?_); refine Z0 Qn.tab15 Qn.bits15 (fun HT_ HW_ => ?_)
           generalize wr.drew = iY at aA aC HI0 HK HB bT bU bV bW hHeld ⊢
           refine zP 0 (some 54) rfl rfl ?_
           refine zP 1 (some 55) rfl rfl ?_
           refine zP 2 (some 56) rfl rfl ?_
           refine zP 4 (some 58) rfl rfl ?_
           refine zP 5 (some 59) rfl rfl ?_
           refine zP 6 (some 60) rfl rfl ?_
           refine zY6 3 (some 57) rfl rfl hHeld ?_
           refine zY6 7 (some 61) rfl rfl hHeld ?_
           refine zY6 8 (some 62) rfl rfl hHeld ?_
           refine zU 9 (some 63) rfl rfl (fun K hK => ?_)
           refine Xx Try.func103 (by kernel_rfl) rfl #[.agg #[.int .i64 ((Js aD aW).f0), .int .i64 ((Js aD aW).f1)], .agg #[.int .i64 ((Js aD aI).f0), .int .i64 ((Js aD aI).f1)], .agg #[.int .i64 (wrap64 (aN - 6)), .int .i64 (wrap64 (aQ - 6))]] (by rfl) rfl rfl zM ?_
           with_reducible refine (X8.calls ((Js aD aW).f0) ((Js aD aW).f1) ((Js aD aI).f0) ((Js aD aI).f1) (wrap64 (aN - 6)) (wrap64 (aQ - 6)) eB _ iI.out).mono ?_
           rintro e iZ ⟨rfl, hb⟩
           have fJ := (hb.cell (World.block_lt_of_cell? _ _ (hHeld.2.2.1))).trans (hHeld.2.2.1)
           have fK := (hb.cell (World.block_lt_of_cell? _ _ (hHeld.2.2.2.1))).trans (hHeld.2.2.2.1)
           have fM := (hb.cell (World.block_lt_of_cell? _ _ (hHeld.2.2.2.2.1))).trans (hHeld.2.2.2.2.1)
           have fO := (hb.cell (World.block_lt_of_cell? _ _ (hHeld.2.2.2.2.2))).trans (hHeld.2.2.2.2.2)
           refine ⟨_, rfl, ?_⟩
           have bM := zW aA.out hb
           have bN := zV aC.out hb
           have bO := Qa.mk (Qc.below (U7 HI0.out aG.out) hb)
           have bP := Qa.mk (Qg.trans (Ux HK.out aT.out) (Qg.of_below hb g none) (.inl rfl))
           have cO := Qa.mk (Qz (zG2 (Qc.ge HI0.out) aV.out) hb)
           clear aA
           clear aC
           clear HI0
           clear HK
           clear HB
           have aA := bM
           have aC := bN
           have HI0 := bO
           have HK := bP
           have HB := cO
           clear bM bN bO bP cO
           (try clear hb)
           refine hK.out _ _ ⟨(Qo aC.out 0).trans rfl, (Qo aC.out 1).trans rfl, fJ, fK, fM, fO⟩ (fun hHeld => ?_)
           clear hK K
           refine zN ?_
           refine zP 10 (some 64) rfl rfl ?_
           refine zP 11 (some 7) rfl rfl ?_
           refine Vh (Xu HT_.out (by kernel_rfl)) ?_
           try go_wp2
           go_roundg k5
           case measure => have := bQ.out; have := bZ.out; have := cB.out; have := aZ.out; have := dQ.out; omega
           case rel => exact ⟨((eB != 0)), (wrap64 (aW + 1)), zF, zF, H', ⟨by have := bQ.out; have := bZ.out; have := cB.out; have := aZ.out; have := dQ.out; omega⟩, ⟨zR aA.out⟩, ⟨zK aC.out⟩, ⟨(U7 HI0.out aG.out)⟩, ⟨(Ux HK.out aT.out)⟩, ⟨zG2 (Qc.ge HI0.out) aV.out⟩⟩
          exact absurd H (by simp)
         exact absurd H (by simp)
        exact absurd H (by simp)
       exact absurd H (by simp)
      replace eU := Bool.eq_false_iff.mpr eU
      subst eU
      replace H := (if_neg zFf).symm.trans H
      have H' := Qa.mk H; clear H
      go_wp2
      go_roundg k5
      case measure => have := bQ.out; have := bZ.out; have := cB.out; have := aZ.out; have := dQ.out; omega
      case rel => exact ⟨(false), (wrap64 (aI + 1)), zF, zF, H', ⟨by have := bQ.out; have := bZ.out; have := cB.out; have := aZ.out; have := dQ.out; omega⟩, ⟨zR aA.out⟩, ⟨zK aC.out⟩, ⟨(U7 HI0.out aG.out)⟩, ⟨(Ux HK.out aT.out)⟩, ⟨zG2 (Qc.ge HI0.out) aV.out⟩⟩
     have H' := Qa.mk H; clear H
     go_wp2
     go_roundg k5
     case measure => have := bQ.out; have := bZ.out; have := cB.out; have := aZ.out; have := dQ.out; omega
     case rel => exact ⟨(cZ), (wrap64 (aI + 1)), zF, zF, H', ⟨by have := bQ.out; have := bZ.out; have := cB.out; have := aZ.out; have := dQ.out; omega⟩, ⟨zR aA.out⟩, ⟨zK aC.out⟩, ⟨(U7 HI0.out aG.out)⟩, ⟨(Ux HK.out aT.out)⟩, ⟨zG2 (Qc.ge HI0.out) aV.out⟩⟩
    exact absurd H (by simp)
   exact absurd H (by simp)
  replace c21 := Bool.eq_false_iff.mpr c21
  subst c21
  replace H := (if_neg zFf).symm.trans H
  by_cases eX : bX = true
  ·subst eX
   replace H := (if_pos rfl).symm.trans H
   replace H := Vt H
   rcases H with ⟨fP, H⟩ | ⟨fP, H⟩
   ·have eG := Qa.mk fP
    clear fP
    generalize dE : (aD ++ [(⟨(wrap64 (aN - 6)), (wrap64 (aQ - 6))⟩ : S83)] : List (S83)) = fQ at H
    have eH := Qa.mk dE.symm
    clear dE
    have H' := Qa.mk H; clear H
    have gT := bS.out
    have gU := aG.out
    obtain ⟨eY, eZ, fA, fB⟩ := zq2 aC.out
    go_wp2_with (first | ((with_reducible refine Z9 (b := .append) (xs := #[.tmp 66, .tmp 68]) rfl ?_); (try (refine Xa (by rfl) ?_; dsimp only)); at_builtin; refine Kd.R_append k83 w.heap.size rfl (.tmp 66) (.tmp 68) 38 83 (.agg #[(.int .i64 0), (.int .i64 0)]) 16 rfl Try.underlying38 jQe rfl (by decide) (by omega) u4 aD (⟨(wrap64 (aN - 6)), (wrap64 (aQ - 6))⟩ : S83) [.int .i64 (wrap64 (aN - 6)), .int .i64 (wrap64 (aQ - 6))] (fun k_ => k_ ≠ aH) (fun _ => False) rfl rfl ?aP (fun _ hk => hk.elim) ?aF ?aO (Below.refl _ _) ?aS ?aL ?_; (case aP => exact jCn _ _ _ (⟨(wrap64 (aN - 6)), (wrap64 (aQ - 6))⟩ : S83)); (case aF => exact (fun k_ hk => Kd.freshB (g := aH) (o := .cells #[.int .i64 (wrap64 (aN - 6)), .int .i64 (wrap64 (aQ - 6))] 83 (0, 0)) (zK aC.out) k_ hk)); (case aO => exact (zR aA.out)); (case aS => exact (J6 (w := w) (g := g) (row := none) (Ux HK.out aT.out))); (case aL => have := eG.out; omega); intro v173 jA ho hb hg hat; rw [← eH.out] at ho; have bM := Qa.mk (Yh (g := aH) (o := .cells #[.int .i64 (wrap64 (aN - 6)), .int .i64 (wrap64 (aQ - 6))] 83 (0, 0)) (zK aC.out) hg (Kd.R_away aA.out (fun _ hk => hk))); have bN := Qa.mk (Qc.grown (U7 HI0.out aG.out) hg (Qc.own_ne HI0.out aA.out (by decide))); have bO := Qa.mk (Ub (zG2 (Qc.ge HI0.out) aV.out) HL.out hb); have bP := Qa.mk (Qg.trans (Ux HK.out aT.out) (Qg.of_grown hg g) (Kd.R_base2 aA.out)); have cO := Qa.mk (ho); clear aC; clear HI0; clear HB; clear HK; clear aA; have aC := bM; have HI0 := bN; have HB := bO; have HK := bP; have eO := cO; clear bM bN bO bP cO; clear ho hb hg hat))
    go_roundg dA
    case measure => have := bQ.out; have := bZ.out; have := cB.out; have := aZ.out; omega
    case rel => exact ⟨(fQ), (wrap64 (bA + 1)), (aX), (aY), zF, H', ⟨by have := bQ.out; have := bZ.out; have := cB.out; have := aZ.out; omega⟩, ⟨zR (Kd.R_mono eO.out (fun _ hk => trivial))⟩, ⟨(U7 HI0.out aG.out)⟩, ⟨(Ux HK.out aT.out)⟩, ⟨zG2 (Qc.ge HI0.out) aV.out⟩⟩
   exact absurd H (by simp)
  replace eX := Bool.eq_false_iff.mpr eX
  subst eX
  replace H := (if_neg zFf).symm.trans H
  have H' := Qa.mk H; clear H
  go_wp2
  go_roundg dA
  case measure => have := bQ.out; have := bZ.out; have := cB.out; have := aZ.out; omega
  case rel => exact ⟨(aD), (wrap64 (bA + 1)), (aX), (aY), zF, H', ⟨by have := bQ.out; have := bZ.out; have := cB.out; have := aZ.out; omega⟩, ⟨zR (Kd.R_mono aA.out (fun _ hk => trivial))⟩, ⟨(U7 HI0.out aG.out)⟩, ⟨(Ux HK.out aT.out)⟩, ⟨zG2 (Qc.ge HI0.out) aV.out⟩⟩
 replace c9 := Bool.eq_false_iff.mpr c9
 subst c9
 replace H := (if_neg zFf).symm.trans H
 replace H := jJw H
 rcases H with ⟨c40, eP, H⟩ | ⟨c40, eP, H⟩
 ·have eQ : decide (aD.length < 3) = true := decide_eq_true (by omega)
  clear c40
  generalize dF : (([(⟨0, 0⟩ : S83), (⟨4, 1⟩ : S83), (⟨1, 3⟩ : S83), (⟨2, 2⟩ : S83)] : List (S83)) : List (S83)) = iJ at H
  have dG := Qa.mk dF.symm
  clear dF
  simp only [Option.some.injEq, Prod.mk.injEq] at H
  obtain ⟨rfl, rfl, rfl⟩ := H
  obtain ⟨iK, iL, fT⟩ := Kd.R_slice aA.out
  subst fT
  go_wp2_with (first | ((with_reducible refine Qf (N := 77) rfl ?_); (try (refine Xa (by rfl) ?_; dsimp only)); refine Kd.R_lit k83 _ 83 ?hg (N := 77) ?hd (xs := ([(⟨0, 0⟩ : S83), (⟨4, 1⟩ : S83), (⟨1, 3⟩ : S83), (⟨2, 2⟩ : S83)] : List (S83))) (inner := [.int .i64 0, .int .i64 0, .int .i64 4, .int .i64 1, .int .i64 1, .int .i64 3, .int .i64 2, .int .i64 2]) (ok := fun _ => True) (okp := fun _ => True) ?hr ?hp (fun _ hk => hk) trivial (Below.refl _ _) (Nat.le_refl _) (by simp) ?_; (case hd => rfl); (case hg => rfl); (case hr => first | (go_simp; done) | (go_simp; rfl)); (case hp => exact (Xb.c2 (show Kd.M k83 _ _ _ (⟨0, 0⟩ : S83) [.int .i64 0, .int .i64 0] from (jCn _ _ _ (⟨0, 0⟩ : S83) )) (Xb.c2 (show Kd.M k83 _ _ _ (⟨4, 1⟩ : S83) [.int .i64 4, .int .i64 1] from (jCn _ _ _ (⟨4, 1⟩ : S83) )) (Xb.c2 (show Kd.M k83 _ _ _ (⟨1, 3⟩ : S83) [.int .i64 1, .int .i64 3] from (jCn _ _ _ (⟨1, 3⟩ : S83) )) (Xb.c2 (show Kd.M k83 _ _ _ (⟨2, 2⟩ : S83) [.int .i64 2, .int .i64 2] from (jCn _ _ _ (⟨2, 2⟩ : S83) )) (Xb.none _ _)))))); intro iM jB bY hb hg_ hnew_; clear hg_ hnew_; (first | rw [← dG.out] at bY | (simp only [Int.reduceToNat] at bY; rw [← dG.out] at bY)); have bM := Qa.mk (Kd.R_elder' (zR aA.out) (Kd.R_base bY) hb); have bN := Qa.mk (Kd.R_lower (Kd.R_new' bY (Kd.R_lt (zR aA.out))) (J6 (w := w) (g := g) (row := none) (Kv HK.out))); have bO := Qa.mk (Qc.below (K3 HI0.out) hb); have bP := Qa.mk (Qg.trans (Kv HK.out) (Qg.of_below hb g none) (.inl rfl)); have cO := Qa.mk (Qz (zG (Qc.ge HI0.out)) hb); clear aA; clear HI0; clear HK; clear HB; have aA := bM; have eT := bN; have HI0 := bO; have HK := bP; have HB := cO; clear bM bN bO bP cO; clear hb bY))
  go_ret
  exact ⟨_, zE, zR (Kd.R_mono eT.out (fun _ hk => trivial)), (K3 HI0.out), zG (Qc.ge HI0.out), (Kv HK.out)⟩
 have eQ : decide (aD.length < 3) = false := decide_eq_false (by omega)
 clear c40
 simp only [Option.some.injEq, Prod.mk.injEq] at H
 obtain ⟨rfl, rfl, rfl⟩ := H
 obtain ⟨iN, iO, fU⟩ := Kd.R_slice aA.out
 subst fU
 go_wp2
 go_ret
 exact ⟨_, zE, zR aA.out, (K3 HI0.out), zG (Qc.ge HI0.out), (Kv HK.out)⟩
end Go.Proofs.Ytckkfjdkaimmhaa.PX
namespace Go.Proofs.Ytckkfjdkaimmhaa.PX
open Go.RowKit Go.Proofs.Ytckkfjdkaimmhaa.G Go.Proofs.YtckkfjdkaimmhaaW.PrintWords Go.Proofs.YtckkfjdkaimmhaaW.PrintLast Go.Proofs.YtckkfjdkaimmhaaW.PrintMore
attribute [local go_sem] max2_int min2_int Yd Yg Xh Xf Xq Xp   -- for this text's walks alone
set_option linter.unusedVariables false
set_option linter.unusedSimpArgs false
def Y0.f (aC : List Int) (aD : Int) (aG : Int) (l1 : List Int) : Option (Int × Int × Int) := (Jz.f aC aD aG (l1.length : Int)).bind fun aA => (if 0 ≤ aA.1 then (if aA.1 < (l1.length : Int) then (some (rd l1 aA.1, aA.2.1, aA.2.2)) else (none)) else (none))
theorem jN0 {p q : Prop} (g : p) (h : p → q := by intro zg_; repeat (first | (with_reducible first | exact zg_ | apply Qc.alloc | apply Qc.drewN | apply Qc.drew | apply Qc.set_1 | apply Qc.set_2) | exact zg_)) : q := h g
theorem jQh {p q p0 : Prop} (g : p) (g0 : p0) (h : p → p0 → q := by intro zg_ aA; repeat (first | (with_reducible first | exact zg_ | apply Jq | apply Jh | apply Qt | refine Jt ?_ aA) | exact zg_)) : q := h g g0
theorem jNj {p q : Prop} (g : p) (h : p → q := by intro zg_; repeat (first | (with_reducible first | exact zg_ | apply Qg.set_ | apply Xn | apply Xj | apply Xm) | exact zg_)) : q := h g
set_option maxHeartbeats 8000000 in
set_option maxRecDepth 100000 in
theorem Y0.calls (g : Nat) (aC : List Int) (aG : Int) (aH : Int) (A1 : Option Addr) (c1 : Nat) (l1 : List Int) (r1 : Int) (r2 : Int) (r3 : Int) (w0 w : World) (hI : Qc w0 w g aC aG aH) (hB : Below w0.heap.size w0 w) (hr1 : Kd.C (Kd.int .i64) w A1 l1.length l1) (hc1 : l1.length ≤ c1) (hf1 : ∀ ad, A1 = some ad → 0 < l1.length → ad.block ≠ g) (h : Y0.f aC aG aH l1 = some (r1, r2, r3)) :
  Calls Try.prog 126 #[.pointer (some ⟨g, 0, none⟩), .slice A1 l1.length c1] w fun e w' => e = .returned (.int .i64 r1) ∧ Qc w0 w' g aC r2 r3 ∧ Below w0.heap.size w0 w' ∧ Qg w w' g none := by
 have HR1 := Qa.mk hr1
 have aX := Qa.mk hc1
 clear hr1 hc1
 have HI0 := Qa.mk hI
 have HK := Qa.mk (Qg.refl w g none)
 have HL := Qa.mk hB.size
 clear hI
 have HW0 := Qa.mk hB.size
 have HB := Qa.mk hB
 clear hB
 have H := h
 unfold Y0.f at H
 clear h
 obtain ⟨⟨aD, aQ, aT⟩, A3, H⟩ := zO H
 dsimp only at H
 replace H := Zq H
 rcases H with ⟨aV, H⟩ | ⟨c4, H⟩
 ·replace H := Zq H
  rcases H with ⟨aW, H⟩ | ⟨c5, H⟩
  ·simp only [Option.some.injEq, Prod.mk.injEq] at H
   obtain ⟨rfl, rfl, rfl⟩ := H
   go_enter Try.func126, Try.ntmps126
   go_wp2_with (first | ((with_reducible refine Qb (f := 125) rfl ?_); refine zD (some 9) Try.func125 _ ((Jz.calls g aC aG aH (l1.length : Int) aD aQ aT w0 _ ?aK ?aM A3.out).mono ?_); (case aK => exact (jN0 HI0.out)); (case aM => exact (jQh HB.out (Qc.ge HI0.out))); rintro e w6 ⟨rfl, hi, hb, hk⟩; refine ⟨_, rfl, ?_⟩; replace HK := Qa.mk (Qg.trans (jNj HK.out) hk (.inl rfl)); replace HI0 := Qa.mk (hi); replace HB := Qa.mk (hb); (try clear hb); (try clear hk); (try clear hi); have aI : 0 ≤ (aD : Int) := zA; have aJ : aD < (l1.length : Int) := zA; obtain ⟨aN, aU, aA⟩ := Kd.at_int HR1.out aD aI aJ; cases aU; replace aA := jE2 HK.out aA (by first | (rw [add_block]; exact hf1 _ rfl (by omega)) | exact hf1 _ rfl (by omega) | exact hf1 aN rfl (by omega)); replace aI := eq_true aI; replace aJ := eq_true aJ))
   go_ret
   exact ⟨zE, (jN0 HI0.out), zG (Qc.ge HI0.out), (jNj HK.out)⟩
  exact absurd H (by simp)
 exact absurd H (by simp)
def Y7.f (aC : List Int) (aD : Int) (aG : Int) (l1 : List ByteArray) : Option (ByteArray × Int × Int) := (Jz.f aC aD aG (l1.length : Int)).bind fun aA => (if 0 ≤ aA.1 then (if aA.1 < (l1.length : Int) then (some (jOb ByteArray.empty l1 aA.1, aA.2.1, aA.2.2)) else (none)) else (none))
theorem jNk {p q : Prop} (g : p) (h : p → q := by intro zg_; repeat (first | (with_reducible first | exact zg_ | apply Qc.alloc | apply Qc.drewN | apply Qc.drew | apply Qc.set_1 | apply Qc.set_2) | exact zg_)) : q := h g
theorem jQm {p q p0 : Prop} (g : p) (g0 : p0) (h : p → p0 → q := by intro zg_ aA; repeat (first | (with_reducible first | exact zg_ | apply Jq | apply Jh | apply Qt | refine Jt ?_ aA) | exact zg_)) : q := h g g0
theorem jNy {p q : Prop} (g : p) (h : p → q := by intro zg_; repeat (first | (with_reducible first | exact zg_ | apply Qg.set_ | apply Xn | apply Xj | apply Xm) | exact zg_)) : q := h g
set_option maxHeartbeats 8000000 in
set_option maxRecDepth 100000 in
theorem Y7.calls (g : Nat) (aC : List Int) (aG : Int) (aH : Int) (A1 : Option Addr) (c1 : Nat) (l1 : List ByteArray) (r1 : ByteArray) (r2 : Int) (r3 : Int) (w0 w : World) (hI : Qc w0 w g aC aG aH) (hB : Below w0.heap.size w0 w) (hr1 : Kd.C Kd.string w A1 l1.length l1) (hc1 : l1.length ≤ c1) (hf1 : ∀ ad, A1 = some ad → 0 < l1.length → ad.block ≠ g) (h : Y7.f aC aG aH l1 = some (r1, r2, r3)) :
  Calls Try.prog 155 #[.pointer (some ⟨g, 0, none⟩), .slice A1 l1.length c1] w fun e w' => e = .returned (.string r1) ∧ Qc w0 w' g aC r2 r3 ∧ Below w0.heap.size w0 w' ∧ Qg w w' g none := by
 have HR1 := Qa.mk hr1
 have aX := Qa.mk hc1
 clear hr1 hc1
 have HI0 := Qa.mk hI
 have HK := Qa.mk (Qg.refl w g none)
 have HL := Qa.mk hB.size
 clear hI
 have HW0 := Qa.mk hB.size
 have HB := Qa.mk hB
 clear hB
 have H := h
 unfold Y7.f at H
 clear h
 obtain ⟨⟨aD, aQ, aT⟩, A3, H⟩ := zO H
 dsimp only at H
 replace H := Zq H
 rcases H with ⟨aV, H⟩ | ⟨c4, H⟩
 ·replace H := Zq H
  rcases H with ⟨aW, H⟩ | ⟨c5, H⟩
  ·simp only [Option.some.injEq, Prod.mk.injEq] at H
   obtain ⟨rfl, rfl, rfl⟩ := H
   go_enter Try.func155, Try.ntmps155
   go_wp2_with (first | ((with_reducible refine Qb (f := 125) rfl ?_); refine zD (some 9) Try.func125 _ ((Jz.calls g aC aG aH (l1.length : Int) aD aQ aT w0 _ ?aK ?aM A3.out).mono ?_); (case aK => exact (jNk HI0.out)); (case aM => exact (jQm HB.out (Qc.ge HI0.out))); rintro e w6 ⟨rfl, hi, hb, hk⟩; refine ⟨_, rfl, ?_⟩; replace HK := Qa.mk (Qg.trans (jNy HK.out) hk (.inl rfl)); replace HI0 := Qa.mk (hi); replace HB := Qa.mk (hb); (try clear hb); (try clear hk); (try clear hi); have aI : 0 ≤ (aD : Int) := zA; have aJ : aD < (l1.length : Int) := zA; obtain ⟨aN, aU, aA⟩ := Kd.at_string HR1.out aD aI aJ; cases aU; replace aA := jE2 HK.out aA (by first | (rw [add_block]; exact hf1 _ rfl (by omega)) | exact hf1 _ rfl (by omega) | exact hf1 aN rfl (by omega)); replace aI := eq_true aI; replace aJ := eq_true aJ))
   go_ret
   exact ⟨zE, (jNk HI0.out), zG (Qc.ge HI0.out), (jNy HK.out)⟩
  exact absurd H (by simp)
 exact absurd H (by simp)
def Zl.l0 : Nat → Int → Int → List Int → Int → Int → Int → ByteArray → Option (Int × ByteArray × Int × Int)
 | 0, _, _, _, _, _, _, _ => none
 | k + 1, x3, x5, x1000, aG, aH, aC, aA => if x5 < (wrap64 (Int.tdiv (wrap64 ((wrap64 (x3 * (wrap64 (x3 - 1)))) * (wrap64 (x3 - 2)))) 6)) then ((Y7.f x1000 aG aH (([(⟨#[43]⟩ : ByteArray), (⟨#[45]⟩ : ByteArray), (⟨#[43]⟩ : ByteArray)] : List ByteArray))).bind fun aD => (if aA.size + aD.1.size ≤ 9223372036854775807 then (Zl.l0 k x3 (wrap64 (x5 + 1)) x1000 aD.2.1 aD.2.2 aC (aA ++ aD.1)) else (none))) else (some (aC, aA, aG, aH))
def Zl.f (k : Nat) (aG : List Int) (aI : Int) (aJ : Int) : Option (Int × ByteArray × Int × Int) := (Xk.f aG aI aJ 5).bind fun aA => (if aA.1 = true then ((Jz.f aG aA.2.1 aA.2.2 3).bind fun aC => (Zl.l0 k (wrap64 (3 + aC.1)) 0 aG aC.2.1 aC.2.2 (wrap64 (3 + aC.1)) (⟨#[]⟩ : ByteArray))) else ((Qn.f k aG aA.2.1 aA.2.2).bind fun aD => ((Q8.f k aD.1).bind fun aH => (some (aH.1, aH.2.1, aD.2.1, aD.2.2)))))
def Zl.T7 : Bool × List (List Nat × List Nat) := (true, [([], []), ([0], [0]), ([], []), ([], []), ([2, 3], [2, 3]), ([1, 4], [1, 4]), ([0, 1, 2, 3, 4, 5], []), ([6, 5, 4, 0, 1, 2, 3, 4, 5], [5, 6])])
def Zl.B7 : List Nat := [0, 1, 0, 0, 12, 31, 63, 127]
theorem Zl.tab7 : Uc .any (opsOf Try.f154 7) = Zl.T7 := by kernel_rfl
theorem Zl.bits7 : X6 Zl.T7.2 Zl.B7 = true := by kernel_rfl
theorem jDk {p q : Prop} (g : p) (h : p → q := by intro zg_; repeat (first | (with_reducible first | exact zg_ | apply Qc.alloc | apply Qc.drewN | apply Qc.drew | apply Qc.set_1 | apply Qc.set_2) | exact zg_)) : q := h g
theorem jDg {p q : Prop} (g : p) (h : p → q := by intro zg_; repeat (first | (with_reducible first | exact zg_ | apply Qg.set_ | apply Xn | apply Xj | apply Xm) | exact zg_)) : q := h g
theorem Uz {p q p0 : Prop} (g : p) (g0 : p0) (h : p → p0 → q := by intro zg_ aA; repeat (first | (with_reducible first | exact zg_ | apply Qc.alloc | apply Qc.drewN | apply Qc.drew | apply Qc.set_1 | apply Qc.set_2 | refine Qc.far ?_ aA _) | exact zg_)) : q := h g g0
theorem jHd {p q p0 p1 : Prop} (g : p) (g0 : p0) (g1 : p1) (h : p → p0 → p1 → q := by intro zg_ aA aC; repeat (first | (with_reducible first | exact zg_ | apply Jq | apply Jh | apply Qt | refine Jt ?_ aA | refine Jt ?_ aC) | exact zg_)) : q := h g g0 g1
theorem Uv {p q p0 : Prop} (g : p) (g0 : p0) (h : p → p0 → q := by intro zg_ aA; repeat (first | (with_reducible first | exact zg_ | apply Qg.set_ | apply Xn | apply Xj | apply Xm | refine Vp ?_ aA _) | exact zg_)) : q := h g g0
theorem jCc {p q p0 p1 : Prop} (g : p) (g0 : p0) (g1 : p1) (h : p → p0 → p1 → q := by intro zg_ aA aC; repeat (first | (with_reducible first | exact zg_ | apply Qc.alloc | apply Qc.drewN | apply Qc.drew | apply Qc.set_1 | apply Qc.set_2 | refine Qc.far ?_ aA _ | refine Qc.far ?_ aC _) | exact zg_)) : q := h g g0 g1
theorem jCk {p q p0 p1 : Prop} (g : p) (g0 : p0) (g1 : p1) (h : p → p0 → p1 → q := by intro zg_ aA aC; repeat (first | (with_reducible first | exact zg_ | apply Qg.set_ | apply Xn | apply Xj | apply Xm | refine Vp ?_ aA _ | refine Vp ?_ aC _) | exact zg_)) : q := h g g0 g1
theorem jP1 {p q p0 p1 p2 : Prop} (g : p) (g0 : p0) (g1 : p1) (g2 : p2) (h : p → p0 → p1 → p2 → q := by intro zg_ aA aC aD; repeat (first | (with_reducible first | exact zg_ | apply Jq | apply Jh | apply Qt | refine Jt ?_ aA | refine Jt ?_ aC | refine Jt ?_ aD) | exact zg_)) : q := h g g0 g1 g2
set_option maxHeartbeats 8000000 in
set_option maxRecDepth 100000 in
theorem Zl.calls (k : Nat) (g : Nat) (aQ : List Int) (bE : Int) (bF : Int) (r1 : Int) (r2 : ByteArray) (r3 : Int) (r4 : Int) (w0 w : World) (hI : Qc w0 w g aQ bE bF) (hB : Below w0.heap.size w0 w) (h : Zl.f k aQ bE bF = some (r1, r2, r3, r4)) :
  Calls Try.prog 154 #[.pointer (some ⟨g, 0, none⟩)] w fun e w' => e = .returned (.agg #[.int .i64 r1, .string r2]) ∧ Qc w0 w' g aQ r3 r4 ∧ Below w0.heap.size w0 w' ∧ Qg w w' g none := by
 have gT := Try.underlying25
 have HI0 := Qa.mk hI
 have HK := Qa.mk (Qg.refl w g none)
 have HL := Qa.mk hB.size
 clear hI
 have HW0 := Qa.mk hB.size
 have HB := Qa.mk hB
 clear hB
 have H := h
 unfold Zl.f at H
 clear h
 obtain ⟨⟨fD, bV, bW⟩, A2, H⟩ := zO H
 dsimp only at H
 by_cases c3 : fD = true
 ·subst c3
  replace H := (if_pos rfl).symm.trans H
  obtain ⟨⟨bP, bX, bY⟩, A4, H⟩ := zO H
  dsimp only at H
  have H' := Qa.mk H; clear H
  go_enter Try.func154, Try.ntmps154
  go_wp2_with (first | ((with_reducible refine Qf (N := 2) rfl ?_); refine zBx (N := 2) #[.int .i64 0, .string (⟨#[]⟩ : ByteArray)] 25 ?_; intro aJ hg w5 hbox hb; have bG := Qa.mk (Qc.below (jDk HI0.out) hb); have bH := Qa.mk (Qg.trans (jDg HK.out) (Qg.of_below hb g none) (.inl rfl)); have bI := Qa.mk (Qz (zG (Qc.ge HI0.out)) hb); have bJ := Qa.mk (hbox); have bK := Qa.mk ((by rw [hg]; exact (J6 (w := w) (g := g) (row := none) (jDg HK.out)) : w.heap.size ≤ aJ)); have bN := Qa.mk ((Nat.le_trans HW0.out (by rw [hg]; exact (J6 (w := w) (g := g) (row := none) (jDg HK.out)) : w.heap.size ≤ aJ) : w0.heap.size ≤ aJ)); have bR := Qa.mk ((by rw [hg]; exact Nat.ne_of_lt (Qc.lt (show Qc w0 _ g aQ bE bF from (jDk HI0.out))) : g ≠ aJ)); have bS := Qa.mk ((by rw [hg]; exact Nat.ne_of_gt (Qc.lt (show Qc w0 _ g aQ bE bF from (jDk HI0.out))) : aJ ≠ g)); clear HI0; clear HK; clear HB; have HI0 := bG; have HK := bH; have HB := bI; have aA := bJ; have aD := bK; have aK := bN; have aC := bR; have aM := bS; clear bG bH bI bJ bK bN bR bS; clear hb hbox hg) | ((with_reducible refine Qb (f := 127) rfl ?_); refine zD (some 9) Try.func127 _ ((Xk.calls g aQ bE bF 5 true bV bW w0 _ ?aT ?aU A2.out).mono ?_); (case aT => exact (Uz HI0.out aC.out)); (case aU => exact (jHd HB.out (Qc.ge HI0.out) aK.out)); rintro e w6 ⟨rfl, hi, hb, hk⟩; refine ⟨_, rfl, ?_⟩; replace aA := zKB hk aA.out aM.out; replace HK := Qa.mk (Qg.trans (Uv HK.out aD.out) hk (.inl rfl)); replace HI0 := Qa.mk (hi); replace HB := Qa.mk (hb); (try clear hb); (try clear hk); (try clear hi)) | ((with_reducible refine Qb (f := 125) rfl ?_); refine zD (some 11) Try.func125 _ ((Jz.calls g aQ bV bW 3 bP bX bY w0 _ ?aT ?aU A4.out).mono ?_); (case aT => exact (Uz HI0.out aC.out)); (case aU => exact (jHd HB.out (Qc.ge HI0.out) aK.out)); rintro e w7 ⟨rfl, hi, hb, hk⟩; refine ⟨_, rfl, ?_⟩; replace aA := zKB hk aA.out aM.out; replace HK := Qa.mk (Qg.trans (Uv HK.out aD.out) hk (.inl rfl)); replace HI0 := Qa.mk (hi); replace HB := Qa.mk (hb); (try clear hb); (try clear hk); (try clear hi)) | ((with_reducible refine Qf (N := 4) rfl ?_); refine zBx (N := 4) #[.int .i64 0, .string (⟨#[]⟩ : ByteArray)] 25 ?_; intro aV hg w8 hbox hb; have bG := Qa.mk (Qc.below (Uz HI0.out aC.out) hb); have bH := zV aA.out hb; have bI := Qa.mk (Qg.trans (Uv HK.out aD.out) (Qg.of_below hb g none) (.inl rfl)); have bJ := Qa.mk (Qz (zG2 (Qc.ge HI0.out) aK.out) hb); have bK := Qa.mk (hbox); have bN := Qa.mk ((by rw [hg]; exact (J6 (w := w) (g := g) (row := none) (Uv HK.out aD.out)) : w.heap.size ≤ aV)); have bR := Qa.mk ((Nat.le_trans HW0.out (by rw [hg]; exact (J6 (w := w) (g := g) (row := none) (Uv HK.out aD.out)) : w.heap.size ≤ aV) : w0.heap.size ≤ aV)); have bS := zL hg aA.out; have dJ := zLg hg aA.out; have dK := Qa.mk ((by rw [hg]; exact Nat.ne_of_lt (Qc.lt (show Qc w0 _ g aQ bX bY from (Uz HI0.out aC.out))) : g ≠ aV)); have bT := Qa.mk ((by rw [hg]; exact Nat.ne_of_gt (Qc.lt (show Qc w0 _ g aQ bX bY from (Uz HI0.out aC.out))) : aV ≠ g)); clear HI0; clear aA; clear HK; clear HB; have HI0 := bG; have aA := bH; have HK := bI; have HB := bJ; have aH := bK; have bB := bN; have bL := bR; have aI := bS; have aZ := dJ; have aN := dK; have bD := bT; clear bG bH bI bJ bK bN bR bS dJ dK bT; clear hb hbox hg; have gU := aZ.out; have gV := aI.out; have fK := bD.out; have fM := aN.out; obtain ⟨bZ, cB, cK, cO⟩ := zq2 aH.out))
  go_loopg [5] k (fun kq v5 w' => ∃ (cZ : Int) (aW : Int) (aX : Int) (aG : ByteArray), v5 = .int .i64 cZ ∧ Qa (Zl.l0 kq (wrap64 (3 + bP)) cZ aQ aW aX (wrap64 (3 + bP)) aG = some (r1, r2, r3, r4)) ∧ Qa (kq ≤ k) ∧ Qa (w'.heap[aJ]? = some (.cells #[.int .i64 0, .string (⟨#[]⟩ : ByteArray)] 25 (0, 0))) ∧ Qa (w'.heap[aV]? = some (.cells #[.int .i64 (wrap64 (3 + bP)), .string aG] 25 (0, 0))) ∧ Qa (Qc w0 w' g aQ aW aX) ∧ Qa (Qg w w' g none) ∧ Qa (Below w0.heap.size w0 w'))
  case atStart => exact ⟨(0), (bX), (bY), ((⟨#[]⟩ : ByteArray)), zF, H', ⟨Nat.le_refl _⟩, ⟨zk2 aA.out aI.out aI.out⟩, ⟨zk0 aH.out⟩, ⟨(jCc HI0.out aC.out aN.out)⟩, ⟨(jCk HK.out aD.out bB.out)⟩, ⟨zG3 (Qc.ge HI0.out) aK.out bL.out⟩⟩
  case round =>
  clear H'
  try clear c3
  try clear bZ
  try clear cB
  try clear cK
  try clear cO
  obtain ⟨cZ, aW, aX, aG, rfl, HA, fO, aA, aH, HI0, HK, HB⟩ := hrel
  cases gk with
  | zero => exact absurd HA.out (by simp [Zl.l0])
  | succ k1 =>
  have H := HA.out
  clear HA
  simp only [Zl.l0] at H
  replace H := Z5 H
  rcases H with ⟨dL, H⟩ | ⟨dL, H⟩
  ·generalize dD : (([(⟨#[43]⟩ : ByteArray), (⟨#[45]⟩ : ByteArray), (⟨#[43]⟩ : ByteArray)] : List ByteArray) : List ByteArray) = dM at H
   have dE := Qa.mk dD.symm
   clear dD
   obtain ⟨⟨dF, dN, dO⟩, gW, H⟩ := zO H
   dsimp only at H
   replace H := U1 H
   rcases H with ⟨c14, fP, fQ, H⟩ | ⟨c14, H⟩
   ·try have fT : (9223372036854775807 < aG.size + dF.size) = False := eq_false (Nat.not_lt.2 c14)
    have H' := Qa.mk H; clear H
    try go_wp2
    replace aA := Qa.mk (Jo aA.out)
    replace aH := Qa.mk (Jo aH.out)
    replace HI0 := Qa.mk (Qc.drew HI0.out)
    replace HK := Qa.mk (Xj HK.out)
    replace HB := Qa.mk (Qt HB.out)
    refine Ya (n := 8) (S := fun w' => w'.cell? ⟨aV, 0, none⟩ = some (.int .i64 (wrap64 (3 + bP))) ∧ w'.cell? ⟨aV, 1, none⟩ = some (.string aG)) (ds := [7]) #[false, false, false, false, false, false, false, false] (by kernel_rfl) rfl rfl ⟨(Qo aH.out 0).trans rfl, (Qo aH.out 1).trans rfl⟩ (fun hHeld => ?_); refine Z0 Zl.tab7 Zl.bits7 (fun HT_ HW_ => ?_)
    generalize wr.drew = iF at aA aH HI0 HK HB hHeld ⊢
    refine zP 0 (some 27) rfl rfl ?_
    refine zP 2 (some 29) rfl rfl ?_
    refine zY2 1 (some 28) rfl rfl hHeld ?_
    refine zU 3 (some 30) rfl rfl (fun K hK => ?_)
    refine Kd.R_lit_step Kd.string _ 9 ?hg (N := 30) ?hd (xs := ([(⟨#[43]⟩ : ByteArray), (⟨#[45]⟩ : ByteArray), (⟨#[43]⟩ : ByteArray)] : List ByteArray)) (inner := [.string (⟨#[43]⟩ : ByteArray), .string (⟨#[45]⟩ : ByteArray), .string (⟨#[43]⟩ : ByteArray)]) (ok := fun _ => True) (okp := fun _ => True) ?hr ?hp (fun _ hk => hk) trivial (Below.refl _ _) (Nat.le_refl _) (by simp) ?_; (case hd => rfl); (case hg => rfl); (case hr => first | (go_simp; done) | (go_simp; rfl)); (case hp => exact (Xb.one (show Kd.M Kd.string _ _ _ (⟨#[43]⟩ : ByteArray) [.string (⟨#[43]⟩ : ByteArray)] from rfl) (Xb.one (show Kd.M Kd.string _ _ _ (⟨#[45]⟩ : ByteArray) [.string (⟨#[45]⟩ : ByteArray)] from rfl) (Xb.one (show Kd.M Kd.string _ _ _ (⟨#[43]⟩ : ByteArray) [.string (⟨#[43]⟩ : ByteArray)] from rfl) (Xb.none _ _)))))
    intro gX w16 bU hb hg_ hnew_
    clear hg_ hnew_
    (first | rw [← dE.out] at bU | (simp only [Int.reduceToNat] at bU; rw [← dE.out] at bU))
    have bG := Qa.mk (Kd.R_lower bU (J6 (w := w) (g := g) (row := none) (jCk HK.out aD.out bB.out)))
    have bH := zV aA.out hb
    have bI := zV aH.out hb
    have bJ := Qa.mk (Qc.below (jCc HI0.out aC.out aN.out) hb)
    have bK := Qa.mk (Qg.trans (jCk HK.out aD.out bB.out) (Qg.of_below hb g none) (.inl rfl))
    have bN := Qa.mk (Qz (zG3 (Qc.ge HI0.out) aK.out bL.out) hb)
    clear aA
    clear aH
    clear HI0
    clear HK
    clear HB
    have bC := bG
    have aA := bH
    have aH := bI
    have HI0 := bJ
    have HK := bK
    have HB := bN
    clear bG bH bI bJ bK bN
    clear hb bU
    obtain ⟨fE, fF, dP⟩ := Kd.R_slice bC.out
    (first | subst dP | (injection dP with fU gY fV; have gZ := fU.symm; have iA := fV.symm; clear fU gY fV; subst gZ; subst iA))
    refine hK.out _ _ (zh2 aH.out) (fun hHeld => ?_)
    clear hK K
    refine zN ?_
    refine zU 4 (some 31) rfl rfl (fun K hK => ?_)
    refine Xx Try.func155 (by kernel_rfl) rfl #[.pointer (some ⟨g, 0, none⟩), .slice fE dM.length fF] (by rfl) rfl rfl zM ?_
    with_reducible refine (Y7.calls g aQ aW aX _ _ dM dF dN dO w0 _ ?aT ?aU ?dQ ?dR ?dS gW.out).mono ?_
    (case aT => exact (jCc HI0.out aC.out aN.out))
    (case aU => exact (jP1 HB.out (Qc.ge HI0.out) aK.out bL.out))
    (case dQ => exact zc ((Kd.R_reads' bC.out).2.2))
    (case dR => exact (Kd.R_reads' bC.out).2.1)
    (case dS => exact jCv (Qc.own_ne HI0.out bC.out (by decide)))
    rintro e iB ⟨rfl, hi, hb, hk⟩
    refine ⟨_, rfl, ?_⟩
    replace aA := zKB hk aA.out aM.out
    replace aH := zKB hk aH.out bD.out
    replace bC := Qa.mk (Kd.R_mono (Kd.R_keep (Qc.apart (show Qc w0 _ g aQ aW aX from (jCc HI0.out aC.out aN.out)) (zR bC.out) (by decide)) hk (fun _ h => h.2)) (fun _ h => h.1))
    replace HK := Qa.mk (Qg.trans (jCk HK.out aD.out bB.out) hk (.inl rfl))
    replace HI0 := Qa.mk (hi)
    replace HB := Qa.mk (hb)
    (try clear hb)
    (try clear hk)
    (try clear hi)
    refine hK.out _ _ (zh2 aH.out) (fun hHeld => ?_)
    clear hK K
    refine zN ?_
    refine zP 5 (some 32) rfl rfl ?_
    refine zP 6 (some 33) rfl rfl ?_
    refine jJs (i := 7) (N := none) #[true, true, true, true, true, true, true, true] rfl rfl (jHq HT_.out (by kernel_rfl)) (by decide) (fun K hK => ?_)
    have iC : iB.cell? ⟨aV, 1, none⟩ = some (.string aG) := (Qo aH.out 1).trans rfl
    have fZ := Zd aH.out 1
    have dY := aI.out
    have dZ := aZ.out
    refine jEr (w1 := ?_) (by rfl) rfl ?_ ?_
    rotate_left
    ·go_simp
     rfl
    refine hK.out _ _ ?_
    clear hK K
    refine Vh (Xu HT_.out (by kernel_rfl)) ?_
    try go_wp2
    go_roundg k1
    case measure => have := fO.out; omega
    case rel => exact ⟨(wrap64 (cZ + 1)), (dN), (dO), (aG ++ dF), zF, H', ⟨by have := fO.out; omega⟩, ⟨zk1 aA.out aI.out⟩, ⟨zk0 aH.out⟩, ⟨(jCc HI0.out aC.out aN.out)⟩, ⟨(jCk HK.out aD.out bB.out)⟩, ⟨zG3 (Qc.ge HI0.out) aK.out bL.out⟩⟩
   exact absurd H (by simp)
  simp only [Option.some.injEq, Prod.mk.injEq] at H
  obtain ⟨rfl, rfl, rfl, rfl⟩ := H
  have gB := aZ.out
  have gD := aI.out
  have gF := bD.out
  have gG := aN.out
  obtain ⟨eB, eD, eF, eG⟩ := zq2 aH.out
  have gH := aM.out
  have gJ := aC.out
  obtain ⟨eH, eO, eP, eQ⟩ := zq2 aA.out
  go_wp2
  refine bodyPost_ret (results_cell_row rfl _ _ aJ 25 #[.int .i64 (wrap64 (3 + bP)), .string aG] (0, 0) _ rfl (zk0 aA.out) Try.underlying25 rfl (by kernel_rfl)) rfl ?_
  exact ⟨zE, (jCc HI0.out aC.out aN.out), zG3 (Qc.ge HI0.out) aK.out bL.out, (jCk HK.out aD.out bB.out)⟩
 replace c3 := Bool.eq_false_iff.mpr c3
 subst c3
 replace H := (if_neg zFf).symm.trans H
 obtain ⟨⟨dG, dA, dB⟩, iD, H⟩ := zO H
 dsimp only at H
 obtain ⟨⟨dH, dI, fG⟩, iE, H⟩ := zO H
 replace H : (some (dH, dI, dA, dB)) = some (r1, r2, r3, r4) := H
 simp only [Option.some.injEq, Prod.mk.injEq] at H
 obtain ⟨rfl, rfl, rfl, rfl⟩ := H
 go_enter Try.func154, Try.ntmps154
 go_wp2_with (first | ((with_reducible refine Qf (N := 2) rfl ?_); refine zBx (N := 2) #[.int .i64 0, .string (⟨#[]⟩ : ByteArray)] 25 ?_; intro aJ hg iG hbox hb; have bG := Qa.mk (Qc.below (jDk HI0.out) hb); have bH := Qa.mk (Qg.trans (jDg HK.out) (Qg.of_below hb g none) (.inl rfl)); have bI := Qa.mk (Qz (zG (Qc.ge HI0.out)) hb); have bJ := Qa.mk (hbox); have bK := Qa.mk ((by rw [hg]; exact (J6 (w := w) (g := g) (row := none) (jDg HK.out)) : w.heap.size ≤ aJ)); have bN := Qa.mk ((Nat.le_trans HW0.out (by rw [hg]; exact (J6 (w := w) (g := g) (row := none) (jDg HK.out)) : w.heap.size ≤ aJ) : w0.heap.size ≤ aJ)); have bR := Qa.mk ((by rw [hg]; exact Nat.ne_of_lt (Qc.lt (show Qc w0 _ g aQ bE bF from (jDk HI0.out))) : g ≠ aJ)); have bS := Qa.mk ((by rw [hg]; exact Nat.ne_of_gt (Qc.lt (show Qc w0 _ g aQ bE bF from (jDk HI0.out))) : aJ ≠ g)); clear HI0; clear HK; clear HB; have HI0 := bG; have HK := bH; have HB := bI; have aA := bJ; have aD := bK; have aK := bN; have aC := bR; have aM := bS; clear bG bH bI bJ bK bN bR bS; clear hb hbox hg) | ((with_reducible refine Qb (f := 127) rfl ?_); refine zD (some 9) Try.func127 _ ((Xk.calls g aQ bE bF 5 false bV bW w0 _ ?aT ?aU A2.out).mono ?_); (case aT => exact (Uz HI0.out aC.out)); (case aU => exact (jHd HB.out (Qc.ge HI0.out) aK.out)); rintro e iH ⟨rfl, hi, hb, hk⟩; refine ⟨_, rfl, ?_⟩; replace aA := zKB hk aA.out aM.out; replace HK := Qa.mk (Qg.trans (Uv HK.out aD.out) hk (.inl rfl)); replace HI0 := Qa.mk (hi); replace HB := Qa.mk (hb); (try clear hb); (try clear hk); (try clear hi)) | ((with_reducible refine Qb (f := 148) rfl ?_); refine zD (some 37) Try.func148 _ ((Qn.calls k g aQ bV bW dG dA dB w0 _ ?aT ?aU iD.out).mono ?_); (case aT => exact (Uz HI0.out aC.out)); (case aU => exact (jHd HB.out (Qc.ge HI0.out) aK.out)); rintro e iI ⟨v198, rfl, ho0, hi, hb, hk⟩; refine ⟨_, rfl, ?_⟩; replace aA := zKB hk aA.out aM.out; have aY := Qa.mk (Kd.R_lower ho0 (J6 (w := w) (g := g) (row := none) (Uv HK.out aD.out))); replace HK := Qa.mk (Qg.trans (Uv HK.out aD.out) hk (.inl rfl)); replace HI0 := Qa.mk (hi); replace HB := Qa.mk (hb); (try clear hb); (try clear hk); (try clear hi); (try clear ho0); obtain ⟨fH, fI, fJ⟩ := Kd.R_slice aY.out; subst fJ) | ((with_reducible refine Qb (f := 27) rfl ?_); refine zD (some 38) Try.func27 #[.slice fH dG.length fI] ((Q8.calls k _ _ dG dH dI fG _ ?aT ?aU iE.out).mono ?_); (case aT => exact zc ((Kd.R_reads' aY.out).2.2)); (case aU => exact (Kd.R_reads' aY.out).2.1); rintro e w32 ⟨rfl, hb⟩; refine ⟨_, rfl, ?_⟩; have bG := zW aY.out hb; have bH := Qa.mk (Qc.below (Uz HI0.out aC.out) hb); have bI := zV aA.out hb; have bJ := Qa.mk (Qg.trans (Uv HK.out aD.out) (Qg.of_below hb g none) (.inl rfl)); have bK := Qa.mk (Qz (zG2 (Qc.ge HI0.out) aK.out) hb); clear aY; clear HI0; clear aA; clear HK; clear HB; have aY := bG; have HI0 := bH; have aA := bI; have HK := bJ; have HB := bK; clear bG bH bI bJ bK; (try clear hb)) | ((with_reducible refine Qf (N := 6) rfl ?_); refine zBx (N := 6) #[.int .i64 0, .string (⟨#[]⟩ : ByteArray)] 25 ?_; intro bM hg iJ hbox hb; have bG := zW aY.out hb; have bH := Qa.mk (Qc.below (Uz HI0.out aC.out) hb); have bI := zV aA.out hb; have bJ := Qa.mk (Qg.trans (Uv HK.out aD.out) (Qg.of_below hb g none) (.inl rfl)); have bK := Qa.mk (Qz (zG2 (Qc.ge HI0.out) aK.out) hb); have bN := Qa.mk (hbox); have bR := Qa.mk ((by rw [hg]; exact (J6 (w := w) (g := g) (row := none) (Uv HK.out aD.out)) : w.heap.size ≤ bM)); have bS := Qa.mk ((Nat.le_trans HW0.out (by rw [hg]; exact (J6 (w := w) (g := g) (row := none) (Uv HK.out aD.out)) : w.heap.size ≤ bM) : w0.heap.size ≤ bM)); have dJ := zL hg aA.out; have dK := zLg hg aA.out; have bT := Qa.mk ((by rw [hg]; exact Nat.ne_of_lt (Qc.lt (show Qc w0 _ g aQ dA dB from (Uz HI0.out aC.out))) : g ≠ bM)); have dU := Qa.mk ((by rw [hg]; exact Nat.ne_of_gt (Qc.lt (show Qc w0 _ g aQ dA dB from (Uz HI0.out aC.out))) : bM ≠ g)); clear aY; clear HI0; clear aA; clear HK; clear HB; have aY := bG; have HI0 := bH; have aA := bI; have HK := bJ; have HB := bK; have dV := bN; have dW := bR; have dX := bS; have bA := dJ; have bQ := dK; have bO := bT; have dC := dU; clear bG bH bI bJ bK bN bR bS dJ dK bT dU; clear hb hbox hg; have gK := bQ.out; have gL := bA.out; have gM := dC.out; have gN := bO.out; obtain ⟨eT, eU, eX, eY⟩ := zq2 dV.out; have gP := aM.out; have gQ := aC.out; obtain ⟨eZ, fA, fB, fC⟩ := zq2 aA.out))
 refine bodyPost_ret (results_cell_row rfl _ _ aJ 25 #[.int .i64 dH, .string dI] (0, 0) _ rfl (zk2 aA.out bA.out bA.out) Try.underlying25 rfl (by kernel_rfl)) rfl ?_
 exact ⟨zE, (jCc HI0.out aC.out bO.out), zG3 (Qc.ge HI0.out) aK.out dX.out, (jCk HK.out aD.out dW.out)⟩
end Go.Proofs.Ytckkfjdkaimmhaa.PX
