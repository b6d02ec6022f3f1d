/- FnSigns returns true for all arguments and leaves them as they were. No condition. -/
import Derived.Test.YtckkfjdkaimmhaaGreatDoorProg
import Derived.Lib.IndexMore
import Derived.Test.YtckkfjdkaimmhaaGreatDoorRows
import Derived.Test.YtckkfjdkaimmhaaGreatDoorTie
import Derived.Test.YtckkfjdkaimmhaaGreatDoorCards
import Derived.SevenTiedAt
import Derived.WalkKit
import Derived.ProofKit
import Derived.OpenShut
import Derived.ShutString
import Derived.ChangeOld
import Derived.Below
import Derived.SizedLaws
import Derived.Lib.SmallJoins
import Derived.ChangeSame
import Derived.Test.YtckkfjdkaimmhaaGreatDoorV1
import Derived.Test.YtckkfjdkaimmhaaGreatDoorBkoscde1
import Derived.Test.YtckkfjdkaimmhaaGreatDoorBkoscde2
import Derived.Test.YtckkfjdkaimmhaaGreatDoorBkoscde3
import Derived.Test.YtckkfjdkaimmhaaGreatDoorBkoscde4
set_option linter.unusedVariables false
set_option linter.unusedSimpArgs false
namespace Go.Proofs.YtckkfjdkaimmhaaGreatDoor.PX
open Go.RowKit Go.Proofs.YtckkfjdkaimmhaaGreatDoor.G Go.Proofs.YtckkfjdkaimmhaaGreatDoorW.PrintWords Go.Proofs.YtckkfjdkaimmhaaGreatDoorW.PrintLast Go.Proofs.YtckkfjdkaimmhaaGreatDoorW.PrintMore
attribute [local go_sem] max2_int min2_int Yv Yx Xm Xl X9 Yb   -- for this text's walks alone
set_option linter.unusedVariables false
set_option linter.unusedSimpArgs false
end Go.Proofs.YtckkfjdkaimmhaaGreatDoor.PX
namespace Go.Proofs.YtckkfjdkaimmhaaGreatDoor.PX
open Go.RowKit Go.Proofs.YtckkfjdkaimmhaaGreatDoor.G Go.Proofs.YtckkfjdkaimmhaaGreatDoorW.PrintWords Go.Proofs.YtckkfjdkaimmhaaGreatDoorW.PrintLast Go.Proofs.YtckkfjdkaimmhaaGreatDoorW.PrintMore
attribute [local go_sem] max2_int min2_int Yv Yx Xm Xl X9 Yb   -- for this text's walks alone
set_option linter.unusedVariables false
set_option linter.unusedSimpArgs false
attribute [local go_sem high] jJ6
end Go.Proofs.YtckkfjdkaimmhaaGreatDoor.PX
namespace Go.Proofs.YtckkfjdkaimmhaaGreatDoor.M
open Go.RowKit Go.Proofs.YtckkfjdkaimmhaaGreatDoorW.PrintWords Go.Proofs.YtckkfjdkaimmhaaGreatDoor.PX Go.Proofs.YtckkfjdkaimmhaaGreatDoor.G
theorem jHl {l : List Int} (hl : l.length ≤ 1048576) {i : Int} (hc : Cur l i) (h : Int) (t : ByteArray) (ht : t.size ≤ 100000) (ts : List ByteArray) (hts : ts ≠ []) (hz : ∀ x ∈ ts, x.size ≤ 100) :
  ∃ (u : ByteArray) (i' h' : Int), Zd.f l i h t ts = some (u, i', h') ∧ u.size ≤ 400000 := by
 obtain ⟨x, i1, h1, e1, _, b1, c1⟩ := Z9 hl hc h (wrap64 ((t.size : Int) + 1))
 rw [Jb (by omega) (by omega)] at e1 b1
 have b1 := b1 (by omega)
 obtain ⟨y, i2, h2, e2, _, _, c2⟩ := Z9 hl c1 h1 6
 obtain ⟨z, i3, h3, e3, mz, _⟩ := jD1 hl c2 h2 ts hts
 have hz := hz z mz
 unfold Zd.f
 rw [Jb (x := (t.size : Int) + 1) (by omega) (by omega), e1]
 simp only [Option.bind_some]
 rw [e2]
 simp only [Option.bind_some]
 by_cases g0 : y = 0
 ·rw [if_pos g0, if_pos b1.1, if_pos (by omega), e3]
  simp only [Option.bind_some]
  have s1 : (t.extract 0 x.toNat).size ≤ t.size := by rw [ByteArray.size_extract]; omega
  have s2 : (t.extract x.toNat t.size).size ≤ t.size := by rw [ByteArray.size_extract]; omega
  rw [if_pos (by omega), if_pos (by omega)]
  exact ⟨_, _, _, rfl, by rw [ByteArray.size_append, ByteArray.size_append]; omega⟩
 ·rw [if_neg g0]
  by_cases g1 : y = 1
  ·rw [if_pos g1, if_pos b1.1, if_pos (by omega)]
   exact ⟨_, _, _, rfl, by rw [ByteArray.size_extract]; omega⟩
  ·rw [if_neg g1]
   exact ⟨_, _, _, rfl, by omega⟩
def sgB (t : ByteArray) (m : Nat) : Int := if bt t (m : Int) = 45 then -1 else 1
theorem jAy (t : ByteArray) (m : Nat) : sgB t m = 1 ∨ sgB t m = -1 := by unfold sgB; split <;> simp
def six (i j k m x : Nat) : Option (Bool × Nat) :=
 if x = ix3 j i k then some (true, m) else if x = ix3 k j i then some (true, m) else if x = ix3 i k j then some (true, m)
 else if x = ix3 k i j then some (false, m) else if x = ix3 j k i then some (false, m) else if x = ix3 i j k then some (false, m) else none
def Zo : List S77 → Nat → Nat → Option (Bool × Nat)
 | [], _, _ => none
 | y :: r, m, x => match Zo r (m + 1) x with
  | some z => some z
  | none => six y.f0.toNat y.f1.toNat y.f2.toNat m x
def sgv (neg : Bool) (s : Int) : Int := if neg then -s else s
def Uc (t : ByteArray) : List Int → List S77 → Nat → List Int
 | l, [], _ => l
 | l, y :: r, m => Uc t (jHq l y.f0.toNat y.f1.toNat y.f2.toNat (sgB t m)) r (m + 1)
theorem Ui (l : List Int) (m x : Nat) (v : Int) (hx : x < l.length) : (l.set m v).getD x 0 = if x = m then v else l.getD x 0 := by
 simp only [List.getD_eq_getElem?_getD, List.getElem?_set]
 by_cases h : m = x
 ·subst h; simp [hx]
 ·rw [if_neg h, if_neg (fun e => h e.symm)]
theorem jDn (l : List Int) (i j k m x : Nat) (s : Int) (hx : x < l.length) :
  (jHq l i j k s).getD x 0 = match six i j k m x with | some z => sgv z.1 s | none => l.getD x 0 := by
 unfold jHq six
 rw [Ui _ _ _ _ (by simp only [List.length_set]; exact hx), Ui _ _ _ _ (by simp only [List.length_set]; exact hx), Ui _ _ _ _ (by simp only [List.length_set]; exact hx),
  Ui _ _ _ _ (by simp only [List.length_set]; exact hx), Ui _ _ _ _ (by simp only [List.length_set]; exact hx), Ui _ _ _ _ hx]
 split
 ·rfl
 split
 ·rfl
 split
 ·rfl
 split
 ·rfl
 split
 ·rfl
 split <;> rfl
theorem jG4 {i j k m x : Nat} {z : Bool × Nat} (h : six i j k m x = some z) : z.2 = m := by
 unfold six at h
 (repeat' split at h) <;> first | (cases h; rfl) | cases h
theorem Uv (t : ByteArray) : ∀ (ts : List S77) (l : List Int) (m : Nat), (Uc t l ts m).length = l.length
 | [], _, _ => rfl
 | y :: r, l, m => by rw [Uc, Uv t r, Vi]
theorem Vy (t : ByteArray) (x : Nat) : ∀ (ts : List S77) (l : List Int) (m : Nat), x < l.length →
  (Uc t l ts m).getD x 0 = match Zo ts m x with | some z => sgv z.1 (sgB t z.2) | none => l.getD x 0
 | [], _, _, _ => rfl
 | y :: r, l, m, hx => by
  rw [Uc, Vy t x r _ _ (by rw [Vi]; exact hx), Zo]
  cases Zo r (m + 1) x with
  | some z => rfl
  | none =>
   simp only []
   rw [jDn _ _ _ _ m _ _ hx]
   cases hz : six y.f0.toNat y.f1.toNat y.f2.toNat m x with
   | none => rfl
   | some z => rw [← jG4 hz]
def jDx (n : Nat) (t : ByteArray) : List Int := Uc t ((n : Int) :: List.replicate 343 (0 : Int)) (Jg n) 0
theorem Kk (n : Nat) (t : ByteArray) : (jDx n t).length = 344 := by
 unfold jDx
 rw [Uv, List.length_cons, List.length_replicate]
def chi (n : Nat) (t : ByteArray) (i j k : Nat) : Int := match Zo (Jg n) 0 (ix3 i j k) with | some z => sgv z.1 (sgB t z.2) | none => 0
theorem jLq (n : Nat) (t : ByteArray) (i j k : Nat) (hi : i < 7) (hj : j < 7) (hk : k < 7) : rd3 (jDx n t) (i : Int) (j : Int) (k : Int) = chi n t i j k := by
 have hx : ix3 i j k < 344 := by unfold ix3; omega
 have e : rd3 (jDx n t) (i : Int) (j : Int) (k : Int) = (jDx n t).getD (ix3 i j k) 0 := by
  unfold rd3 rd
  have : (1 + (i : Int) * 49 + (j : Int) * 7 + (k : Int)).toNat = ix3 i j k := by unfold ix3; omega
  rw [this]
 rw [e]
 unfold jDx chi
 rw [Vy t _ _ _ _ (by rw [List.length_cons, List.length_replicate]; exact hx)]
 have h0 : ((n : Int) :: List.replicate 343 (0 : Int)).getD (ix3 i j k) 0 = 0 := by
  have : ix3 i j k = (i * 49 + j * 7 + k) + 1 := by unfold ix3; omega
  rw [this, List.getD_cons_succ, List.getD_eq_getElem?_getD, List.getElem?_replicate]
  split <;> rfl
 rw [h0]
theorem jL6 (n : Nat) (t : ByteArray) : rd (jDx n t) 0 = n := by
 have e : rd (jDx n t) 0 = (jDx n t).getD 0 0 := rfl
 rw [e]
 unfold jDx
 rw [Vy t 0 _ _ _ (by rw [List.length_cons]; omega)]
 have h : ∀ (ts : List S77) (m : Nat), Zo ts m 0 = none := by
  intro ts
  induction ts with
  | nil => intro m; rfl
  | cons y r ih =>
   intro m
   rw [Zo, ih]
   have hp : ∀ a b c : Nat, ¬ 0 = ix3 a b c := fun a b c => by unfold ix3; omega
   simp only [six]
   rw [if_neg (hp _ _ _), if_neg (hp _ _ _), if_neg (hp _ _ _), if_neg (hp _ _ _), if_neg (hp _ _ _), if_neg (hp _ _ _)]
 rw [h]
 rfl
def jHd (ts : List S77) : Bool := ts.all fun y => decide (0 ≤ y.f0) && decide (y.f0 < 7) && decide (0 ≤ y.f1) && decide (y.f1 < 7) && decide (0 ≤ y.f2) && decide (y.f2 < 7)
theorem jAa (l : List Int) (a b c s : Int) (hl : l.length = 344) (ha : 0 ≤ a ∧ a < 7) (hb : 0 ≤ b ∧ b < 7) (hc : 0 ≤ c ∧ c < 7) (hs : s = 1 ∨ s = -1) : Jd.f l a b c s = some (jHq l a.toNat b.toNat c.toNat s) := by
 unfold Jd.f
 rw [if_pos ⟨hl, ha, hb, hc, by omega, by omega⟩]
theorem jDt (n : Int) (t : ByteArray) (ts : List S77) (hts : jHd ts = true) (hn : ts.length ≤ 100) (htt : ts.length ≤ t.size) (d : Nat) : ∀ (i : Nat) (l : List Int), i + d = ts.length → l.length = 344 →
  Ev (fun k => Zb.l0 k l ts (ts.length : Int) (i : Int) n t) (Uc t l (ts.drop i) i) := by
 induction d with
 | zero =>
  intro i l hi hl
  rw [List.drop_of_length_le (by omega)]
  refine Q9 ?_
  simp only [Zb.l0]
  exact Q7 (by omega) (Ev.now _)
 | succ d ih =>
  intro i l hi hl
  have hlt : i < ts.length := by omega
  rw [List.drop_eq_getElem_cons hlt, Uc]
  have hy := List.all_eq_true.1 hts ts[i] (List.getElem_mem hlt)
  simp only [Bool.and_eq_true, decide_eq_true_eq] at hy
  obtain ⟨⟨⟨⟨⟨a0, a1⟩, b0⟩, b1⟩, c0⟩, c1⟩ := hy
  have hr : Qb ts (i : Int) = ts[i] := by
   unfold Qb
   rw [Int.toNat_natCast, List.getD_eq_getElem?_getD, List.getElem?_eq_getElem hlt]
   rfl
  refine Q9 ?_
  simp only [Zb.l0, hr]
  refine Qq (by omega) (Qq (by omega) (Qq (by omega) (Qq (by omega) ?_)))
  rw [Jb (by omega) (by omega)]
  have hn := fun s => ih (i + 1) (jHq l ts[i].f0.toNat ts[i].f1.toNat ts[i].f2.toNat s) (by omega) (by rw [Vi]; exact hl)
  by_cases h : bt t (i : Int) = 45
  ·have hsg : sgB t i = -1 := by unfold sgB; rw [if_pos h]
   rw [hsg]
   exact Qq h (Qq hl (Jn (jAa l _ _ _ (-1) hl ⟨a0, a1⟩ ⟨b0, b1⟩ ⟨c0, c1⟩ (Or.inr rfl)) (hn _)))
  ·have hsg : sgB t i = 1 := by unfold sgB; rw [if_neg h]
   rw [hsg]
   exact Q7 h (Qq hl (Jn (jAa l _ _ _ 1 hl ⟨a0, a1⟩ ⟨b0, b1⟩ ⟨c0, c1⟩ (Or.inl rfl)) (hn _)))
def jH2 (n : Nat) : Bool := jHd (Jg n) && decide (((Jg n).length : Int) = jF6 n)
theorem Kb {n : Nat} (h0 : 3 ≤ n) (h1 : n ≤ 7) : jHd (Jg n) = true ∧ ((Jg n).length : Int) = jF6 n := by
 have h : jH2 n = true := by refine five (p := fun n => jH2 n = true) h0 h1 ?_ ?_ ?_ ?_ ?_ <;> decide +kernel
 simpa [jH2] using h
theorem jBr {n : Nat} {t : ByteArray} (h : Xf n t = true) : Ev (fun k => Zb.f k (n : Int) t) (jDx n t) := by
 obtain ⟨⟨h0, h1⟩, h2, _⟩ := (Za _ _).1 h
 have h0 : 3 ≤ n := by omega
 have h1 : n ≤ 7 := by omega
 obtain ⟨hs, hc⟩ := Kb h0 h1
 have hz := X3 h
 unfold Zb.f jDx
 refine Ev.bind (Vr h0 h1) ?_
 have := jDt n t (Jg n) hs (by omega) (by omega) (Jg n).length 0 ((n : Int) :: List.replicate 343 (0 : Int)) (by omega) (by rw [List.length_cons, List.length_replicate])
 exact this
def jNk (n a b c : Nat) : Bool :=
 match Zo (Jg n) 0 (ix3 a b c) with
 | some (false, p) => decide (p < (Jg n).length) && (Q0.f 60 (n : Int) (a : Int) (b : Int) (c : Int) == some (p : Int)) &&
   (Zo (Jg n) 0 (ix3 b c a) == some (false, p)) && (Zo (Jg n) 0 (ix3 c a b) == some (false, p)) &&
   (Zo (Jg n) 0 (ix3 a c b) == some (true, p)) && (Zo (Jg n) 0 (ix3 c b a) == some (true, p)) && (Zo (Jg n) 0 (ix3 b a c) == some (true, p))
 | _ => false
def jNj (n : Nat) : Bool := (List.range n).all fun a => (List.range n).all fun b => (List.range n).all fun c => !(decide (a < b) && decide (b < c)) || jNk n a b c
theorem jIb {n : Nat} (h0 : 3 ≤ n) (h1 : n ≤ 7) : jNj n = true := by
 refine five (p := fun n => jNj n = true) h0 h1 ?_ ?_ ?_ ?_ ?_ <;> decide +kernel
theorem Wl {n a b c : Nat} (t : ByteArray) (h0 : 3 ≤ n) (h1 : n ≤ 7) (hab : a < b) (hbc : b < c) (hc : c < n) :
  ∃ p, p < (Jg n).length ∧ Ev (fun k => Q0.f k (n : Int) (a : Int) (b : Int) (c : Int)) (p : Int) ∧ chi n t a b c = sgB t p ∧ chi n t b c a = sgB t p ∧ chi n t c a b = sgB t p ∧
   chi n t a c b = -sgB t p ∧ chi n t c b a = -sgB t p ∧ chi n t b a c = -sgB t p := by
 have h := jIb h0 h1
 have h := List.all_eq_true.1 h a (List.mem_range.2 (by omega))
 have h := List.all_eq_true.1 h b (List.mem_range.2 (by omega))
 have h := List.all_eq_true.1 h c (List.mem_range.2 hc)
 rw [decide_eq_true hab, decide_eq_true hbc] at h
 simp only [Bool.and_self, Bool.not_true, Bool.false_or] at h
 unfold jNk at h
 split at h
 ·rename_i p hp
  simp only [Bool.and_eq_true, decide_eq_true_eq, beq_iff_eq] at h
  obtain ⟨⟨⟨⟨⟨⟨g0, g1⟩, g2⟩, g3⟩, g4⟩, g5⟩, g6⟩ := h
  refine ⟨p, g0, Ev.of (Q0.mono _ _ _ _) g1, ?_⟩
  unfold chi
  rw [hp, g2, g3, g4, g5, g6]
  exact ⟨rfl, rfl, rfl, rfl, rfl, rfl⟩
 ·cases h
theorem Yz : wrap64 (- -1) = 1 := by decide +kernel
theorem V7 : wrap64 (-(1 : Int)) = -1 := by decide +kernel
theorem at_end {n : Nat} {t : ByteArray} (h : Xf n t = true) {a b c : Nat} {p : Nat} (hp : p < (Jg n).length) (he : Ev (fun k => Q0.f k (n : Int) (a : Int) (b : Int) (c : Int)) (p : Int)) (x y : Int) :
  Ev (fun k => (Q0.f k (n : Int) (a : Int) (b : Int) (c : Int)).bind fun z => if 0 ≤ z then (if z < (t.size : Int) then (if bt t z = 45 then some y else some x) else none) else none) (if bt t (p : Int) = 45 then y else x) := by
 obtain ⟨⟨h0, h1⟩, h2, _⟩ := (Za _ _).1 h
 have hc := (Kb (n := n) (by omega) (by omega)).2
 refine Ev.bind he (Qq (by omega) (Qq (by omega) ?_))
 split <;> exact Ev.now _
theorem jHe {n : Nat} {t : ByteArray} (h : Xf n t = true) {i j k : Nat} (hi : i < n) (hj : j < n) (hk : k < n) (hij : i ≠ j) (hjk : j ≠ k) (hik : i ≠ k) :
  Ev (fun q => Zf.f q (n : Int) t (i : Int) (j : Int) (k : Int)) (chi n t i j k) := by
 obtain ⟨⟨h0, h1⟩, _, _⟩ := (Za _ _).1 h
 have h0 : 3 ≤ n := by omega
 have h1 : n ≤ 7 := by omega
 unfold Zf.f
 rcases Nat.lt_or_gt_of_ne hij with ij | ij
 ·refine Q7 (by omega) (Q9 ?_)
  simp only [Zf.j0]
  rcases Nat.lt_or_gt_of_ne hjk with jk | jk
  ·refine Q7 (by omega) (Q9 ?_)
   simp only [Zf.j1]
   refine Q7 (by omega) ?_
   obtain ⟨p, hp, he, e1, _⟩ := Wl t h0 h1 ij jk hk
   refine Zn (at_end h hp he _ _) ?_
   rw [e1, V7]; rfl
  ·refine Qq (by omega) (Q9 ?_)
   simp only [Zf.j1]
   rcases Nat.lt_or_gt_of_ne hik with ik | ik
   ·refine Q7 (by omega) ?_
    obtain ⟨p, hp, he, _, _, _, e1, _⟩ := Wl t h0 h1 ik jk hj
    refine Zn (at_end h hp he _ _) ?_
    rw [e1, V7, Yz]; unfold sgB; split <;> rfl
   ·refine Qq (by omega) ?_
    obtain ⟨p, hp, he, _, e1, _⟩ := Wl t h0 h1 ik ij hj
    refine Zn (at_end h hp he _ _) ?_
    rw [e1, V7, Yz, V7]; rfl
 ·refine Qq (by omega) (Q9 ?_)
  simp only [Zf.j0]
  rcases Nat.lt_or_gt_of_ne hik with ik | ik
  ·refine Q7 (by omega) (Q9 ?_)
   simp only [Zf.j1]
   refine Q7 (by omega) ?_
   obtain ⟨p, hp, he, _, _, _, _, _, e1⟩ := Wl t h0 h1 ij ik hk
   refine Zn (at_end h hp he _ _) ?_
   rw [e1, Yz]; unfold sgB; split <;> rfl
  ·refine Qq (by omega) (Q9 ?_)
   simp only [Zf.j1]
   rcases Nat.lt_or_gt_of_ne hjk with jk | jk
   ·refine Q7 (by omega) ?_
    obtain ⟨p, hp, he, _, _, e1, _⟩ := Wl t h0 h1 jk ik hi
    refine Zn (at_end h hp he _ _) ?_
    rw [e1, Yz, V7]; rfl
   ·refine Qq (by omega) ?_
    obtain ⟨p, hp, he, _, _, _, _, e1, _⟩ := Wl t h0 h1 jk ij hi
    refine Zn (at_end h hp he _ _) ?_
    rw [e1, Yz, V7, Yz]; unfold sgB; split <;> rfl
end Go.Proofs.YtckkfjdkaimmhaaGreatDoor.M
namespace Go.Proofs.YtckkfjdkaimmhaaGreatDoor.M
open Go.RowKit Go.Proofs.YtckkfjdkaimmhaaGreatDoorW.PrintWords Go.Proofs.YtckkfjdkaimmhaaGreatDoor.PX
def up (l : List Nat) : List Int := l.map fun (x : Nat) => (x : Int)
theorem Xn (l : List Nat) : (up l).length = l.length := List.length_map ..
theorem jAu {l : List Nat} {i : Nat} (h : i < l.length) : rd (up l) (i : Int) = ((l.getD i 0 : Nat) : Int) := by
 unfold rd up
 rw [Int.toNat_natCast, List.getD_eq_getElem?_getD, List.getD_eq_getElem?_getD, List.getElem?_map, List.getElem?_eq_getElem h]
 rfl
def Vp (n x : Nat) : List Nat := (List.range n).filter (fun y => y != x)
def jGh : Bool := (List.range 8).all fun n => (List.range 8).all fun x => decide (Jm.f 30 (n : Int) (x : Int) = some (up (Vp n x)))
theorem jDl : jGh = true := by decide +kernel
theorem jHx {n x : Nat} (hn : n ≤ 7) (hx : x ≤ 7) : Ev (fun k => Jm.f k (n : Int) (x : Int)) (up (Vp n x)) := by
 have h := jDl
 have h := List.all_eq_true.1 h n (List.mem_range.2 (by omega))
 have h := List.all_eq_true.1 h x (List.mem_range.2 (by omega))
 exact Ev.of (Jm.mono _ _) (of_decide_eq_true h)
def jNn (n : Nat) : Bool := (List.range n).all fun x => decide ((Vp n x).length = n - 1) && decide ((Vp n x).Nodup) && (Vp n x).all fun y => decide (y < n)
theorem jKk {n : Nat} (h0 : 3 ≤ n) (h1 : n ≤ 7) : jNn n = true := by
 refine five (p := fun n => jNn n = true) h0 h1 ?_ ?_ ?_ ?_ ?_ <;> decide +kernel
theorem jDp {n x : Nat} (h0 : 3 ≤ n) (h1 : n ≤ 7) (hx : x < n) : (Vp n x).length = n - 1 ∧ (Vp n x).Nodup ∧ ∀ y ∈ Vp n x, y < n := by
 have h := List.all_eq_true.1 (jKk h0 h1) x (List.mem_range.2 hx)
 simp only [Bool.and_eq_true, decide_eq_true_eq, List.all_eq_true] at h
 exact ⟨h.1.1, h.1.2, h.2⟩
end Go.Proofs.YtckkfjdkaimmhaaGreatDoor.M
namespace Go.Proofs.YtckkfjdkaimmhaaGreatDoor.M
open Go.RowKit Go.Proofs.YtckkfjdkaimmhaaGreatDoorW.PrintWords Go.Proofs.YtckkfjdkaimmhaaGreatDoor.PX Go.Proofs.YtckkfjdkaimmhaaGreatDoor.G
def sgC (x : Int) : UInt8 := if x > 0 then 43 else 45
def mkB (l : List UInt8) : ByteArray := ⟨l.toArray⟩
theorem Uk (l : List UInt8) : (mkB l).size = l.length := by simp [mkB, ByteArray.size]
theorem Wt (l l' : List UInt8) : mkB l ++ mkB l' = mkB (l ++ l') := by
 apply ByteArray.ext
 rw [ByteArray.data_append]
 simp [mkB]
theorem jHn (x : Int) : Xb.f x = some (mkB [sgC x]) := by
 unfold Xb.f sgC
 split <;> rfl
def byt (n : Nat) (t : ByteArray) (l : List Nat) (i j k : Nat) : UInt8 := sgC (chi n t (l.getD i 0) (l.getD j 0) (l.getD k 0))
def pk2 (n : Nat) (t : ByteArray) (l : List Nat) (i j k d : Nat) : List UInt8 := (List.range' k d).map fun k => byt n t l i j k
def pk1 (n : Nat) (t : ByteArray) (l : List Nat) (i j d : Nat) : List UInt8 := (List.range' j d).flatMap fun j => pk2 n t l i j (j + 1) (l.length - (j + 1))
def pk0 (n : Nat) (t : ByteArray) (l : List Nat) (i d : Nat) : List UInt8 := (List.range' i d).flatMap fun i => pk1 n t l i (i + 1) (l.length - (i + 1))
theorem jBt (n : Nat) (t : ByteArray) (l : List Nat) (i j k d : Nat) : (pk2 n t l i j k d).length = d := by simp [pk2]
theorem jFo (n : Nat) (t : ByteArray) (l : List Nat) (hl : l.length ≤ 7) (i : Nat) (d : Nat) : ∀ j, (pk1 n t l i j d).length ≤ 7 * d := by
 induction d with
 | zero => intro j; simp [pk1]
 | succ d ih =>
  intro j
  have e : pk1 n t l i j (d + 1) = pk2 n t l i j (j + 1) (l.length - (j + 1)) ++ pk1 n t l i (j + 1) d := by rw [pk1, List.range'_succ, List.flatMap_cons]; rfl
  have := ih (j + 1)
  rw [e, List.length_append, jBt]
  omega
section
variable {n : Nat} {t : ByteArray} (h : Xf n t = true) {l : List Nat} (hl : l.length ≤ 7) (hm : ∀ x ∈ l, x < n) (hd : l.Nodup)
include h hl hm hd
theorem jM7 {i j : Nat} (hij : i < j) (hj : j < l.length) (m : Int) (r : Int × ByteArray) (d : Nat) : ∀ (k : Nat) (u : List UInt8), j < k → k + d = l.length → u.length + d ≤ 9000 →
  Ev (fun q => Ja.l1 q (up l) (i : Int) ((j + 1 : Nat) : Int) (n : Int) t m (mkB (u ++ pk2 n t l i j k d))) r → Ev (fun q => Ja.l2 q (up l) (i : Int) (j : Int) (k : Int) (n : Int) t m (mkB u)) r := by
 induction d with
 | zero =>
  intro k u hk hkd hu hr
  refine Q9 ?_
  simp only [Ja.l2, Xn]
  refine Q7 (by omega) ?_
  rw [Jb (by omega) (by omega)]
  simpa only [pk2, List.range'_zero, List.map_nil, List.append_nil, Int.natCast_add, Int.cast_ofNat_Int] using hr
 | succ d ih =>
  intro k u hk hkd hu hr
  refine Q9 ?_
  simp only [Ja.l2, Xn]
  refine Qq (by omega) (Qq (by omega) (Qq (by omega) (Qq (by omega) (Qq (by omega) (Qq (by omega) ?_)))))
  rw [Jb (by omega) (by omega), jAu (i := i) (by omega), jAu (i := j) hj, jAu (i := k) (by omega)]
  have hi' : i < l.length := by omega
  have hk' : k < l.length := by omega
  have ei : l.getD i 0 = l[i] := by rw [List.getD_eq_getElem?_getD, List.getElem?_eq_getElem hi']; rfl
  have ej : l.getD j 0 = l[j] := by rw [List.getD_eq_getElem?_getD, List.getElem?_eq_getElem hj]; rfl
  have ek : l.getD k 0 = l[k] := by rw [List.getD_eq_getElem?_getD, List.getElem?_eq_getElem hk']; rfl
  have ne : ∀ {a b : Nat} (ha : a < l.length) (hb : b < l.length), a < b → l[a] ≠ l[b] := fun {a b} ha hb hab => List.pairwise_iff_getElem.1 hd a b ha hb hab
  refine Ev.bind (jHe h (by rw [ei]; exact hm _ (List.getElem_mem _)) (by rw [ej]; exact hm _ (List.getElem_mem _)) (by rw [ek]; exact hm _ (List.getElem_mem _)) (by rw [ei, ej]; exact ne _ _ hij) (by rw [ej, ek]; exact ne _ _ hk) (by rw [ei, ek]; exact ne _ _ (by omega))) ?_
  refine Jn (jHn _) (Qq (by rw [Uk, Uk]; simp only [List.length_cons, List.length_nil]; omega) ?_)
  rw [Wt]
  refine ih (k + 1) _ (by omega) (by omega) (by simp only [List.length_append, List.length_cons, List.length_nil]; omega) ?_
  rw [List.append_assoc]
  have e : pk2 n t l i j k (d + 1) = [byt n t l i j k] ++ pk2 n t l i j (k + 1) d := by rw [pk2, List.range'_succ, List.map_cons]; rfl
  rw [e] at hr
  exact hr
theorem jM6 {i : Nat} (hi : i < l.length) (m : Int) (r : Int × ByteArray) (d : Nat) : ∀ (j : Nat) (u : List UInt8), i < j → j + d = l.length → u.length + 7 * d ≤ 8000 →
  Ev (fun q => Ja.l0 q (up l) ((i + 1 : Nat) : Int) (n : Int) t m (mkB (u ++ pk1 n t l i j d))) r → Ev (fun q => Ja.l1 q (up l) (i : Int) (j : Int) (n : Int) t m (mkB u)) r := by
 induction d with
 | zero =>
  intro j u hj hjd hu hr
  refine Q9 ?_
  simp only [Ja.l1, Xn]
  refine Q7 (by omega) ?_
  rw [Jb (by omega) (by omega)]
  simpa only [pk1, List.range'_zero, List.flatMap_nil, List.append_nil, Int.natCast_add, Int.cast_ofNat_Int] using hr
 | succ d ih =>
  intro j u hj hjd hu hr
  refine Q9 ?_
  simp only [Ja.l1, Xn]
  refine Qq (by omega) ?_
  rw [Jb (by omega) (by omega)]
  refine jM7 h hl hm hd hj (by omega) m r (l.length - (j + 1)) (j + 1) u (by omega) (by omega) (by omega) ?_
  refine ih (j + 1) _ (by omega) (by omega) (by rw [List.length_append, jBt]; omega) ?_
  rw [List.append_assoc]
  have e : pk1 n t l i j (d + 1) = pk2 n t l i j (j + 1) (l.length - (j + 1)) ++ pk1 n t l i (j + 1) d := by rw [pk1, List.range'_succ, List.flatMap_cons]; rfl
  rw [e] at hr
  exact hr
theorem jM3 (m : Int) (d : Nat) : ∀ (i : Nat) (u : List UInt8), i + d = l.length → u.length + 49 * d ≤ 7000 →
  Ev (fun q => Ja.l0 q (up l) (i : Int) (n : Int) t m (mkB u)) (m, mkB (u ++ pk0 n t l i d)) := by
 induction d with
 | zero =>
  intro i u hi hu
  refine Q9 ?_
  simp only [Ja.l0, Xn]
  refine Q7 (by omega) (Zn (Ev.now _) ?_)
  simp only [pk0, List.range'_zero, List.flatMap_nil, List.append_nil]
 | succ d ih =>
  intro i u hi hu
  refine Q9 ?_
  simp only [Ja.l0, Xn]
  refine Qq (by omega) ?_
  rw [Jb (by omega) (by omega)]
  refine jM6 h hl hm hd (by omega) m _ (l.length - (i + 1)) (i + 1) u (by omega) (by omega) (by omega) ?_
  have hb := jFo n t l hl i (l.length - (i + 1)) (i + 1)
  refine Zn (ih (i + 1) _ (by omega) (by rw [List.length_append]; omega)) ?_
  have e : pk0 n t l i (d + 1) = pk1 n t l i (i + 1) (l.length - (i + 1)) ++ pk0 n t l (i + 1) d := by rw [pk0, List.range'_succ, List.flatMap_cons]; rfl
  rw [e, List.append_assoc]
theorem jGg : Ev (fun q => Ja.f q (n : Int) t (up l)) ((l.length : Int), mkB (pk0 n t l 0 l.length)) := by
 unfold Ja.f
 rw [Xn]
 exact jM3 h hl hm hd (l.length : Int) l.length 0 [] (by omega) (by simp only [List.length_nil]; omega)
end
def lkL (n : Nat) (l : List Nat) : List (Option (Bool × Nat)) := (List.range' 0 l.length).flatMap fun i => (List.range' (i + 1) (l.length - (i + 1))).flatMap fun j => (List.range' (j + 1) (l.length - (j + 1))).map fun k => Zo (Jg n) 0 (ix3 (l.getD i 0) (l.getD j 0) (l.getD k 0))
def lkB (t : ByteArray) (z : Option (Bool × Nat)) : UInt8 := sgC (match z with | some z => sgv z.1 (sgB t z.2) | none => 0)
theorem jIy (n : Nat) (t : ByteArray) (l : List Nat) : pk0 n t l 0 l.length = (lkL n l).map (lkB t) := by
 simp only [pk0, pk1, pk2, lkL, List.map_flatMap, List.map_map]
 rfl
theorem jIs {t : ByteArray} (ht : ∀ c ∈ t.data.toList, c = 43 ∨ c = 45) {p : Nat} (hp : p < t.data.toList.length) : lkB t (some (false, p)) = t.data.toList[p] := by
 show sgC (sgB t p) = _
 unfold sgB
 rw [K6 hp]
 rcases ht _ (List.getElem_mem hp) with e | e <;> rw [e] <;> rfl
theorem jAh {l l' : List Int} (h : l.length = l'.length) (h' : ∀ x, x < l.length → l.getD x 0 = l'.getD x 0) : l = l' := by
 refine List.ext_getElem h fun x h1 h2 => ?_
 have := h' x h1
 rw [List.getD_eq_getElem?_getD, List.getD_eq_getElem?_getD, List.getElem?_eq_getElem h1, List.getElem?_eq_getElem h2] at this
 exact this
def jJh (n : Nat) (s : Nat → Int) (x : Nat) : Int := match Zo (Jg n) 0 x with | some z => sgv z.1 (s z.2) | none => 0
def jKt (n : Nat) (s : Nat → Int) (a b c : Nat) : Int := jJh n s (ix3 a b c)
def Wj (n : Nat) (s : Nat → Int) : List Int := (n : Int) :: (List.range 343).map fun x => jJh n s (x + 1)
theorem Xo (n : Nat) (s : Nat → Int) : (Wj n s).length = 344 := by simp [Wj]
theorem Ug (n : Nat) (s : Nat → Int) {x : Nat} (h0 : x ≠ 0) (hx : x < 344) : (Wj n s).getD x 0 = jJh n s x := by
 obtain ⟨y, rfl⟩ : ∃ y, x = y + 1 := ⟨x - 1, by omega⟩
 rw [Wj, List.getD_cons_succ, List.getD_eq_getElem?_getD, List.getElem?_map, List.getElem?_range (by omega)]
 rfl
theorem jGv (n : Nat) (s : Nat → Int) : rd (Wj n s) 0 = n := rfl
theorem jHv (n : Nat) (s : Nat → Int) {a b c : Nat} (ha : a < 7) (hb : b < 7) (hc : c < 7) : rd3 (Wj n s) (a : Int) (b : Int) (c : Int) = jKt n s a b c := by
 have e : rd3 (Wj n s) (a : Int) (b : Int) (c : Int) = (Wj n s).getD (ix3 a b c) 0 := by
  unfold rd3 rd
  have : (1 + (a : Int) * 49 + (b : Int) * 7 + (c : Int)).toNat = ix3 a b c := by unfold ix3; omega
  rw [this]
 rw [e, Ug n s (by unfold ix3; omega) (by unfold ix3; omega)]
 rfl
theorem jE1 (n : Nat) (t : ByteArray) (a b c : Nat) : chi n t a b c = jKt n (sgB t) a b c := rfl
theorem jLl (n : Nat) (t : ByteArray) : jDx n t = Wj n (sgB t) := by
 refine jAh (by rw [Kk, Xo]) fun x hx => ?_
 rw [Kk] at hx
 by_cases h0 : x = 0
 ·subst h0
  exact jL6 n t
 ·rw [Ug n _ h0 hx]
  unfold jDx jJh
  rw [Vy t _ _ _ _ (by rw [List.length_cons, List.length_replicate]; exact hx)]
  obtain ⟨y, rfl⟩ : ∃ y, x = y + 1 := ⟨x - 1, by omega⟩
  have : ((n : Int) :: List.replicate 343 (0 : Int)).getD (y + 1) 0 = 0 := by
   rw [List.getD_cons_succ, List.getD_eq_getElem?_getD, List.getElem?_replicate]
   split <;> rfl
  rw [this]
  all_goals (cases Zo (Jg n) 0 (y + 1) <;> rfl)
theorem jCx (n : Nat) : (n : Int) :: List.replicate 343 (0 : Int) = Wj n (fun _ => 0) := by
 unfold Wj
 congr 1
 refine List.ext_getElem (by rw [List.length_replicate, List.length_map, List.length_range]) fun x h1 h2 => ?_
 simp only [List.getElem_replicate, List.getElem_map, List.getElem_range, jJh]
 cases Zo (Jg n) 0 (x + 1) with
 | none => rfl
 | some z => obtain ⟨b, m⟩ := z; cases b <;> rfl
theorem jB9 (ts : List S77) : ∀ (m0 x : Nat) (z : Bool × Nat), Zo ts m0 x = some z → ∃ p, ∃ h : p < ts.length, z.2 = m0 + p ∧ six ts[p].f0.toNat ts[p].f1.toNat ts[p].f2.toNat (m0 + p) x = some z := by
 induction ts with
 | nil => intro m0 x z h; cases h
 | cons y r ih =>
  intro m0 x z h
  rw [Zo] at h
  cases hr : Zo r (m0 + 1) x with
  | some z' =>
   rw [hr] at h
   cases h
   obtain ⟨p, hp, h1, h2⟩ := ih (m0 + 1) x _ hr
   refine ⟨p + 1, by simp only [List.length_cons]; omega, by omega, ?_⟩
   simp only [List.getElem_cons_succ]
   rw [show m0 + (p + 1) = m0 + 1 + p by omega]
   exact h2
  | none =>
   rw [hr] at h
   have h' : six y.f0.toNat y.f1.toNat y.f2.toNat m0 x = some z := h
   exact ⟨0, by simp, by rw [jG4 h']; rfl, h'⟩
def jKu (a b c : Nat) : List Nat := [ix3 b a c, ix3 c b a, ix3 a c b, ix3 c a b, ix3 b c a, ix3 a b c]
theorem jE4 {a b c m x : Nat} : six a b c m x = none ↔ x ∉ jKu a b c := by
 unfold six jKu
 simp only [List.mem_cons, List.not_mem_nil, or_false, not_or]
 constructor
 ·intro h
  (repeat' split at h) <;> first | exact ⟨by assumption, by assumption, by assumption, by assumption, by assumption, by assumption⟩ | cases h
 ·rintro ⟨h1, h2, h3, h4, h5, h6⟩
  rw [if_neg h1, if_neg h2, if_neg h3, if_neg h4, if_neg h5, if_neg h6]
def Xj (n p : Nat) : S77 := (Jg n).getD p ⟨0, 0, 0⟩
theorem Y5 {n p : Nat} (h : p < (Jg n).length) : Xj n p = (Jg n)[p] := by
 unfold Xj
 rw [List.getD_eq_getElem?_getD, List.getElem?_eq_getElem h]; rfl
def jK4 (n a b c : Nat) : Bool :=
 match Zo (Jg n) 0 (ix3 a b c) with
 | some (neg, p) => decide (p < (Jg n).length) && (Zo (Jg n) 0 (ix3 b a c) == some (!neg, p)) && (Zo (Jg n) 0 (ix3 c b a) == some (!neg, p)) && (Zo (Jg n) 0 (ix3 a c b) == some (!neg, p)) &&
   (Zo (Jg n) 0 (ix3 c a b) == some (neg, p)) && (Zo (Jg n) 0 (ix3 b c a) == some (neg, p)) &&
   ((jKu (Xj n p).f0.toNat (Xj n p).f1.toNat (Xj n p).f2.toNat).all fun x => (jKu a b c).contains x)
 | none => false
def jNi (n : Nat) : Bool := (List.range n).all fun a => (List.range n).all fun b => (List.range n).all fun c => (decide (a = b) || decide (b = c) || decide (a = c)) || jK4 n a b c
theorem jIu {n : Nat} (h0 : 3 ≤ n) (h1 : n ≤ 7) : jNi n = true := by
 refine five (p := fun n => jNi n = true) h0 h1 ?_ ?_ ?_ ?_ ?_ <;> decide +kernel
theorem jCd {n a b c : Nat} (h0 : 3 ≤ n) (h1 : n ≤ 7) (ha : a < n) (hb : b < n) (hc : c < n) (hab : a ≠ b) (hbc : b ≠ c) (hac : a ≠ c) :
  ∃ neg p, Zo (Jg n) 0 (ix3 a b c) = some (neg, p) ∧ p < (Jg n).length ∧ Zo (Jg n) 0 (ix3 b a c) = some (!neg, p) ∧ Zo (Jg n) 0 (ix3 c b a) = some (!neg, p) ∧ Zo (Jg n) 0 (ix3 a c b) = some (!neg, p) ∧
   Zo (Jg n) 0 (ix3 c a b) = some (neg, p) ∧ Zo (Jg n) 0 (ix3 b c a) = some (neg, p) ∧ ∀ x ∈ jKu (Xj n p).f0.toNat (Xj n p).f1.toNat (Xj n p).f2.toNat, x ∈ jKu a b c := by
 have h := jIu h0 h1
 have h := List.all_eq_true.1 h a (List.mem_range.2 ha)
 have h := List.all_eq_true.1 h b (List.mem_range.2 hb)
 have h := List.all_eq_true.1 h c (List.mem_range.2 hc)
 rw [decide_eq_false hab, decide_eq_false hbc, decide_eq_false hac] at h
 simp only [Bool.or_self, Bool.false_or] at h
 unfold jK4 at h
 split at h
 ·rename_i neg p hp
  simp only [Bool.and_eq_true, decide_eq_true_eq, beq_iff_eq, List.all_eq_true, List.contains_iff_mem] at h
  obtain ⟨⟨⟨⟨⟨⟨g0, g1⟩, g2⟩, g3⟩, g4⟩, g5⟩, g6⟩ := h
  exact ⟨neg, p, hp, g0, g1, g2, g3, g4, g5, g6⟩
 ·cases h
def upd (s : Nat → Int) (p : Nat) (v : Int) : Nat → Int := fun q => if q = p then v else s q
theorem jCt (s : Nat → Int) (p : Nat) (v : Int) : upd s p v p = v := if_pos rfl
theorem upd_ne (s : Nat → Int) {p q : Nat} (v : Int) (h : q ≠ p) : upd s p v q = s q := if_neg h
theorem jKp (f neg : Bool) (v : Int) : sgv (f ^^ neg) (sgv neg v) = sgv f v := by
 cases f <;> cases neg <;> simp [sgv]
theorem jEu {n a b c p : Nat} {neg : Bool} (s : Nat → Int) (v : Int) (h0 : 3 ≤ n) (h1 : n ≤ 7) (ha : a < n) (hb : b < n) (hc : c < n) (hab : a ≠ b) (hbc : b ≠ c) (hac : a ≠ c) (hl : Zo (Jg n) 0 (ix3 a b c) = some (neg, p)) :
  jHq (Wj n s) a b c v = Wj n (upd s p (sgv neg v)) := by
 obtain ⟨neg', p', e0, hp, e1, e2, e3, e4, e5, e6⟩ := jCd h0 h1 ha hb hc hab hbc hac
 rw [hl] at e0
 cases e0
 refine jAh (by rw [Vi, Xo, Xo]) fun x hx => ?_
 rw [Vi] at hx
 have hx' := hx
 rw [Xo] at hx'
 rw [jDn _ _ _ _ 0 _ _ hx]
 have key : ∀ (f : Bool) (y : Nat), y ≠ 0 → y < 344 → Zo (Jg n) 0 y = some (f ^^ neg, p) → sgv f v = (Wj n (upd s p (sgv neg v))).getD y 0 := by
  intro f y hy0 hy hly
  rw [Ug _ _ hy0 hy]
  unfold jJh
  rw [hly]
  show _ = sgv (f ^^ neg) (upd s p (sgv neg v) p)
  rw [jCt, jKp]
 have nz : ∀ i j k : Nat, ix3 i j k ≠ 0 := fun i j k => by unfold ix3; omega
 cases hs : six a b c 0 x with
 | some z =>
  have hs' := hs
  unfold six at hs'
  split at hs'
  ·rename_i e; cases hs'; subst e; exact key true _ (nz _ _ _) hx' (by rw [e1]; cases neg <;> rfl)
  split at hs'
  ·rename_i e; cases hs'; subst e; exact key true _ (nz _ _ _) hx' (by rw [e2]; cases neg <;> rfl)
  split at hs'
  ·rename_i e; cases hs'; subst e; exact key true _ (nz _ _ _) hx' (by rw [e3]; cases neg <;> rfl)
  split at hs'
  ·rename_i e; cases hs'; subst e; exact key false _ (nz _ _ _) hx' (by rw [e4]; cases neg <;> rfl)
  split at hs'
  ·rename_i e; cases hs'; subst e; exact key false _ (nz _ _ _) hx' (by rw [e5]; cases neg <;> rfl)
  split at hs'
  ·rename_i e; cases hs'; subst e; exact key false _ (nz _ _ _) hx' (by rw [hl]; cases neg <;> rfl)
  ·cases hs'
 | none =>
  show (Wj n s).getD x 0 = _
  by_cases hz : x = 0
  ·subst hz; rfl
  rw [Ug _ _ hz hx', Ug _ _ hz hx']
  unfold jJh
  cases hx0 : Zo (Jg n) 0 x with
  | none => rfl
  | some z =>
   show sgv z.1 (s z.2) = sgv z.1 (upd s p (sgv neg v) z.2)
   rw [upd_ne]
   intro hzp
   obtain ⟨q, hq, g1, g2⟩ := jB9 (Jg n) 0 x z hx0
   obtain rfl : q = p := by omega
   rw [← Y5 hq] at g2
   refine jE4.1 hs (e6 x ?_)
   refine Classical.byContradiction fun hn => ?_
   rw [jE4.2 hn] at g2
   cases g2
def jNm (n : Nat) : Bool := (List.range (Jg n).length).all fun p => (Zo (Jg n) 0 (ix3 (Xj n p).f0.toNat (Xj n p).f1.toNat (Xj n p).f2.toNat) == some (false, p)) && decide ((Xj n p).f0 < (Xj n p).f1) && decide ((Xj n p).f1 < (Xj n p).f2) && decide ((Xj n p).f2 < n) && decide (0 ≤ (Xj n p).f0)
theorem jIa {n : Nat} (h0 : 3 ≤ n) (h1 : n ≤ 7) : (jNm n && decide ((Jg n).length ≤ 35)) = true := by
 refine five (p := fun n => (jNm n && decide ((Jg n).length ≤ 35)) = true) h0 h1 ?_ ?_ ?_ ?_ ?_ <;> decide +kernel
theorem Ua {n p : Nat} (h0 : 3 ≤ n) (h1 : n ≤ 7) (hp : p < (Jg n).length) : ∃ a b c : Nat, (Jg n)[p] = ⟨(a : Int), (b : Int), (c : Int)⟩ ∧ a < b ∧ b < c ∧ c < n ∧ Zo (Jg n) 0 (ix3 a b c) = some (false, p) := by
 have h := jIa h0 h1
 simp only [Bool.and_eq_true, decide_eq_true_eq] at h
 have h := List.all_eq_true.1 h.1 p (List.mem_range.2 hp)
 simp only [Bool.and_eq_true, decide_eq_true_eq, beq_iff_eq] at h
 obtain ⟨⟨⟨⟨g0, g1⟩, g2⟩, g3⟩, g4⟩ := h
 rw [Y5 hp] at *
 generalize (Jg n)[p] = y at *
 obtain ⟨x0, x1, x2⟩ := y
 simp only at *
 refine ⟨x0.toNat, x1.toNat, x2.toNat, ?_, by omega, by omega, by omega, g0⟩
 rw [Int.toNat_of_nonneg (by omega), Int.toNat_of_nonneg (by omega), Int.toNat_of_nonneg (by omega)]
theorem jAr {n p a b c : Nat} {neg : Bool} (s : Nat → Int) (h : Zo (Jg n) 0 (ix3 a b c) = some (neg, p)) : jKt n s a b c = sgv neg (s p) := by
 unfold jKt jJh
 rw [h]
def K3 (n : Nat) (s : Nat → Int) : ByteArray := mkB ((List.range (Jg n).length).map fun p => sgC (s p))
theorem jB3 {α β : Type} (f : α → β) (l : List α) : ∀ s : List β, l.foldl (fun s a => s ++ [f a]) s = s ++ l.map f := by
 induction l with
 | nil => intro s; simp
 | cons x l ih => intro s; rw [List.foldl_cons, ih, List.map_cons, List.append_assoc]; rfl
theorem jBd (n : Nat) (s : Nat → Int) : (K3 n s).data.toList = (List.range (Jg n).length).map fun p => sgC (s p) := rfl
theorem jBk {n : Nat} {s s' : Nat → Int} (h : ∀ p, p < (Jg n).length → s p = s' p) : K3 n s = K3 n s' := by
 unfold K3
 congr 1
 refine List.map_congr_left fun p hp => ?_
 rw [h p (List.mem_range.1 hp)]
theorem jAi {n : Nat} (s : Nat → Int) (h0 : 3 ≤ n) (h1 : n ≤ 7) : Xf n (K3 n s) = true := by
 rw [Za]
 refine ⟨by omega, ?_, fun c hc => ?_⟩
 ·rw [← (Kb h0 h1).2, K3, Uk, List.length_map, List.length_range]
 ·rw [jBd, List.mem_map] at hc
  obtain ⟨p, _, rfl⟩ := hc
  unfold sgC
  split <;> simp
theorem jIz {n p : Nat} {s : Nat → Int} (hp : p < (Jg n).length) (hs : s p = 1 ∨ s p = -1) : sgB (K3 n s) p = s p := by
 have hl : p < (K3 n s).data.toList.length := by rw [jBd, List.length_map, List.length_range]; exact hp
 unfold sgB
 rw [K6 hl]
 have : (K3 n s).data.toList[p] = sgC (s p) := by simp only [jBd, List.getElem_map, List.getElem_range]
 rw [this]
 rcases hs with h | h <;> rw [h] <;> rfl
theorem jFf {n a b c : Nat} {s : Nat → Int} (hs : ∀ p, p < (Jg n).length → s p = 1 ∨ s p = -1) : chi n (K3 n s) a b c = jKt n s a b c := by
 rw [jE1]
 unfold jKt jJh
 cases hx0 : Zo (Jg n) 0 (ix3 a b c) with
 | none => rfl
 | some z =>
  obtain ⟨q, hq, g1, g2⟩ := jB9 (Jg n) 0 _ z hx0
  show sgv z.1 _ = sgv z.1 _
  have hz : z.2 < (Jg n).length := by omega
  rw [jIz hz (hs _ hz)]
theorem W9 {n a b c : Nat} (h0 : 3 ≤ n) (h1 : n ≤ 7) (hab : a < b) (hbc : b < c) (hc : c < n) : ∃ p, ∃ hp : p < (Jg n).length, (Jg n)[p] = ⟨(a : Int), (b : Int), (c : Int)⟩ ∧ Zo (Jg n) 0 (ix3 a b c) = some (false, p) ∧ Zo (Jg n) 0 (ix3 b a c) = some (true, p) ∧ Zo (Jg n) 0 (ix3 c b a) = some (true, p) ∧ Zo (Jg n) 0 (ix3 a c b) = some (true, p) ∧ Zo (Jg n) 0 (ix3 c a b) = some (false, p) ∧ Zo (Jg n) 0 (ix3 b c a) = some (false, p) := by
 have hm := jAk hab hbc hc
 obtain ⟨p, hp, e⟩ := List.getElem_of_mem hm
 have eN := jBc h0 h1
 have hp' : p < (Jg n).length := by rw [eN, List.length_map]; exact hp
 have e2 : (Jg n)[p] = ⟨(a : Int), (b : Int), (c : Int)⟩ := by
  simp only [eN, List.getElem_map, e]
 obtain ⟨a', b', c', e3, _, _, _, hlk⟩ := Ua h0 h1 hp'
 rw [e2] at e3
 injection e3 with i1 i2 i3
 obtain rfl := Int.ofNat_inj.1 i1
 obtain rfl := Int.ofNat_inj.1 i2
 obtain rfl := Int.ofNat_inj.1 i3
 obtain ⟨neg, q, f0, _, f1, f2, f3, f4, f5, _⟩ := jCd (a := a) (b := b) (c := c) h0 h1 (by omega) (by omega) hc (by omega) (by omega) (by omega)
 rw [hlk] at f0
 cases f0
 exact ⟨p, hp', e2, hlk, f1, f2, f3, f4, f5⟩
theorem jBl {n : Nat} {s : Nat → Int} (g : Nat × Nat × Nat → UInt8) (h0 : 3 ≤ n) (h1 : n ≤ 7) (h : ∀ (p : Nat) (hp : p < (Jg n).length) (a b c : Nat), (Jg n)[p] = ⟨(a : Int), (b : Int), (c : Int)⟩ → sgC (s p) = g (a, b, c)) : mkB ((Xx n).map g) = K3 n s := by
 unfold K3
 congr 1
 have e := jBc h0 h1
 have el : (Xx n).length = (Jg n).length := by rw [e, List.length_map]
 refine List.ext_getElem (by rw [List.length_map, List.length_map, List.length_range, el]) fun p hp1 hp2 => ?_
 rw [List.length_map, List.length_range] at hp2
 simp only [List.getElem_map, List.getElem_range]
 have hp : p < (Xx n).length := by omega
 have e1 : (Jg n)[p] = ⟨((Xx n)[p].1 : Int), ((Xx n)[p].2.1 : Int), ((Xx n)[p].2.2 : Int)⟩ := by
  simp only [e, List.getElem_map]
 exact (h p hp2 _ _ _ e1).symm
def sgI (x : Int) : Int := if x > 0 then 43 else 45
theorem jI6 (x : Int) : UInt8.ofNat (sgI x).toNat = sgC x := by unfold sgI sgC; split <;> rfl
theorem jFi {n : Nat} (s : Nat → Int) (h0 : 3 ≤ n) (h1 : n ≤ 7) : Ev (fun k => Qy.f k (Wj n s)) ((n : Int), K3 n s) := by
 unfold Qy.f
 rw [jGv]
 refine Ev.bind (Vr h0 h1) ?_
 have hl := jAc h0 h1
 have h := Y6 (K := fun x _ => some ((n : Int), strOfNums x)) (L := fun i x k => Qy.l0 k (Wj n s) x (Jg n) ((Jg n).length : Int) i) (lo := 0) (n := (Jg n).length)
  (fun i x => x.length = i) (fun x i => .ok (x ++ [sgI (s i)])) (fun x hx => ?_) (fun i _ hi x hx => ?_) (fun i _ hi x hx x' e => ?_) (by omega) [] rfl
 ·rw [V8, jB3, List.nil_append] at h
  refine Zn (h _ (Ev.now _)) ?_
  refine Prod.ext rfl ?_
  show strOfNums _ = K3 n s
  unfold strOfNums K3 mkB
  rw [List.map_map, Nat.sub_zero, ← List.range_eq_range']
  congr 2
  exact List.map_congr_left fun p _ => jI6 _
 ·refine Goes.step ?_
  simp only [Qy.l0]
  refine Goes.neg (by omega) ?_
  rw [jGv]
  exact Goes.ok (K := fun x _ => some ((n : Int), strOfNums x)) x
 ·obtain ⟨a, b, c, e, hab, hbc, hc, hlk⟩ := Ua h0 h1 hi
  refine Goes.step ?_
  simp only [Qy.l0, jCp hi, e]
  refine Goes.pos (by omega) (Goes.pos (by omega) (Goes.pos (by omega) (Goes.pos (by omega) (Goes.pos (by omega) (Goes.pos (by omega) (Goes.pos (by omega) (Goes.pos (by omega) (Goes.pos (by omega) ?_))))))))
  rw [jHv n s (by omega) (by omega) (by omega), jAr s hlk, Jb (by omega) (by omega)]
  by_cases g : sgv false (s i) > 0
  ·refine Goes.pos g (Goes.pos (by omega) ?_)
   rw [show sgI (s i) = 43 from if_pos g]
   exact Goes.ok (K := fun x k => Qy.l0 k (Wj n s) x (Jg n) ((Jg n).length : Int) ((i + 1 : Nat) : Int)) _
  ·refine Goes.neg g (Goes.pos (by omega) ?_)
   rw [show sgI (s i) = 45 from if_neg g]
   exact Goes.ok (K := fun x k => Qy.l0 k (Wj n s) x (Jg n) ((Jg n).length : Int) ((i + 1 : Nat) : Int)) _
 ·cases e
  rw [List.length_append, hx]; rfl
def Kj (l : List IP) (q : Nat) : Int := jF3 (Vw (pt l (Xj l.length q).f0.toNat) (pt l (Xj l.length q).f1.toNat) (pt l (Xj l.length q).f2.toNat))
def Yl (l : List IP) : Int × ByteArray × Bool := if Y3 l = true then ((l.length : Int), K3 l.length (Kj l), true) else (0, ⟨#[]⟩, false)
theorem jAd {l : List IP} {q a b c : Nat} (hq : q < (Jg l.length).length) (e : (Jg l.length)[q] = ⟨(a : Int), (b : Int), (c : Int)⟩) : Kj l q = jF3 (Vw (pt l a) (pt l b) (pt l c)) := by
 unfold Kj
 rw [Y5 hq, e]
 rfl
theorem jGf {x : Int} (h : x ≠ 0) : jF3 x = 1 ∨ jF3 x = -1 := by
 unfold jF3
 split
 ·exact Or.inr rfl
 ·rw [if_pos (by omega)]; exact Or.inl rfl
theorem jH6 (x : Int) : (jF3 x > 0) ↔ x > 0 := by
 unfold jF3
 split
 ·constructor <;> intro h <;> omega
 ·split <;> constructor <;> intro h <;> omega
theorem Wz (l : List IP) (hl : l.length ≤ 10000000) : Ev (fun q => Qz.f q l) (Yl l) := by
 unfold Qz.f Yl
 refine Ev.bind (jEn l hl) ?_
 by_cases ha : Y3 l = true
 ·rw [if_pos ha]
  refine Qq ha ?_
  obtain ⟨⟨h0, h1⟩, hn, _⟩ := Vg.1 ha
  have hn' : l.all (Ye 50) = true := List.all_eq_true.2 hn
  have key := jJ3 (σ := List UInt8) (ρ := Int × ByteArray × Bool) (n := l.length) h1 List.length 0 (L0 := fun x s q => Qz.l0 q l x (l.length : Int) (mkB s))
   (L1 := fun x y s q => Qz.l1 q l x y (l.length : Int) (mkB s)) (L2 := fun x y z s q => Qz.l2 q l x y z (l.length : Int) (mkB s)) (K := fun s _ => some ((l.length : Int), mkB s, true))
   (fun s q => .ok (s ++ [sgC (Vw (pt l q.1) (pt l q.2.1) (pt l q.2.2))])) (fun s q s' e => by cases e; rw [List.length_append]; exact Nat.le_refl _)
   (fun s => ?_) (fun a ha s => ?_) (fun a ha s => ?_) (fun a b hab hb s => ?_) (fun a b hab hb s => ?_) (fun a b c hab hbc hc s hs => ?_) [] (Nat.le_refl _)
  ·rw [V8, jB3, List.nil_append] at key
   have et : mkB ((Xx l.length).map fun q => sgC (Vw (pt l q.1) (pt l q.2.1) (pt l q.2.2))) = K3 l.length (Kj l) := jBl (fun q => sgC (Vw (pt l q.1) (pt l q.2.1) (pt l q.2.2))) h0 h1 fun p hp a b c e => by
    rw [jAd hp e]
    unfold sgC
    simp only [jH6]
   rw [← et]
   exact key _ (Ev.now _)
  ·refine Goes.step ?_
   simp only [Qz.l0]
   exact Goes.neg (by omega) (Goes.ok (K := fun s (_ : Nat) => some ((l.length : Int), mkB s, true)) s)
  ·refine Goes.step ?_
   simp only [Qz.l0]
   rw [Jb (by omega) (by omega)]
   exact Goes.pos (by omega) (Goes.ok (K := fun s q => Qz.l1 q l (a : Int) ((a + 1 : Nat) : Int) (l.length : Int) (mkB s)) s)
  ·refine Goes.step ?_
   simp only [Qz.l1]
   rw [Jb (x := (a : Int) + 1) (by omega) (by omega)]
   exact Goes.neg (by omega) (Goes.ok (K := fun s q => Qz.l0 q l ((a + 1 : Nat) : Int) (l.length : Int) (mkB s)) s)
  ·refine Goes.step ?_
   simp only [Qz.l1]
   rw [Jb (x := (b : Int) + 1) (by omega) (by omega)]
   exact Goes.pos (by omega) (Goes.ok (K := fun s q => Qz.l2 q l (a : Int) (b : Int) ((b + 1 : Nat) : Int) (l.length : Int) (mkB s)) s)
  ·refine Goes.step ?_
   simp only [Qz.l2]
   rw [Jb (x := (b : Int) + 1) (by omega) (by omega)]
   exact Goes.neg (by omega) (Goes.ok (K := fun s q => Qz.l1 q l (a : Int) ((b + 1 : Nat) : Int) (l.length : Int) (mkB s)) s)
  ·refine Goes.step ?_
   simp only [Qz.l2]
   rw [Jb (x := (c : Int) + 1) (by omega) (by omega)]
   refine Goes.pos (by omega) (Goes.pos (by omega) (Goes.pos (by omega) (Goes.pos (by omega) (Goes.pos (by omega) (Goes.pos (by omega) (Goes.call (jA1 (a := pt l a) (b := pt l b) (c := pt l c) (jAs hn' (by omega) (by omega) (by omega))) (Goes.call (jHn _) (Goes.pos ?_ ?_))))))))
   ·rw [Uk, Uk]
    simp only [List.length_singleton]
    omega
   ·rw [Wt]
    exact Goes.ok (K := fun s q => Qz.l2 q l (a : Int) (b : Int) ((c + 1 : Nat) : Int) (l.length : Int) (mkB s)) _
 ·rw [if_neg ha]
  exact Q7 ha (Ev.now _)
theorem jC3 (l : List IP) (hl : l.length ≤ 10000000) : Ev (fun q => Js.f q l) (Yl l) := by
 unfold Js.f Yl
 refine Ev.bind (jEo l hl) ?_
 by_cases ha : Y3 l = true
 ·rw [if_pos ha]
  obtain ⟨⟨h0, h1⟩, hn, hz⟩ := Vg.1 ha
  have hn' : l.all (Ye 50) = true := List.all_eq_true.2 hn
  have lT := jAc h0 h1
  refine Qq ha (Jn rfl ?_)
  rw [jCx]
  refine Qq (Xo _ _) ?_
  rw [jGv]
  refine Ev.bind (Vr h0 h1) ?_
  have key := Y6 (σ := Nat → Int) (ρ := Int × ByteArray × Bool) (lo := 0) (n := (Jg l.length).length) (K := fun _ _ => some ((l.length : Int), K3 l.length (Kj l), true)) (L := fun i s q => Js.l0 q l (Wj l.length s) (Jg l.length) ((Jg l.length).length : Int) i)
   (fun i s => ∀ q, q < i → s q = Kj l q) (fun s i => .ok (upd s i (Kj l i))) (fun s hs => ?_) (fun i _ hi s hs => ?_) (fun i _ hi s hs s' e => ?_) (by omega) (fun _ => 0) (fun q hq => absurd hq (Nat.not_lt_zero _))
  ·rw [V8] at key
   exact key _ (Ev.now _)
  ·refine Goes.step ?_
   simp only [Js.l0]
   refine Goes.neg (by omega) (Goes.pos (Xo _ _) (Goes.ev (jFi s h0 h1) ?_))
   rw [jBk (s' := Kj l) fun q hq => hs q hq]
   exact Goes.ok (K := fun (_ : Nat → Int) (_ : Nat) => some ((l.length : Int), K3 l.length (Kj l), true)) s
  ·obtain ⟨a, b, c, e, hab, hbc, hc, hlk⟩ := Ua h0 h1 hi
   refine Goes.step ?_
   simp only [Js.l0, jCp hi, e]
   have ep := jAd hi e
   have hne := hz a b c hab hbc hc
   have et : jFk (pt l a) (pt l b) (pt l c) = Kj l i := by
    rw [ep]
    exact if_pos (jAs hn' (by omega) (by omega) hc)
   refine Goes.pos (by omega) (Goes.pos (by omega) (Goes.pos (by omega) (Goes.pos (by omega) (Goes.pos (by omega) (Goes.pos (by omega) (Goes.pos (by omega) (Goes.pos (by omega) (Goes.pos (by omega) (Goes.call (jAg (pt l a) (pt l b) (pt l c)) (Goes.pos (Xo _ _) ?_))))))))))
   have es := jAa (Wj l.length s) a b c (Kj l i) (Xo _ _) (by omega) (by omega) (by omega) (by rw [ep]; exact jGf hne)
   rw [et]
   refine Goes.call es ?_
   simp only [Int.toNat_natCast]
   rw [jEu s _ h0 h1 (by omega) (by omega) hc (by omega) (by omega) (by omega) hlk, Jb (by omega) (by omega)]
   exact Goes.ok (K := fun s q => Js.l0 q l (Wj l.length s) (Jg l.length) ((Jg l.length).length : Int) ((i + 1 : Nat) : Int)) _
  ·cases e
   intro q hq
   by_cases eq : q = i
   ·subst eq; exact jCt _ _ _
   ·rw [upd_ne _ _ eq]; exact hs q (by omega)
 ·rw [if_neg ha]
  exact Q7 ha (Ev.now _)
theorem jC8 (ps : List IP) : (0 ≤ (Yl ps).1 ∧ (Yl ps).1 ≤ 7) ∧ (Yl ps).2.1.size ≤ 35 := by
 unfold Yl
 by_cases g : Y3 ps = true
 ·rw [if_pos g]
  obtain ⟨⟨h0, h1⟩, _⟩ := Vg.1 g
  have := X3 (jAi (Kj ps) h0 h1)
  simp only
  omega
 ·rw [if_neg g]
  decide
theorem jFp {l : List Int} (hl : l.length ≤ 1048576) {i : Int} (hc : Cur l i) (h : Int) (n : Nat) (hn : n ≤ 100) : ∃ (o : List Int) (i' h' : Int), Ev (fun k => Zg.f k l i h (n : Int)) (o, i', h') ∧ o.length = n ∧ o.Nodup ∧ (∀ x ∈ o, 0 ≤ x ∧ x < (n : Int)) ∧ Cur l i' := by
 have key : ∀ (d m : Nat) (o : List Int) (i h : Int), m + d = n → o.length = m → o.Nodup → (∀ x ∈ o, 0 ≤ x ∧ x < (m : Int)) → Cur l i → ∃ (o' : List Int) (i' h' : Int), Ev (fun k => Zg.l0 k (n : Int) o (m : Int) l i h) (o', i', h') ∧ o'.length = n ∧ o'.Nodup ∧ (∀ x ∈ o', 0 ≤ x ∧ x < (n : Int)) ∧ Cur l i' := by
  intro d
  induction d with
  | zero =>
   intro m o i h hd ho hnd hb hc
   obtain rfl : m = n := by omega
   refine ⟨o, i, h, Q9 ?_, ho, hnd, hb, hc⟩
   simp only [Zg.l0]
   exact Q7 (by omega) (Ev.now _)
  | succ d ih =>
   intro m o i h hd ho hnd hb hc
   obtain ⟨x, i1, h1, e1, _, b1, c1⟩ := Z9 hl hc h ((o.length : Int) + 1)
   have b1 := b1 (by omega)
   obtain ⟨j, rfl⟩ := Int.eq_ofNat_of_zero_le b1.1
   have hlen : (o.take j ++ [(m : Int)] ++ ([] ++ o.drop j)).length = m + 1 := by
    rw [List.length_append, List.length_append, List.nil_append, List.length_take, List.length_drop, List.length_singleton]
    omega
   have hperm : (o.take j ++ [(m : Int)] ++ ([] ++ o.drop j)).Perm ((m : Int) :: o) := by
    rw [List.nil_append, List.append_assoc, List.singleton_append]
    refine List.perm_middle.trans ?_
    rw [List.take_append_drop]
   have hmo : (m : Int) ∉ o := fun hm => by have := hb _ hm; omega
   obtain ⟨o', i', h', e, r⟩ := ih (m + 1) (o.take j ++ [(m : Int)] ++ ([] ++ o.drop j)) i1 h1 (by omega) hlen (hperm.nodup_iff.2 (List.nodup_cons.2 ⟨hmo, hnd⟩)) (fun y hy => by
    rcases List.mem_cons.1 (hperm.mem_iff.1 hy) with rfl | hy
    ·omega
    ·have := hb _ hy; omega) c1
   refine ⟨o', i', h', Q9 ?_, r⟩
   simp only [Zg.l0]
   rw [Jb (x := (o.length : Int) + 1) (by omega) (by omega), Jb (x := (m : Int) + 1) (by omega) (by omega)]
   refine Qq (by omega) (Jn e1 (Jn rfl (Qq (by simp only; omega) (Qq (by simp only; omega) (Jn rfl (Qq ?_ (Jn rfl (Jn rfl (Qq ?_ (Jn rfl (Qq ?_ e)))))))))))
   ·simp only [List.length_nil, Int.toNat_natCast, List.length_drop]; omega
   ·simp only [Int.toNat_natCast, List.length_take]; omega
   ·simp only [Int.toNat_natCast, List.length_append, List.length_take, List.length_drop, List.length_nil, List.length_singleton]; omega
 unfold Zg.f
 exact key n 0 [] i h (by omega) rfl List.nodup_nil (fun x hx => by cases hx) hc
def jCr (t : ByteArray) : ByteArray := ⟨(jCn t.data.toList).toArray⟩
theorem jCs (b : Bool) : X5.f b = some (if b = true then 1 else 0) := by unfold X5.f; split <;> rfl
theorem jB5 (n m : Int) (t : ByteArray) (hs : t.data.toList.length ≤ 1000) (ht : ∀ c ∈ t.data.toList, c = 43 ∨ c = 45) (d : Nat) : ∀ (i : Nat) (u : ByteArray), i + d = t.data.toList.length → u.size = i → u.data.toList = jCn (t.data.toList.take i) → Ev (fun k => Q8.l0 k (i : Int) n t m u) (m, jCr t, true) := by
 induction d with
 | zero =>
  intro i u hi hu hl
  refine Q9 ?_
  simp only [Q8.l0]
  refine Q7 (by rw [Zm]; omega) (Zn (Ev.now _) ?_)
  rw [List.take_of_length_le (by omega)] at hl
  refine Prod.ext rfl (Prod.ext ?_ rfl)
  show u = jCr t
  unfold jCr
  rw [← hl]
 | succ d ih =>
  intro i u hi hu hl
  have hlt : i < t.data.toList.length := by omega
  refine Q9 ?_
  simp only [Q8.l0]
  refine Qq (by rw [Zm]; omega) (Qq (by omega) ?_)
  rw [K6 hlt, Jb (by omega) (by omega)]
  refine Jn (jCs _) ?_
  have hc : ∃ v : ByteArray, Xb.f (if (((t.data.toList[i]).toNat : Int) == 45) = true then 1 else 0) = some v ∧ v.data.toList = [jD2 t.data.toList[i]] := by
   rcases ht _ (List.getElem_mem hlt) with h | h
   ·rw [h]; exact ⟨_, rfl, rfl⟩
   ·rw [h]; exact ⟨_, rfl, rfl⟩
  obtain ⟨v, hv, hvl⟩ := hc
  have hv1 : v.size = 1 := by rw [Zm, hvl]; rfl
  refine Jn hv (Qq (by omega) ?_)
  refine ih (i + 1) (u ++ v) (by omega) (by rw [ByteArray.size_append]; omega) ?_
  rw [ByteArray.data_append, Array.toList_append, hl, hvl, List.take_succ_eq_append_getElem hlt, jCn, jCn, List.map_append]
  rfl
def jA6 (n : Int) (t : ByteArray) : Int × ByteArray × Bool := if Xf n t = true then (n, jCr t, true) else (0, ⟨#[]⟩, false)
theorem jI7 (n : Int) (t : ByteArray) (hs : t.size ≤ 9223372036854775807) : Ev (fun k => Q8.f k n t) (jA6 n t) := by
 unfold Q8.f jA6
 refine Ev.bind (Vx n t hs) ?_
 by_cases h : Xf n t = true
 ·refine Qq h ?_
  rw [if_pos h]
  have aA := X3 h
  rw [Zm] at aA
  exact jB5 n n t (by omega) ((Za n t).1 h).2.2 t.data.toList.length 0 ⟨#[]⟩ (by omega) rfl rfl
 ·refine Q7 h ?_
  rw [if_neg h]
  exact Ev.now _
theorem jEz (n : Int) (t : ByteArray) (hs : t.size ≤ 9223372036854775807) : Ev (fun k => Jk.f k n t) (jA6 n t) := by
 unfold Jk.f jA6
 refine Ev.bind (Kh n t hs) ?_
 by_cases h : Xf n t = true
 ·refine Qq h ?_
  rw [if_pos h]
  have aA := X3 h
  have h1 : Yc.f t = some (jCr t) := by
   unfold Yc.f jCr
   rw [if_pos (by omega)]
  exact Jn h1 (Ev.now _)
 ·refine Q7 h ?_
  rw [if_neg h]
  exact Ev.now _
end Go.Proofs.YtckkfjdkaimmhaaGreatDoor.M
namespace Go.Proofs.YtckkfjdkaimmhaaGreatDoor.PX
open Go.RowKit Go.Proofs.YtckkfjdkaimmhaaGreatDoor.G Go.Proofs.YtckkfjdkaimmhaaGreatDoorW.PrintWords Go.Proofs.YtckkfjdkaimmhaaGreatDoorW.PrintLast Go.Proofs.YtckkfjdkaimmhaaGreatDoorW.PrintMore
attribute [local go_sem] max2_int min2_int Yv Yx Xm Xl X9 Yb   -- for this text's walks alone
set_option linter.unusedVariables false
set_option linter.unusedSimpArgs false
end Go.Proofs.YtckkfjdkaimmhaaGreatDoor.PX
namespace Go.Proofs.YtckkfjdkaimmhaaGreatDoor.M
open Go.RowKit Go.Proofs.YtckkfjdkaimmhaaGreatDoorW.PrintWords Go.Proofs.YtckkfjdkaimmhaaGreatDoor.PX Go.Proofs.YtckkfjdkaimmhaaGreatDoor.G Go.Proofs.YtckkfjdkaimmhaaGreatDoorW.PrintMore
open Go.Lib (decDigits itoa parseUint10 parseMag atoiAll)
def jB4 : Nat → List UInt8 → Option Nat
 | acc, [] => some acc
 | acc, c :: r => if 48 ≤ c.toNat ∧ c.toNat ≤ 57 then jB4 (10 * acc + (c.toNat - 48)) r else none
theorem jIv (l r : List UInt8) : ∀ acc a, jB4 acc l = some a → jB4 acc (l ++ r) = jB4 a r := by
 induction l with
 | nil => intro acc a h; simp only [jB4, Option.some.injEq] at h; subst h; rfl
 | cons c l ih =>
  intro acc a h
  simp only [jB4, List.cons_append] at h ⊢
  split at h
  ·rename_i h1
   rw [if_pos h1]
   exact ih _ _ h
  ·cases h
theorem jI0 (d : Nat) : ∀ u, u < 10 ^ (d + 1) → jB4 0 (decDigits u) = some u := by
 have one : ∀ a x : Nat, x < 10 → jB4 a [UInt8.ofNat (48 + x)] = some (10 * a + x) := by
  intro a x hx
  simp only [jB4, jAj hx]
  rw [if_pos (by omega)]
  congr 1
  omega
 induction d with
 | zero =>
  intro u h
  have h : u < 10 := by simpa using h
  rw [Vm h, one 0 u h, Nat.mul_zero, Nat.zero_add]
 | succ d ih =>
  intro u h
  by_cases g : u < 10
  ·rw [Vm g, one 0 u g, Nat.mul_zero, Nat.zero_add]
  ·rw [Uj g, jIv _ _ _ _ (ih (u / 10) (by rw [Nat.pow_succ] at h; omega)), one (u / 10) (u % 10) (Nat.mod_lt _ (by omega))]
   congr 1
   omega
theorem jKg (l : List UInt8) : ∀ acc v m, jB4 acc l = some v → acc < 10 ^ m → v < 10 ^ (m + l.length) := by
 induction l with
 | nil => intro acc v m h ha; simp only [jB4, Option.some.injEq] at h; subst h; exact ha
 | cons c l ih =>
  intro acc v m h ha
  simp only [jB4] at h
  split at h
  ·have := ih _ v (m + 1) h (by rw [Nat.pow_succ]; omega)
   rw [List.length_cons, show m + (l.length + 1) = m + 1 + l.length by omega]
   exact this
  ·cases h
def jCm (s : ByteArray) (neg : Bool) : Option Nat → Int × Bool
 | none => (0, false)
 | some v => if (Xu (if neg = true then -(v : Int) else (v : Int))).toList = s.toList then ((if neg = true then -(v : Int) else (v : Int)), true) else (0, false)
def Wd (s : ByteArray) (neg : Bool) : ByteArray := if neg = true then s.extract 1 s.size else s
def jEb (s : ByteArray) : Bool := decide (0 < s.size) && (bt s 0 == 45)
def Uy (s : ByteArray) (m : Nat) : Int × Bool := if (Wd s (jEb s)).size < 1 ∨ (Wd s (jEb s)).size > m then (0, false) else jCm s (jEb s) (jB4 0 (Wd s (jEb s)).data.toList)
theorem p12 : ∀ i, i ≤ 12 → 10 ^ i ≤ 1000000000000 := fun i h => by
 have := Nat.pow_le_pow_right (n := 10) (by omega) h
 omega
theorem jHa (s t : ByteArray) (neg : Bool) (ht : t.data.toList.length ≤ 12) (d : Nat) : ∀ i acc : Nat, i + d = t.data.toList.length → acc < 10 ^ i → Ev (fun k => Jc.l0 k s neg t (acc : Int) (i : Int)) (jCm s neg (jB4 acc (t.data.toList.drop i))) := by
 induction d with
 | zero =>
  intro i acc hi ha
  have := p12 i (by omega)
  refine Q9 ?_
  simp only [Jc.l0]
  rw [List.drop_of_length_le (by omega)]
  refine Q7 (by rw [Zm]; omega) ?_
  simp only [jB4, jCm]
  cases neg with
  | true =>
   simp only [if_true]
   rw [Jb (x := -(acc : Int)) (by omega) (by omega)]
   refine Ev.bind (jCc (by omega) (by omega)) ?_
   by_cases g : (Xu (-(acc : Int))).toList = s.toList
   ·exact Zn (Qq g (Ev.now _)) (if_pos g).symm
   ·exact Zn (Q7 g (Ev.now _)) (if_neg g).symm
  | false =>
   simp only [Bool.false_eq_true, if_false]
   refine Ev.bind (jCc (by omega) (by omega)) ?_
   by_cases g : (Xu (acc : Int)).toList = s.toList
   ·exact Zn (Qq g (Ev.now _)) (if_pos g).symm
   ·exact Zn (Q7 g (Ev.now _)) (if_neg g).symm
 | succ d ih =>
  intro i acc hi ha
  have hil : i < t.data.toList.length := by omega
  have pb := p12 i (by omega)
  have pb' := p12 (i + 1) (by omega)
  refine Q9 ?_
  simp only [Jc.l0]
  rw [List.drop_eq_getElem_cons hil, K6 hil]
  simp only [jB4]
  have hc := UInt8.toNat_lt (t.data.toList[i])
  generalize t.data.toList[i] = c at hc
  refine Qq (by rw [Zm]; omega) (Qq (by omega) ?_)
  by_cases g1 : (c.toNat : Int) < 48
  ·rw [if_neg (by omega)]
   exact Qq g1 (Ev.now _)
  ·refine Q7 g1 ?_
   by_cases g2 : (c.toNat : Int) > 57
   ·rw [if_neg (by omega)]
    exact Qq g2 (Ev.now _)
   ·rw [if_pos (by omega)]
    refine Q7 g2 ?_
    have nx := ih (i + 1) (10 * acc + (c.toNat - 48)) (by omega) (by rw [Nat.pow_succ]; omega)
    rw [Nat.pow_succ] at pb'
    rw [Jb (x := 10 * (acc : Int)) (by omega) (by omega), Jb (x := 10 * (acc : Int) + ((c.toNat : Int) - 48) % 256) (by omega) (by omega), Jb (x := (i : Int) + 1) (by omega) (by omega), show 10 * (acc : Int) + ((c.toNat : Int) - 48) % 256 = ((10 * acc + (c.toNat - 48) : Nat) : Int) by omega]
    exact nx
theorem jHk (s : ByteArray) (m : Nat) (hm : m ≤ 12) (hs : s.size ≤ 1048576) : Ev (fun k => Jc.f k s (m : Int)) (Uy s m) := by
 have j2 : ∀ (neg : Bool) (t : ByteArray), t = Wd s neg → Ev (fun k => Jc.j1 k s (m : Int) neg t) (if t.size < 1 ∨ t.size > m then (0, false) else jCm s neg (jB4 0 t.data.toList)) := by
  intro neg t _
  have two : ∀ b : Bool, b = decide (t.size < 1 ∨ t.size > m) → Ev (fun k => Jc.j2 k s neg t b) (if t.size < 1 ∨ t.size > m then (0, false) else jCm s neg (jB4 0 t.data.toList)) := by
   intro b hb
   refine Q9 ?_
   simp only [Jc.j2]
   by_cases g : t.size < 1 ∨ t.size > m
   ·rw [if_pos g]
    rw [decide_eq_true g] at hb
    exact Qq hb (Ev.now _)
   ·rw [if_neg g]
    rw [decide_eq_false g] at hb
    refine Q7 (by rw [hb]; simp) ?_
    have r := jHa s t neg (by rw [← Zm]; omega) t.data.toList.length 0 0 (by omega) (by simp)
    rw [List.drop_zero] at r
    exact r
  refine Q9 ?_
  simp only [Jc.j1]
  by_cases g : t.size < 1
  ·exact Qq (by omega) (two true (by rw [decide_eq_true (Or.inl g)]))
  ·refine Q7 (by omega) (two _ ?_)
   rw [decide_eq_decide]
   omega
 have j0 : ∀ neg : Bool, (neg = true → 0 < s.size) → Ev (fun k => Jc.j0 k s (m : Int) neg) (if (Wd s neg).size < 1 ∨ (Wd s neg).size > m then (0, false) else jCm s neg (jB4 0 (Wd s neg).data.toList)) := by
  intro neg hn
  refine Q9 ?_
  simp only [Jc.j0]
  cases neg with
  | true =>
   have := hn rfl
   exact Qq (by first | rfl | trivial) (Qq (by omega) (j2 true _ rfl))
  | false => exact Q7 (by simp) (j2 false _ rfl)
 unfold Jc.f Uy
 by_cases g : 0 < s.size
 ·have e : jEb s = (bt s 0 == 45) := by unfold jEb; rw [decide_eq_true g, Bool.true_and]
  rw [e]
  exact Qq (by omega) (Qq (by omega) (j0 _ fun _ => g))
 ·have e : jEb s = false := by unfold jEb; rw [decide_eq_false g, Bool.false_and]
  rw [e]
  exact Q7 (by omega) (j0 false (by simp))
theorem jGq {a b : ByteArray} : a.toList = b.toList ↔ a = b := by
 constructor
 ·intro h
  rw [ByteArray.toList_eq, ByteArray.toList_eq] at h
  exact ByteArray.ext (Array.ext' h)
 ·rintro rfl; rfl
theorem jGa {s : ByteArray} {c : UInt8} {r : List UInt8} (h : s.data.toList = c :: r) : (s.extract 1 s.size).data.toList = r := by
 rw [ByteArray.data_extract, Array.toList_extract, h, Zm, h]
 simp [List.extract]
theorem U5 {v : Int} {m : Nat} (hm1 : 1 ≤ m) (hm : m ≤ 12) (hv : v.natAbs < 10 ^ m) : Uy (Xu v) m = (v, true) := by
 have pb := p12 m hm
 have hmp : m ≠ 0 := by omega
 obtain ⟨m', rfl⟩ := Nat.exists_eq_succ_of_ne_zero hmp
 have hl := jKo m' v.natAbs hv
 have hp := jGk v.natAbs
 have hv' := jI0 m' v.natAbs hv
 obtain ⟨c, r, e, c1, c2⟩ := jFg (u := v.natAbs) (by omega)
 by_cases g : v < 0
 ·have d : (Xu v).data.toList = 45 :: decDigits v.natAbs := by rw [Y0]; unfold itoa; rw [if_pos g]
  have hz : 0 < (Xu v).size := by rw [Zm, d]; simp
  have hn : jEb (Xu v) = true := by
   unfold jEb
   rw [decide_eq_true hz, Bool.true_and, beq_iff_eq]
   have := K6 (t := Xu v) (i := 0) (by rw [d]; simp)
   rw [show ((0 : Nat) : Int) = 0 from rfl] at this
   rw [this]
   simp [d]
  have ht : (Wd (Xu v) true).data.toList = decDigits v.natAbs := by unfold Wd; rw [if_pos rfl]; exact jGa d
  unfold Uy
  rw [hn, Zm, ht, if_neg (by omega), hv']
  unfold jCm
  simp only [if_true]
  rw [show -((v.natAbs : Nat) : Int) = v by omega, if_pos rfl]
 ·have d : (Xu v).data.toList = decDigits v.natAbs := by rw [Y0]; unfold itoa; rw [if_neg g, show v.toNat = v.natAbs by omega]
  have hn : jEb (Xu v) = false := by
   unfold jEb
   rw [Bool.and_eq_false_iff]
   right
   have := K6 (t := Xu v) (i := 0) (by rw [d]; omega)
   rw [show ((0 : Nat) : Int) = 0 from rfl] at this
   rw [this, beq_eq_false_iff_ne]
   have e2 : (Xu v).data.toList[0]'(by rw [d]; omega) = c := by simp [d, e]
   rw [e2]
   omega
  have ht : (Wd (Xu v) false).data.toList = decDigits v.natAbs := by unfold Wd; rw [if_neg (by simp)]; exact d
  unfold Uy
  rw [hn, Zm, ht, if_neg (by omega), hv']
  unfold jCm
  simp only [Bool.false_eq_true, if_false]
  rw [show ((v.natAbs : Nat) : Int) = v by omega, if_pos rfl]
theorem jDk {s : ByteArray} {m : Nat} (h : ∀ v : Int, v.natAbs < 10 ^ m → Xu v ≠ s) : Uy s m = (0, false) := by
 unfold Uy
 by_cases g : (Wd s (jEb s)).size < 1 ∨ (Wd s (jEb s)).size > m
 ·rw [if_pos g]
 ·rw [if_neg g]
  cases e : jB4 0 (Wd s (jEb s)).data.toList with
  | none => rfl
  | some v =>
   have hv := jKg _ 0 v 0 e (by decide)
   rw [← Zm, Nat.zero_add] at hv
   have hv2 : v < 10 ^ m := Nat.lt_of_lt_of_le hv (Nat.pow_le_pow_right (by omega) (by omega))
   simp only [jCm]
   rw [if_neg]
   rw [jGq]
   refine h _ ?_
   split <;> omega
theorem jH7 {v least most : Int} (h0 : -9223372036854775808 ≤ v) (h1 : v ≤ 9223372036854775807) (g0 : least ≤ v) (g1 : v ≤ most) (hs : (Xu v).size ≤ 1048576) : Yo.f (Xu v) least most = some (v, true) := by
 unfold Yo.f
 rw [if_pos (by omega), Y0, jAl h0 h1]
 simp only
 rw [if_neg (by omega), if_neg (by omega), if_pos trivial]
theorem jDi {s : ByteArray} {least most : Int} (hs : s.size ≤ 1048576) (h : ∀ v : Int, -9223372036854775808 ≤ v → v ≤ 9223372036854775807 → least ≤ v → v ≤ most → Xu v ≠ s) : Yo.f s least most = some (0, false) := by
 unfold Yo.f
 rw [if_pos (by omega)]
 cases e : atoiAll s.data.toList
 ·rename_i v
  have vb := Lib.atoiAll_bounds e
  simp only
  by_cases c1 : v < least
  ·rw [if_pos c1]
  ·rw [if_neg c1]
   by_cases c2 : v > most
   ·rw [if_pos c2]
   ·rw [if_neg c2, if_neg]
    rw [jGq]
    exact h v vb.1 vb.2 (by omega) (by omega)
 ·rfl
 ·rfl
noncomputable def jDv (s : ByteArray) : Int × Bool := Uy s 12
theorem jIm (s : ByteArray) (hs : s.size ≤ 1048576) : Ev (fun k => X7.f k s) (jDv s) := by
 unfold X7.f jDv
 exact Ev.bind (jHk s 12 (by omega) hs) (Ev.now _)
noncomputable def jF5 (s : ByteArray) : Int × Bool := if (Uy s 6).2 = true then (if (Uy s 6).1 < 0 then (0, false) else ((Uy s 6).1, true)) else (0, false)
theorem jJi (s : ByteArray) (hs : s.size ≤ 1048576) : Xc.f s = some (jF5 s) := by
 unfold Xc.f jF5
 by_cases h : ∃ v : Int, v.natAbs < 10 ^ 6 ∧ Xu v = s
 ·obtain ⟨v, hv, rfl⟩ := h
  rw [U5 (by omega) (by omega) hv]
  simp only [if_true]
  by_cases g : v < 0
  ·rw [if_pos g, jDi hs fun u h0 h1 g0 g1 e => by
    have := jHc ⟨h0, h1⟩ ⟨by omega, by omega⟩ e
    omega]
   rfl
  ·rw [if_neg g, jH7 (by omega) (by omega) (by omega) (by omega) hs]
   rfl
 ·rw [jDi hs fun v _ _ h1 h2 e => h ⟨v, by omega, e⟩, jDk fun v hv e => h ⟨v, hv, e⟩]
  rfl
end Go.Proofs.YtckkfjdkaimmhaaGreatDoor.M
namespace Go.Proofs.YtckkfjdkaimmhaaGreatDoor.M
open Go.RowKit Go.Proofs.YtckkfjdkaimmhaaGreatDoorW.PrintWords Go.Proofs.YtckkfjdkaimmhaaGreatDoor.PX
def Yi (t : ByteArray) (by_ : Int) (s : List ByteArray × Nat) (i : Nat) : List ByteArray × Nat := if i = t.size ∨ bt t (i : Int) = by_ then (s.1 ++ [t.extract s.2 i], i + 1) else s
def Xw (t : ByteArray) (by_ : Int) : List ByteArray := ((List.range' 0 (t.size + 1)).foldl (Yi t by_) ([], 0)).1
theorem jC9 {t : ByteArray} {by_ : Int} {s : List ByteArray × Nat} {i : Nat} (h : s.1.length ≤ i ∧ s.2 ≤ i) : (Yi t by_ s i).1.length ≤ i + 1 ∧ (Yi t by_ s i).2 ≤ i + 1 := by
 unfold Yi
 split
 ·simp only [List.length_append, List.length_singleton]; omega
 ·omega
theorem jEp (t : ByteArray) (by_ : Int) (ht : t.size ≤ 1048576) : Ev (fun k => Jq.f k t by_) (Xw t by_) := by
 unfold Jq.f
 have key := Y6 (σ := List ByteArray × Nat) (ρ := List ByteArray) (lo := 0) (n := t.size + 1) (K := fun s _ => some s.1) (L := fun x s k => Jq.l0 k t by_ s.1 (s.2 : Int) x) (fun x s => s.1.length ≤ x ∧ s.2 ≤ x)
  (fun s x => .ok (Yi t by_ s x)) (fun s _ => ?_) (fun x _ hx s hs => ?_) (fun x _ hx s hs s' e => ?_) (by omega) ([], 0) ⟨Nat.le_refl _, Nat.le_refl _⟩
 ·rw [V8, Nat.sub_zero] at key
  exact key _ (Ev.now _)
 ·refine Goes.step ?_
  simp only [Jq.l0]
  exact Goes.neg (by omega) (Goes.ok (K := fun s _ => some s.1) s)
 ·have cut : Goes (.ok (s.1 ++ [t.extract s.2 x], x + 1)) (fun (s : List ByteArray × Nat) k => Jq.l0 k t by_ s.1 (s.2 : Int) ((x + 1 : Nat) : Int))
    (fun k => if 0 ≤ (s.2 : Int) then (if (s.2 : Int) ≤ (x : Int) then (if s.1.length < 8796093022208 then (Jq.l0 k t by_ (s.1 ++ [t.extract (s.2 : Int).toNat (x : Int).toNat]) (wrap64 ((x : Int) + 1)) (wrap64 ((x : Int) + 1))) else none) else none) else none) := by
   rw [Jb (x := (x : Int) + 1) (by omega) (by omega), Int.toNat_natCast, Int.toNat_natCast]
   exact Goes.pos (by omega) (Goes.pos (by omega) (Goes.pos (by omega) (Goes.ok (K := fun (s : List ByteArray × Nat) k => Jq.l0 k t by_ s.1 (s.2 : Int) ((x + 1 : Nat) : Int)) (s.1 ++ [t.extract s.2 x], x + 1))))
  refine Goes.step ?_
  simp only [Jq.l0]
  refine Goes.pos (by omega) ?_
  unfold Yi
  by_cases e1 : x = t.size
  ·rw [if_pos (.inl e1)]
   exact Goes.pos (by omega) cut
  ·refine Goes.neg (by omega) (Goes.pos (by omega) (Goes.pos (by omega) ?_))
   by_cases e2 : bt t (x : Int) = by_
   ·rw [if_pos (.inr e2)]
    exact Goes.pos e2 cut
   ·rw [if_neg (fun h => h.elim e1 e2)]
    rw [Jb (x := (x : Int) + 1) (by omega) (by omega)]
    exact Goes.neg e2 (Goes.ok (K := fun (s : List ByteArray × Nat) k => Jq.l0 k t by_ s.1 (s.2 : Int) ((x + 1 : Nat) : Int)) s)
 ·cases e
  exact jC9 hs
theorem jEd (t : ByteArray) (by_ : Int) (ht : t.size ≤ 1048576) : Ev (fun k => Jr.f k t by_) (Xw t by_) := by
 unfold Jr.f
 have key := Y6 (σ := List ByteArray × Nat) (ρ := List ByteArray) (lo := 0) (n := t.size + 1) (K := fun s _ => some s.1) (L := fun x s k => Jr.l0 k t by_ s.1 (s.2 : Int) x) (fun x s => s.1.length ≤ x ∧ s.2 ≤ x)
  (fun s x => .ok (Yi t by_ s x)) (fun s _ => ?_) (fun x _ hx s hs => ?_) (fun x _ hx s hs s' e => ?_) (by omega) ([], 0) ⟨Nat.le_refl _, Nat.le_refl _⟩
 ·rw [V8, Nat.sub_zero] at key
  exact key _ (Ev.now _)
 ·refine Goes.step ?_
  simp only [Jr.l0]
  exact Goes.neg (by omega) (Goes.ok (K := fun s _ => some s.1) s)
 ·have cut : Goes (.ok (s.1 ++ [t.extract s.2 x], x + 1)) (fun (s : List ByteArray × Nat) k => Jr.l0 k t by_ s.1 (s.2 : Int) ((x + 1 : Nat) : Int))
    (fun k => if 0 ≤ (s.2 : Int) then (if (s.2 : Int) ≤ (x : Int) then (if s.1.length < 8796093022208 then (Jr.l0 k t by_ (s.1 ++ [t.extract (s.2 : Int).toNat (x : Int).toNat]) (wrap64 ((x : Int) + 1)) (wrap64 ((x : Int) + 1))) else none) else none) else none) := by
   rw [Jb (x := (x : Int) + 1) (by omega) (by omega), Int.toNat_natCast, Int.toNat_natCast]
   exact Goes.pos (by omega) (Goes.pos (by omega) (Goes.pos (by omega) (Goes.ok (K := fun (s : List ByteArray × Nat) k => Jr.l0 k t by_ s.1 (s.2 : Int) ((x + 1 : Nat) : Int)) (s.1 ++ [t.extract s.2 x], x + 1))))
  refine Goes.step ?_
  simp only [Jr.l0]
  refine Goes.pos (by omega) ?_
  unfold Yi
  by_cases e1 : x = t.size
  ·rw [if_pos (.inl e1)]
   exact Goes.pos (by omega) cut
  ·refine Goes.neg (by omega) (Goes.pos (by omega) (Goes.pos (by omega) ?_))
   by_cases e2 : bt t (x : Int) = by_
   ·rw [if_pos (.inr e2)]
    exact Goes.pos e2 cut
   ·rw [if_neg (fun h => h.elim e1 e2)]
    rw [Jb (x := (x : Int) + 1) (by omega) (by omega)]
    exact Goes.neg e2 (Goes.ok (K := fun (s : List ByteArray × Nat) k => Jr.l0 k t by_ s.1 (s.2 : Int) ((x + 1 : Nat) : Int)) s)
 ·cases e
  exact jC9 hs
end Go.Proofs.YtckkfjdkaimmhaaGreatDoor.M
namespace Go.Proofs.YtckkfjdkaimmhaaGreatDoor.M
open Go.RowKit Go.Proofs.YtckkfjdkaimmhaaGreatDoorW.PrintWords Go.Proofs.YtckkfjdkaimmhaaGreatDoor.PX Go.Proofs.YtckkfjdkaimmhaaGreatDoor.G Go.Proofs.YtckkfjdkaimmhaaGreatDoorW.PrintMore
open Go.Lib (decDigits itoa)
def sgT (n : Int) (t : ByteArray) : ByteArray := if Xf n t = true then (Xu n ++ (⟨#[58]⟩ : ByteArray)) ++ t else ⟨#[]⟩
theorem Wm {n : Int} (h0 : 0 ≤ n) (h1 : n < 10) : (Xu n).size = 1 := by
 rw [Zm, Y0]
 unfold itoa
 rw [if_neg (by omega), Vm (by omega)]
 rfl
theorem jI5 (n : Int) (t : ByteArray) (hs : t.size ≤ 9223372036854775807) : Ev (fun k => J9.f k n t) (sgT n t) := by
 unfold J9.f sgT
 refine Ev.bind (Kh n t hs) ?_
 by_cases h : Xf n t = true
 ·obtain ⟨⟨h0, h1⟩, _, _⟩ := (Za _ _).1 h
  have z := X3 h
  have zi := Wm (n := n) (by omega) (by omega)
  exact Zn (Qq h (Jn (jH9 (by omega) (by omega)) (Qq (by omega) (Qq (by omega) (Ev.now _))))) (if_pos h).symm
 ·exact Zn (Q7 h (Ev.now _)) (if_neg h).symm
theorem jFe (n : Int) (t : ByteArray) (hs : t.size ≤ 9223372036854775807) : Ev (fun k => Jy.f k n t) (sgT n t) := by
 unfold Jy.f sgT
 refine Ev.bind (Vx n t hs) ?_
 by_cases h : Xf n t = true
 ·obtain ⟨⟨h0, h1⟩, _, _⟩ := (Za _ _).1 h
  have z := X3 h
  have zi := Wm (n := n) (by omega) (by omega)
  exact Zn (Qq h (Ev.bind (jCc (by omega) (by omega)) (Qq (by omega) (Qq (by omega) (Ev.now _))))) (if_pos h).symm
 ·exact Zn (Q7 h (Ev.now _)) (if_neg h).symm
theorem jDq {s : ByteArray} {m : Nat} (hm1 : 1 ≤ m) (hm : m ≤ 12) (h : (Uy s m).2 = true) : ∃ v : Int, v.natAbs < 10 ^ m ∧ Xu v = s ∧ Uy s m = (v, true) := by
 by_cases g : ∃ v : Int, v.natAbs < 10 ^ m ∧ Xu v = s
 ·obtain ⟨v, hv, rfl⟩ := g
  exact ⟨v, hv, rfl, U5 hm1 hm hv⟩
 ·rw [jDk fun v hv e => g ⟨v, hv, e⟩] at h
  cases h
theorem jB2 (t : ByteArray) (by_ : Int) : 1 ≤ (Xw t by_).length := by
 unfold Xw
 rw [List.range'_concat, List.foldl_append]
 simp only [List.foldl_cons, List.foldl_nil, Nat.mul_one, Nat.one_mul]
 unfold Yi
 rw [if_pos (Or.inl (by omega)), List.length_append, List.length_singleton]
 omega
theorem jHt {t : ByteArray} {by_ : Int} {s : List ByteArray × Nat} {i : Nat} (h : ∀ x ∈ s.1, x.size ≤ t.size) : ∀ x ∈ (Yi t by_ s i).1, x.size ≤ t.size := by
 intro x hx
 unfold Yi at hx
 split at hx
 ·rw [List.mem_append, List.mem_singleton] at hx
  rcases hx with hx | rfl
  ·exact h x hx
  ·rw [ByteArray.size_extract]; omega
 ·exact h x hx
theorem jGy (t : ByteArray) (by_ : Int) : ∀ x ∈ Xw t by_, x.size ≤ t.size := by
 have key : ∀ (l : List Nat) (s : List ByteArray × Nat), (∀ x ∈ s.1, x.size ≤ t.size) → ∀ x ∈ (l.foldl (Yi t by_) s).1, x.size ≤ t.size := by
  intro l
  induction l with
  | nil => intro s h; exact h
  | cons i l ih => intro s h; rw [List.foldl_cons]; exact ih _ (jHt h)
 exact key _ ([], 0) (fun x hx => by cases hx)
theorem jKq {l : List ByteArray} {i : Nat} (h : i < l.length) : Vj ByteArray.empty l (i : Int) = l[i] := by
 unfold Vj
 rw [Int.toNat_natCast, List.getD_eq_getElem?_getD, List.getElem?_eq_getElem h]
 rfl
theorem jE5 {t : ByteArray} {by_ : Int} {i : Nat} (h : i < (Xw t by_).length) : (Vj ByteArray.empty (Xw t by_) (i : Int)).size ≤ t.size := by
 rw [jKq h]
 exact jGy t by_ _ (List.getElem_mem _)
noncomputable def jJx (l : List ByteArray) : Int × ByteArray × Bool :=
 if l.length = 2 ∧ (jDv (Vj ByteArray.empty l 0)).2 = true ∧ Xf (jDv (Vj ByteArray.empty l 0)).1 (Vj ByteArray.empty l 1) = true then ((jDv (Vj ByteArray.empty l 0)).1, Vj ByteArray.empty l 1, true) else (0, ⟨#[]⟩, false)
noncomputable def jKv (t : ByteArray) : Int × ByteArray × Bool := jJx (Xw t 58)
theorem jI1 (t : ByteArray) (ht : t.size ≤ 1048576) : Ev (fun k => J3.f k t) (jKv t) := by
 unfold J3.f jKv
 have hp := jB2 t 58
 have h0 := jE5 (t := t) (by_ := 58) (i := 0) hp
 refine Ev.bind (jEd t 58 ht) (Qq (by omega) (Ev.bind (jIm _ (Nat.le_trans h0 ht)) ?_))
 have no : ∀ (l : List ByteArray) (v : Int), Ev (fun k => J3.j0 k l v true) (0, ⟨#[]⟩, false) := by
  intro l v
  refine Q9 ?_
  simp only [J3.j0]
  exact Qq (by first | rfl | trivial) (Ev.now _)
 by_cases g : (Xw t 58).length = 2
 ·have h1 := jE5 (t := t) (by_ := 58) (i := 1) (by omega)
  refine Qq (by omega) ?_
  unfold jJx
  by_cases c : (jDv (Vj ByteArray.empty (Xw t 58) 0)).2 = true
  ·rw [show (!(jDv (Vj ByteArray.empty (Xw t 58) 0)).2) = false by rw [c]; rfl]
   refine Q9 ?_
   simp only [J3.j0]
   refine Q7 (by simp) (Qq (by omega) (Ev.bind (Vx _ _ (Nat.le_trans h1 (by omega))) ?_))
   by_cases o : Xf (jDv (Vj ByteArray.empty (Xw t 58) 0)).1 (Vj ByteArray.empty (Xw t 58) 1) = true
   ·exact Zn (Qq o (Ev.now _)) (if_pos ⟨g, c, o⟩).symm
   ·exact Zn (Q7 o (Ev.now _)) (if_neg fun e => o e.2.2).symm
  ·rw [show (!(jDv (Vj ByteArray.empty (Xw t 58) 0)).2) = true by simpa using c, if_neg fun e => c e.2.1]
   exact no _ _
 ·unfold jJx
  rw [if_neg fun e => g e.1]
  exact Q7 (by omega) (no _ _)
theorem jE9 (t : ByteArray) (ht : t.size ≤ 1048576) : Ev (fun k => Jv.f k t) (jKv t) := by
 unfold Jv.f jKv
 have hp := jB2 t 58
 have h0 := jE5 (t := t) (by_ := 58) (i := 0) hp
 refine Ev.bind (jEp t 58 ht) (Qq (by omega) (Jn (jJi _ (Nat.le_trans h0 ht)) ?_))
 have no : ∀ (l : List ByteArray) (v : Int), Ev (fun k => Jv.j0 k l v true) (0, ⟨#[]⟩, false) := by
  intro l v
  refine Q9 ?_
  simp only [Jv.j0]
  exact Qq (by first | rfl | trivial) (Ev.now _)
 -- what the two readings have to do with each other
 have rel : ∀ s x : ByteArray, (jF5 s).2 = true → Xf (jF5 s).1 x = true → jDv s = ((jF5 s).1, true) := by
  intro s x h1 h2
  unfold jF5 at h1 h2 ⊢
  by_cases c : (Uy s 6).2 = true
  ·obtain ⟨v, hv, rfl, e⟩ := jDq (by omega) (by omega) c
   have hv' : v.natAbs < 10 ^ 12 := by omega
   unfold jDv
   rw [U5 (by omega) (by omega) hv', e]
   simp only [if_true]
   by_cases g : v < 0
   ·rw [e] at h1; simp [g] at h1
   ·rw [if_neg g]
  ·rw [if_neg c] at h1; cases h1
 have aA : ∀ s x : ByteArray, (jDv s).2 = true → Xf (jDv s).1 x = true → jF5 s = ((jDv s).1, true) := by
  intro s x h1 h2
  obtain ⟨v, hv, rfl, e⟩ := jDq (m := 12) (by omega) (by omega) h1
  unfold jDv at h2 ⊢
  rw [e] at h2 ⊢
  obtain ⟨⟨g0, g1⟩, _, _⟩ := (Za _ _).1 h2
  simp only at g0 g1
  unfold jF5
  rw [U5 (by omega) (by omega) (show v.natAbs < 10 ^ 6 by omega)]
  simp only [if_true]
  rw [if_neg (by omega)]
 have none_ : ¬ (jF5 (Vj ByteArray.empty (Xw t 58) 0)).2 = true ∨ ¬ (Xw t 58).length = 2 ∨ ¬ Xf (jF5 (Vj ByteArray.empty (Xw t 58) 0)).1 (Vj ByteArray.empty (Xw t 58) 1) = true → jJx (Xw t 58) = (0, ⟨#[]⟩, false) := by
  intro h
  unfold jJx
  rw [if_neg]
  rintro ⟨g, c, o⟩
  have r := aA _ _ c o
  rcases h with h | h | h
  ·exact h (by rw [r])
  ·exact h g
  ·exact h (by rw [r]; exact o)
 by_cases c : (jF5 (Vj ByteArray.empty (Xw t 58) 0)).2 = true
 ·refine Qq c ?_
  by_cases g : (Xw t 58).length = 2
  ·have h1 := jE5 (t := t) (by_ := 58) (i := 1) (by omega)
   rw [show (((Xw t 58).length : Int) != 2) = false by rw [g]; rfl]
   refine Q9 ?_
   simp only [Jv.j0]
   refine Q7 (by simp) (Qq (by omega) (Ev.bind (Kh _ _ (Nat.le_trans h1 (by omega))) ?_))
   by_cases o : Xf (jF5 (Vj ByteArray.empty (Xw t 58) 0)).1 (Vj ByteArray.empty (Xw t 58) 1) = true
   ·refine Zn (Qq o (Ev.now _)) ?_
    have r := rel _ _ c o
    unfold jJx
    rw [r, if_pos ⟨g, rfl, o⟩]
   ·exact Zn (Q7 o (Ev.now _)) (none_ (.inr (.inr o))).symm
  ·rw [none_ (.inr (.inl g)), show (((Xw t 58).length : Int) != 2) = true by rw [bne_iff_ne]; omega]
   exact no _ _
 ·rw [none_ (.inl c)]
  exact Q7 c (no _ _)
end Go.Proofs.YtckkfjdkaimmhaaGreatDoor.M
namespace Go.Proofs.YtckkfjdkaimmhaaGreatDoor.M
open Go.RowKit Go.Proofs.YtckkfjdkaimmhaaGreatDoorW.PrintWords Go.Proofs.YtckkfjdkaimmhaaGreatDoor.PX Go.Proofs.YtckkfjdkaimmhaaGreatDoor.G
theorem jGp {x3 x5 : Int} {ps : List IP} {l : List Int} {i h p q : Int} {x8 : Nat} (h8 : x8 < ps.length) (hps : ps.length ≤ 100) (hn : ∀ y, y < ps.length → Ye 1000 (pt ps y) = true) (hq : Ye 1000 (⟨p, q⟩ : IP) = true) (d : Nat) : ∀ (x9 : Nat) (x7 : Bool), x9 + d = x8 →
  ∃ aA, (aA = true → x7 = true ∧ ∀ y, x9 ≤ y → y < x8 → Vw (pt ps y) (pt ps x8) (⟨p, q⟩ : IP) ≠ 0) ∧ ∀ r, Ev (fun k => Qi.l1 k x3 ps x5 aA ((x8 + 1 : Nat) : Int) l i h p q) r → Ev (fun k => Qi.l2 k x3 ps x5 x7 (x8 : Int) (x9 : Int) l i h p q) r := by
 induction d with
 | zero =>
  intro x9 x7 hd
  refine ⟨x7, fun e => ⟨e, fun y h1 h2 => by omega⟩, fun r hr => Q9 ?_⟩
  simp only [Qi.l2]
  rw [Jb (x := (x8 : Int) + 1) (by omega) (by omega)]
  exact Q7 (by omega) hr
 | succ d ih =>
  intro x9 x7 hd
  cases x7 with
  | false =>
   refine ⟨false, fun e => (by cases e), fun r hr => Q9 ?_⟩
   simp only [Qi.l2]
   rw [Jb (x := (x8 : Int) + 1) (by omega) (by omega)]
   exact Qq (by omega) (Q7 (by decide) hr)
  | true =>
   have hv := jA1 (Ka.2 ⟨hn x9 (by omega), hn x8 h8, hq⟩)
   obtain ⟨aA, g, h'⟩ := ih (x9 + 1) (Vw (pt ps x9) (pt ps x8) (⟨p, q⟩ : IP) != 0) (by omega)
   refine ⟨aA, fun e => ⟨rfl, fun y h1 h2 => ?_⟩, fun r hr => Q9 ?_⟩
   ·obtain ⟨g1, g2⟩ := g e
    by_cases e9 : y = x9
    ·subst e9
     exact bne_iff_ne.1 g1
    ·exact g2 y (by omega) h2
   ·simp only [Qi.l2]
    rw [Jb (x := (x9 : Int) + 1) (by omega) (by omega)]
    exact Qq (by omega) (Qq (by trivial) (Qq (by omega) (Qq (by omega) (Qq (by omega) (Qq (by omega) (Jn hv (h' r hr)))))))
theorem jGd {x3 : Int} {x5 : Nat} (h5 : x5 ≤ 12) {ps : List IP} {l : List Int} {i h p q : Int} (hps : ps.length ≤ 100) (hn : ∀ y, y < ps.length → Ye 1000 (pt ps y) = true) (hq : Ye 1000 (⟨p, q⟩ : IP) = true) (d : Nat) : ∀ (x8 : Nat) (x7 : Bool), x8 + d = ps.length →
  ∃ ps' : List IP, (ps' = ps ∨ (x7 = true ∧ ps' = ps ++ [(⟨p, q⟩ : IP)] ∧ ∀ b, x8 ≤ b → b < ps.length → ∀ a, a < b → Vw (pt ps a) (pt ps b) (⟨p, q⟩ : IP) ≠ 0)) ∧ ∀ r, Ev (fun k => Qi.l0 k x3 ps' ((x5 + 1 : Nat) : Int) l i h) r → Ev (fun k => Qi.l1 k x3 ps (x5 : Int) x7 (x8 : Int) l i h p q) r := by
 have fin : ∀ (x8 : Nat) (x7 : Bool), ∃ ps' : List IP, (ps' = ps ∨ (x7 = true ∧ ps' = ps ++ [(⟨p, q⟩ : IP)])) ∧ ∀ r, Ev (fun k => Qi.l0 k x3 ps' ((x5 + 1 : Nat) : Int) l i h) r → Ev (fun k => Qi.j3 k x3 ps (x5 : Int) x7 (x8 : Int) false l i h p q) r := by
  intro x8 x7
  cases x7 with
  | true =>
   refine ⟨ps ++ [(⟨p, q⟩ : IP)], Or.inr ⟨rfl, rfl⟩, fun r hr => Q9 ?_⟩
   simp only [Qi.j3]
   rw [Jb (x := (x5 : Int) + 1) (by omega) (by omega)]
   exact Q7 (by decide) (Qq (by trivial) (Qq (by omega) hr))
  | false =>
   refine ⟨ps, Or.inl rfl, fun r hr => Q9 ?_⟩
   simp only [Qi.j3]
   rw [Jb (x := (x5 : Int) + 1) (by omega) (by omega)]
   exact Q7 (by decide) (Q7 (by decide) hr)
 induction d with
 | zero =>
  intro x8 x7 hd
  obtain ⟨ps', hl, hr⟩ := fin x8 x7
  refine ⟨ps', hl.imp id fun e => ⟨e.1, e.2, fun b h1 h2 => by omega⟩, fun r h => Q9 ?_⟩
  simp only [Qi.l1]
  exact Q7 (by omega) (hr r h)
 | succ d ih =>
  intro x8 x7 hd
  cases x7 with
  | false =>
   obtain ⟨ps', hl, hr⟩ := fin x8 false
   refine ⟨ps', hl.imp id fun e => (by cases e.1), fun r h => Q9 ?_⟩
   simp only [Qi.l1]
   exact Qq (by omega) (hr r h)
  | true =>
   obtain ⟨aA, aC, hi⟩ := jGp (x3 := x3) (x5 := (x5 : Int)) (l := l) (i := i) (h := h) (p := p) (q := q) (ps := ps) (x8 := x8) (by omega) hps hn hq x8 0 (!(((Qp ps (x8 : Int)).f0) == p) || (!(((Qp ps (x8 : Int)).f1) == q))) (by omega)
   obtain ⟨ps', hl, hr⟩ := ih (x8 + 1) aA (by omega)
   refine ⟨ps', hl.imp id fun e => ⟨rfl, e.2.1, fun b h1 h2 a hab => ?_⟩, fun r h => Q9 ?_⟩
   ·by_cases g : b = x8
    ·subst g
     exact (aC e.1).2 a (Nat.zero_le _) hab
    ·exact e.2.2 b (by omega) h2 a hab
   ·simp only [Qi.l1]
    refine Qq (by omega) (Q9 ?_)
    simp only [Qi.j3]
    exact Qq (by trivial) (Qq (by omega) (Qq (by omega) (hi r (hr r h))))
def Gp2 (ps : List IP) : Prop := (∀ p ∈ ps, Ye 50 p = true) ∧ ∀ a b c, a < b → b < c → c < ps.length → Vw (pt ps a) (pt ps b) (pt ps c) ≠ 0
theorem jJb {ps : List IP} {z : IP} (h : Gp2 ps) (hz : Ye 50 z = true) (ha : ∀ b, 0 ≤ b → b < ps.length → ∀ a, a < b → Vw (pt ps a) (pt ps b) z ≠ 0) : Gp2 (ps ++ [z]) := by
 have hlen : (ps ++ [z]).length = ps.length + 1 := by rw [List.length_append, List.length_singleton]
 have hp : ∀ k, k < ps.length → pt (ps ++ [z]) k = pt ps k := fun k hk => by rw [jC7 (by omega), jC7 hk, List.getElem_append_left hk]
 have hl : pt (ps ++ [z]) ps.length = z := by rw [jC7 (by omega)]; simp
 refine ⟨fun p hm => ?_, fun a b c hab hbc hc => ?_⟩
 ·rcases List.mem_append.1 hm with hm | hm
  ·exact h.1 p hm
  ·rw [List.mem_singleton.1 hm]; exact hz
 ·rw [hp a (by omega), hp b (by omega)]
  by_cases g : c = ps.length
  ·rw [g, hl]
   exact ha b (Nat.zero_le _) (by omega) a hab
  ·rw [hp c (by omega)]
   exact h.2 a b c hab hbc (by omega)
theorem jIn {l : List Int} (hl : l.length ≤ 1048576) {i : Int} (hc : Cur l i) (h : Int) : ∃ (ps : List IP) (i' h' : Int), Ev (fun k => Qi.f k l i h) (ps, i', h') ∧ Y3 ps = true ∧ Cur l i' := by
 have done : ∀ (x5 : Nat) (ps : List IP) (i h x3 : Int), (ps.length : Int) ≤ 6 → Gp2 ps → Cur l i → ∃ (ps' : List IP) (i' h' : Int), Ev (fun k => Qi.j1 k x3 ps (x5 : Int) false l i h) (ps', i', h') ∧ Y3 ps' = true ∧ Cur l i' := by
  intro x5 ps i h x3 hp hg hc
  by_cases g : (ps.length : Int) < 3
  ·refine ⟨[(⟨0, 0⟩ : IP), (⟨4, 1⟩ : IP), (⟨1, 3⟩ : IP), (⟨2, 2⟩ : IP)], i, h, Q9 ?_, by decide +kernel, hc⟩
   simp only [Qi.j1]
   exact Q7 (by decide) (Qq g (Ev.now _))
  ·refine ⟨ps, i, h, Q9 ?_, Vg.2 ⟨⟨by omega, by omega⟩, hg⟩, hc⟩
   simp only [Qi.j1]
   exact Q7 (by decide) (Q7 g (Ev.now _))
 have key : ∀ (d x5 : Nat) (ps : List IP) (i h x3 : Int), x5 + d = 12 → (ps.length : Int) ≤ x3 → x3 ≤ 6 → Gp2 ps → Cur l i → ∃ (ps' : List IP) (i' h' : Int), Ev (fun k => Qi.l0 k x3 ps (x5 : Int) l i h) (ps', i', h') ∧ Y3 ps' = true ∧ Cur l i' := by
  intro d
  induction d with
  | zero =>
   intro x5 ps i h x3 hd hp hx hg hc
   obtain ⟨ps', i', h', e, r⟩ := done x5 ps i h x3 (by omega) hg hc
   refine ⟨ps', i', h', Q9 ?_, r⟩
   simp only [Qi.l0]
   exact Q7 (by omega) e
  | succ d ih =>
   intro x5 ps i h x3 hd hp hx hg hc
   by_cases g : (ps.length : Int) < x3
   ·obtain ⟨x, i1, h1, e1, _, b1, c1⟩ := Z9 hl hc h 13
    obtain ⟨y, i2, h2, e2, _, b2, c2⟩ := Z9 hl c1 h1 13
    have b1 := b1 (by omega)
    have b2 := b2 (by omega)
    have hz : Ye 50 (⟨wrap64 (x - 6), wrap64 (y - 6)⟩ : IP) = true := by
     rw [Jb (by omega) (by omega), Jb (by omega) (by omega)]
     refine Ue.2 ?_
     simp only
     omega
    obtain ⟨aA, hl1, hr1⟩ := jGd (x3 := x3) (x5 := x5) (by omega) (l := l) (i := i2) (h := h2) (p := wrap64 (x - 6)) (q := wrap64 (y - 6)) (ps := ps) (by omega) (fun k hk => by rw [jC7 hk]; exact V9 (hg.1 _ (List.getElem_mem hk))) (V9 hz) ps.length 0 true (by omega)
    have hg1 : (aA.length : Int) ≤ x3 ∧ Gp2 aA := by
     rcases hl1 with rfl | ⟨_, rfl, ha⟩
     ·exact ⟨hp, hg⟩
     ·refine ⟨?_, jJb hg hz ha⟩
      rw [List.length_append, List.length_singleton]
      omega
    obtain ⟨ps', i', h', e, r⟩ := ih (x5 + 1) aA i2 h2 x3 (by omega) hg1.1 hx hg1.2 c2
    refine ⟨ps', i', h', Q9 ?_, r⟩
    simp only [Qi.l0]
    refine Qq (by omega) (Q9 ?_)
    simp only [Qi.j1]
    exact Qq (decide_eq_true g) (Jn e1 (Jn e2 (hr1 _ e)))
   ·obtain ⟨ps', i', h', e, r⟩ := done x5 ps i h x3 (by omega) hg hc
    refine ⟨ps', i', h', Q9 ?_, r⟩
    simp only [Qi.l0]
    rw [decide_eq_false g]
    exact Qq (by omega) e
 obtain ⟨x, i1, h1, e1, _, b1, c1⟩ := Z9 hl hc h 4
 have b1 := b1 (by omega)
 obtain ⟨ps', i', h', e, r⟩ := key 12 0 [] i1 h1 (wrap64 (3 + x)) rfl (by rw [Jb (by omega) (by omega)]; simp only [List.length_nil]; omega) (by rw [Jb (by omega) (by omega)]; omega) ⟨fun p hp => (by cases hp), fun a b c h1 h2 h3 => (by cases h3)⟩ c1
 refine ⟨ps', i', h', ?_, r⟩
 unfold Qi.f
 exact Jn e1 e
theorem jFd {l : List Int} (hl : l.length ≤ 1048576) {i : Int} (hc : Cur l i) (h : Int) : ∃ (n : Int) (t : ByteArray) (i' h' : Int), Ev (fun k => Jp.f k l i h) (n, t, i', h') ∧ (3 ≤ n ∧ n ≤ 7) ∧ t.size ≤ 100 ∧ Cur l i' := by
 obtain ⟨b, i1, h1, e1, c1⟩ := jCi hl hc h 5
 cases b with
 | true =>
  obtain ⟨x, i2, h2, e2, _, b2, c2⟩ := Z9 hl c1 h1 3
  have b2 := b2 (by omega)
  have key : ∀ (d x5 : Nat) (i h : Int) (t : ByteArray) (n : Int), n ∈ [(3 : Int), 4, 5] → x5 + d = 20 → t.size ≤ x5 → Cur l i → ∃ (t' : ByteArray) (i' h' : Int), Ev (fun k => Jp.l0 k n (x5 : Int) l i h n t) (n, t', i', h') ∧ t'.size ≤ 100 ∧ Cur l i' := by
   intro d
   induction d with
   | zero =>
    intro x5 i h t n hn hd ht hc
    refine ⟨t, i, h, Q9 ?_, by omega, hc⟩
    simp only [Jp.l0]
    refine Q7 ?_ (Ev.now _)
    have : wrap64 (Int.tdiv (wrap64 ((wrap64 (n * (wrap64 (n - 1)))) * (wrap64 (n - 2)))) 6) ≤ 10 := by
     simp only [List.mem_cons, List.not_mem_nil, or_false] at hn
     rcases hn with rfl | rfl | rfl <;> decide +kernel
    omega
   | succ d ih =>
    intro x5 i h t n hn hd ht hc
    by_cases g : (x5 : Int) < wrap64 (Int.tdiv (wrap64 ((wrap64 (n * (wrap64 (n - 1)))) * (wrap64 (n - 2)))) 6)
    ·obtain ⟨y, i3, h3, e3, m3, c3⟩ := jD1 hl hc h [(⟨#[43]⟩ : ByteArray), (⟨#[45]⟩ : ByteArray), (⟨#[43]⟩ : ByteArray)] (by simp)
     have hy : y.size = 1 := by
      simp only [List.mem_cons, List.not_mem_nil, or_false] at m3
      rcases m3 with rfl | rfl | rfl <;> rfl
     obtain ⟨t', i', h', e, r⟩ := ih (x5 + 1) i3 h3 (t ++ y) n hn (by omega) (by rw [ByteArray.size_append]; omega) c3
     refine ⟨t', i', h', Q9 ?_, r⟩
     simp only [Jp.l0]
     rw [Jb (x := (x5 : Int) + 1) (by omega) (by omega)]
     exact Qq g (Jn e3 (Qq (by simp only; omega) e))
    ·refine ⟨t, i, h, Q9 ?_, by omega, hc⟩
     simp only [Jp.l0]
     exact Q7 g (Ev.now _)
  have hn : (3 + x) ∈ [(3 : Int), 4, 5] := by
   have : x = 0 ∨ x = 1 ∨ x = 2 := by omega
   rcases this with rfl | rfl | rfl <;> decide
  obtain ⟨t', i', h', e, r⟩ := key 20 0 i2 h2 (⟨#[]⟩ : ByteArray) (3 + x) hn rfl (Nat.le_refl _) c2
  refine ⟨3 + x, t', i', h', ?_, by omega, r⟩
  unfold Jp.f
  refine Jn e1 (Qq (by trivial) (Jn e2 ?_))
  simp only
  rw [Jb (by omega) (by omega)]
  exact e
 | false =>
  obtain ⟨ps, i2, h2, e2, ha, c2⟩ := jIn hl c1 h1
  have m := (Vg.1 ha).1
  have hs := Wz ps (by omega)
  have hb := jC8 ps
  have hv : (Yl ps).1 = (ps.length : Int) := by unfold Yl; rw [if_pos ha]
  refine ⟨(Yl ps).1, (Yl ps).2.1, i2, h2, ?_, by omega, by omega, c2⟩
  unfold Jp.f
  exact Jn e1 (Q7 (by simp) (Ev.bind e2 (Ev.bind hs (Ev.now _))))
theorem jAb {l : List Int} (hl : l.length ≤ 1048576) {i : Int} (hc : Cur l i) (h : Int) : ∃ (n : Int) (t : ByteArray) (i' h' : Int), Ev (fun k => Jz.f k l i h) (n, t, i', h') ∧ (2 ≤ n ∧ n ≤ 8) ∧ t.size ≤ 101 ∧ Cur l i' := by
 obtain ⟨n, t, i1, h1, e1, m1, m2, c1⟩ := jFd hl hc h
 obtain ⟨x, i2, h2, e2, _, _, c2⟩ := Z9 hl c1 h1 18
 by_cases g : x = 0
 ·obtain ⟨y, i3, h3, e3, m3, c3⟩ := jBv hl c2 h2 [2, 8, 4, 5] (by decide)
  have hy : 2 ≤ y ∧ y ≤ 8 := by
   simp only [List.mem_cons, List.not_mem_nil, or_false] at m3
   omega
  refine ⟨y, t, i3, h3, ?_, hy, by omega, c3⟩
  unfold Jz.f
  exact Ev.bind e1 (Jn e2 (Qq g (Jn e3 (Ev.now _))))
 ·by_cases g1 : x = 1
  ·obtain ⟨y, i3, h3, e3, m3, c3⟩ := jD1 hl c2 h2 [(⟨#[43]⟩ : ByteArray), (⟨#[48]⟩ : ByteArray)] (by simp)
   have hy : y.size = 1 := by
    simp only [List.mem_cons, List.not_mem_nil, or_false] at m3
    rcases m3 with rfl | rfl <;> rfl
   refine ⟨n, t ++ y, i3, h3, ?_, by omega, by rw [ByteArray.size_append]; omega, c3⟩
   unfold Jz.f
   exact Ev.bind e1 (Jn e2 (Q7 g (Qq g1 (Jn e3 (Qq (by simp only; omega) (Ev.now _))))))
  ·refine ⟨n, t, i2, h2, ?_, by omega, by omega, c2⟩
   unfold Jz.f
   exact Ev.bind e1 (Jn e2 (Q7 g (Q7 g1 (Ev.now _))))
theorem jL1 {l : List Int} (hl : l.length ≤ 1048576) : ∃ (n : Int) (t : ByteArray) (i j k : Int), Ev (fun q => Xp.f q l) (n, t, i, j, k) ∧ t.size ≤ 101 := by
 obtain ⟨h, hn⟩ := jB1 l hl
 obtain ⟨n, t, i1, h1, e1, _, m, c1⟩ := jAb hl (jKw l) h
 obtain ⟨x, i2, h2, e2, _, _, c2⟩ := Z9 hl c1 h1 6
 obtain ⟨b, i3, h3, e3, c3⟩ := jCi hl c2 h2 16
 obtain ⟨y, i4, h4, e4, _, _, c4⟩ := Z9 hl c3 h3 6
 obtain ⟨z, i5, h5, e5, _, _, c5⟩ := Z9 hl c4 h4 6
 exact ⟨n, t, wrap64 (x - (if b = true then 1 else 0)), y, z, by unfold Xp.f; exact Ev.bind hn (Ev.bind e1 (Jn e2 (Jn e3 (Jn (jCs b) (Jn e4 (Jn e5 (Ev.now _))))))), m⟩
theorem jL5 {l : List Int} (hl : l.length ≤ 1048576) : ∃ ps : List IP, Ev (fun k => Xd.f k l) ps ∧ ps.length ≤ 21 := by
 obtain ⟨h, hn⟩ := jB1 l hl
 obtain ⟨ps, i, h', e, _, m, _⟩ := jGi hl (jKw l) h
 exact ⟨ps, by unfold Xd.f; exact Ev.bind hn (Ev.bind e (Ev.now _)), m⟩
theorem jLe {l : List Int} (hl : l.length ≤ 1048576) : ∃ (n : Int) (t : ByteArray), Ev (fun k => Zk.f k l) (n, t) ∧ t.size ≤ 101 := by
 obtain ⟨h, hn⟩ := jB1 l hl
 obtain ⟨n, t, i1, h1, e1, _, m, c1⟩ := jAb hl (jKw l) h
 exact ⟨n, t, by unfold Zk.f; exact Ev.bind hn (Ev.bind e1 (Ev.now _)), m⟩
theorem jLo {l : List Int} (hl : l.length ≤ 1048576) : ∃ (n : Int) (t : ByteArray) (o : List Int), Ev (fun k => Zp.f k l) (n, t, o) ∧ t.size ≤ 101 ∧ o.length ≤ 8 := by
 obtain ⟨h, hn⟩ := jB1 l hl
 obtain ⟨n, t, i1, h1, e1, mn, m, c1⟩ := jAb hl (jKw l) h
 obtain ⟨N, rfl⟩ : ∃ N : Nat, n = (N : Int) := Int.eq_ofNat_of_zero_le (by omega)
 obtain ⟨o, i2, h2, e2, lo, _, _, c2⟩ := jFp hl c1 h1 N (by omega)
 obtain ⟨b, i3, h3, e3, c3⟩ := jCi hl c2 h2 12
 unfold Zp.f
 cases b with
 | false => exact ⟨(N : Int), t, o, Ev.bind hn (Ev.bind e1 (Ev.bind e2 (Jn e3 (Q7 (by simp) (Ev.now _))))), m, by omega⟩
 | true =>
  obtain ⟨x, i4, h4, e4, _, _, c4⟩ := Z9 hl c3 h3 9
  exact ⟨(N : Int), t, o.set (0 : Int).toNat (wrap64 (x - 1)), Ev.bind hn (Ev.bind e1 (Ev.bind e2 (Jn e3 (Qq (by trivial) (Jn e4 (Qq (by simp only; omega) (Ev.now _))))))), m, by rw [List.length_set]; omega⟩
theorem jLr {l : List Int} (hl : l.length ≤ 1048576) : ∃ (n : Int) (t : ByteArray) (x : Int), Ev (fun k => Zi.f k l) (n, t, x) ∧ t.size ≤ 101 := by
 obtain ⟨h, hn⟩ := jB1 l hl
 obtain ⟨n, t, i1, h1, e1, _, m2, c1⟩ := jAb hl (jKw l) h
 obtain ⟨x, i2, h2, e2, _, _, c2⟩ := Z9 hl c1 h1 (if (1 : Int) > n then 1 else n)
 obtain ⟨b, i3, h3, e3, c3⟩ := jCi hl c2 h2 14
 have em : X6.f 1 n = some (if (1 : Int) > n then 1 else n) := by unfold X6.f; split <;> rfl
 have e : Ev (fun q => Z4.f q l) (n, t, wrap64 (x - (if b = true then 1 else 0))) := by
  unfold Z4.f
  exact Ev.bind hn (Ev.bind e1 (Jn em (Jn e2 (Jn e3 (Jn (jCs b) (Ev.now _))))))
 refine ⟨n, t, wrap64 (x - (if b = true then 1 else 0)), ?_, m2⟩
 unfold Zi.f
 exact Ev.bind e (Ev.now _)
theorem jEy (n : Int) (t : ByteArray) : (sgT n t).size ≤ 100 := by
 unfold sgT
 split
 ·rename_i h
  obtain ⟨⟨h0, h1⟩, _, _⟩ := (Za _ _).1 h
  have z := X3 h
  have zi := Wm (n := n) (by omega) (by omega)
  rw [ByteArray.size_append, ByteArray.size_append, show (⟨#[58]⟩ : ByteArray).size = 1 from rfl]
  omega
 ·exact Nat.zero_le _
theorem jMk {l : List Int} (hl : l.length ≤ 1048576) : ∃ t : ByteArray, Ev (fun k => Zv.f k l) t ∧ t.size ≤ 400000 := by
 obtain ⟨h, hn⟩ := jB1 l hl
 obtain ⟨n, t, i1, h1, e1, _, m, c1⟩ := jFd hl (jKw l) h
 obtain ⟨u, i2, h2, e2, s2⟩ := jHl hl c1 h1 (sgT n t) (by have := jEy n t; omega) [(⟨#[58]⟩ : ByteArray), (⟨#[43]⟩ : ByteArray), (⟨#[45]⟩ : ByteArray), (⟨#[51]⟩ : ByteArray), (⟨#[52]⟩ : ByteArray)] (by simp) (by decide)
 exact ⟨u, by unfold Zv.f; exact Ev.bind hn (Ev.bind e1 (Ev.bind (jFe n t (by omega)) (Jn e2 (Ev.now _)))), s2⟩
end Go.Proofs.YtckkfjdkaimmhaaGreatDoor.M
namespace Go.Proofs.YtckkfjdkaimmhaaGreatDoor.M
open Go.RowKit Go.Proofs.YtckkfjdkaimmhaaGreatDoorW.PrintWords Go.Proofs.YtckkfjdkaimmhaaGreatDoor.G
def jNd (z : Option (Bool × Nat)) : Option (Bool × Nat) := z.map fun z => (!z.1, z.2)
def jL0 (n a b c : Nat) : Bool := decide (Zo (Jg n) 0 (ix3 b a c) = jNd (Zo (Jg n) 0 (ix3 a b c))) && decide (Zo (Jg n) 0 (ix3 a c b) = jNd (Zo (Jg n) 0 (ix3 a b c))) && (!(decide (a < n) && decide (b < n) && decide (c < n) && decide (a ≠ b) && decide (b ≠ c) && decide (a ≠ c)) || (Zo (Jg n) 0 (ix3 a b c)).isSome)
def jMi (n : Nat) : Bool := (List.range 7).all fun a => (List.range 7).all fun b => (List.range 7).all fun c => jL0 n a b c
theorem jGb {n : Nat} (h0 : 3 ≤ n) (h1 : n ≤ 7) : jMi n = true := by
 refine five (p := fun n => jMi n = true) h0 h1 ?_ ?_ ?_ ?_ ?_ <;> decide +kernel
theorem jD3 {n a b c : Nat} (h0 : 3 ≤ n) (h1 : n ≤ 7) (ha : a < 7) (hb : b < 7) (hc : c < 7) : jL0 n a b c = true := by
 have h := jGb h0 h1
 have h := List.all_eq_true.1 h a (List.mem_range.2 ha)
 have h := List.all_eq_true.1 h b (List.mem_range.2 hb)
 exact List.all_eq_true.1 h c (List.mem_range.2 hc)
theorem jG7 {n a b c a' b' c' : Nat} (t : ByteArray) (h : Zo (Jg n) 0 (ix3 a' b' c') = jNd (Zo (Jg n) 0 (ix3 a b c))) : chi n t a' b' c' = -chi n t a b c := by
 unfold chi
 rw [h]
 cases Zo (Jg n) 0 (ix3 a b c) with
 | none => rfl
 | some z =>
  obtain ⟨b, m⟩ := z
  cases b
  ·rfl
  ·show sgB t m = - -sgB t m
   omega
theorem jAz {n a b c : Nat} (t : ByteArray) (h0 : 3 ≤ n) (h1 : n ≤ 7) (ha : a < 7) (hb : b < 7) (hc : c < 7) : chi n t b a c = -chi n t a b c := by
 have h := jD3 h0 h1 ha hb hc
 simp only [jL0, Bool.and_eq_true, decide_eq_true_eq] at h
 exact jG7 t h.1.1
theorem jDr {n a b c : Nat} (t : ByteArray) (h0 : 3 ≤ n) (h1 : n ≤ 7) (ha : a < 7) (hb : b < 7) (hc : c < 7) : chi n t a c b = -chi n t a b c := by
 have h := jD3 h0 h1 ha hb hc
 simp only [jL0, Bool.and_eq_true, decide_eq_true_eq] at h
 exact jG7 t h.1.2
theorem jLj {n a b c : Nat} (t : ByteArray) (h0 : 3 ≤ n) (h1 : n ≤ 7) (ha : a < n) (hb : b < n) (hc : c < n) (hab : a ≠ b) (hbc : b ≠ c) (hac : a ≠ c) : chi n t a b c = 1 ∨ chi n t a b c = -1 := by
 have h := jD3 (n := n) (a := a) (b := b) (c := c) h0 h1 (by omega) (by omega) (by omega)
 simp only [jL0, Bool.and_eq_true] at h
 have h := h.2
 rw [decide_eq_true ha, decide_eq_true hb, decide_eq_true hc, decide_eq_true hab, decide_eq_true hbc, decide_eq_true hac] at h
 simp only [Bool.and_self, Bool.not_true, Bool.false_or] at h
 unfold chi
 cases hl : Zo (Jg n) 0 (ix3 a b c) with
 | none => rw [hl] at h; cases h
 | some z =>
  obtain ⟨b, m⟩ := z
  rcases jAy t m with e | e <;> cases b <;> simp [sgv, e]
theorem jDh (n : Nat) (t : ByteArray) (a b c : Nat) : chi n t a b c = 1 ∨ chi n t a b c = -1 ∨ chi n t a b c = 0 := by
 unfold chi
 cases Zo (Jg n) 0 (ix3 a b c) with
 | none => exact Or.inr (Or.inr rfl)
 | some z =>
  obtain ⟨b, m⟩ := z
  rcases jAy t m with e | e <;> cases b <;> simp [sgv, e]
end Go.Proofs.YtckkfjdkaimmhaaGreatDoor.M
namespace Go.Proofs.YtckkfjdkaimmhaaGreatDoor.M
open Go.RowKit Go.Proofs.YtckkfjdkaimmhaaGreatDoorW.PrintWords Go.Proofs.YtckkfjdkaimmhaaGreatDoor.PX Go.Proofs.YtckkfjdkaimmhaaGreatDoor.G
theorem jI2 : ∀ (n : Nat) (L : List Nat), L.Nodup → (∀ x ∈ L, x < n) → L.length ≤ n := by
 intro n
 induction n with
 | zero =>
  intro L _ h
  cases L with
  | nil => exact Nat.le_refl _
  | cons x l => exact absurd (h x (List.mem_cons_self ..)) (by omega)
 | succ n ih =>
  intro L hd h
  by_cases hm : n ∈ L
  ·have h1 := ih (L.erase n) (hd.erase _) (fun x hx => by
    have h2 := (List.Nodup.mem_erase_iff hd).1 hx
    have := h x h2.2
    have := h2.1
    omega)
   rw [List.length_erase_of_mem hm] at h1
   omega
  ·have := ih L hd (fun x hx => by
    have h1 := h x hx
    have : x ≠ n := fun e => hm (e ▸ hx)
    omega)
   omega
theorem Yd {n : Nat} {L : List Nat} (hd : L.Nodup) (h : ∀ x ∈ L, x < n) (hl : L.length = n) {x : Nat} (hx : x < n) : x ∈ L := by
 refine Classical.byContradiction fun hn => ?_
 have := jI2 n (x :: L) (List.nodup_cons.2 ⟨hn, hd⟩) (fun y hy => by
  rcases List.mem_cons.1 hy with e | e
  ·omega
  ·exact h y e)
 rw [List.length_cons] at this
 omega
theorem jD0 {n : Nat} {l : List Int} (h : jAe n l = true) : ∃ L : List Nat, l = up L ∧ (∀ x ∈ L, x < n) ∧ L.Nodup := by
 have h' : ∀ (i : Nat) (hi : i < l.length), 0 ≤ l[i] ∧ l[i] < n ∧ ¬ l[i] ∈ l.take i := fun i hi => by
  have := List.all_eq_true.1 h i (List.mem_range.2 hi)
  rw [List.getD_eq_getElem?_getD, List.getElem?_eq_getElem hi] at this
  simp only [Option.getD_some, inR, Bool.and_eq_true, decide_eq_true_eq, Bool.not_eq_true'] at this
  refine ⟨this.1.1, this.1.2, fun hm => ?_⟩
  have h2 := List.contains_iff_mem.2 hm
  rw [this.2] at h2
  cases h2
 refine ⟨l.map Int.toNat, ?_, ?_, ?_⟩
 ·unfold up
  rw [List.map_map]
  refine List.ext_getElem (by rw [List.length_map]) fun i h1 h2 => ?_
  rw [List.getElem_map]
  have := (h' i h1).1
  show l[i] = ((l[i].toNat : Nat) : Int)
  omega
 ·intro x hx
  obtain ⟨y, hy, rfl⟩ := List.mem_map.1 hx
  obtain ⟨i, hi, rfl⟩ := List.getElem_of_mem hy
  have := h' i hi
  omega
 ·refine List.pairwise_iff_getElem.2 fun i j hi hj hij e => ?_
  rw [List.length_map] at hi hj
  rw [List.getElem_map, List.getElem_map] at e
  have a := h' i hi
  have b := h' j hj
  refine b.2.2 ?_
  have : l[i] = l[j] := by omega
  rw [← this]
  have : (l.take j)[i]'(by rw [List.length_take]; omega) = l[i] := List.getElem_take ..
  rw [← this]
  exact List.getElem_mem _
theorem jD6 {σ ρ α : Type} (c : α → Bool) (g : σ → α → σ) (v : ρ) (l : List α) : ∀ s, l.foldlM (fun s i => if c i then (.ok (g s i) : Except ρ σ) else .error v) s = if l.all c then .ok (l.foldl g s) else .error v := by
 induction l with
 | nil => intro s; rfl
 | cons x l ih =>
  intro s
  rw [List.foldlM_cons, List.all_cons]
  cases hx : c x with
  | true => exact ih (g s x)
  | false => rfl
theorem jH5 {n : Nat} (h0 : 3 ≤ n) (h1 : n ≤ 7) (l : List Int) (hl : l.length ≤ 9223372036854775807) : Ev (fun k => Zh.f k l (n : Int)) (jAe n l && decide ((l.length : Int) = n)) := by
 unfold Zh.f
 have hm : X6.f 0 (n : Int) = some (n : Int) := by unfold X6.f; rw [if_neg (by omega)]
 refine Jn hm (Qq (by omega) (Qq (by omega) ?_))
 rw [Int.toNat_natCast]
 have key := Y6 (σ := List Bool) (ρ := Bool) (lo := 0) (n := l.length) (K := fun _ _ => some ((l.length : Int) == (n : Int))) (L := fun i s k => Zh.l0 k l (n : Int) s i)
  (fun i s => s.length = n ∧ ∀ x, x < n → s.getD x false = decide ((x : Int) ∈ l.take i)) (fun s i => if (inR n (l.getD i 0) && !((l.take i).contains (l.getD i 0))) then .ok (s.set (l.getD i 0).toNat true) else .error false)
  (fun s _ => ?_) (fun i _ hi s hs => ?_) (fun i _ hi s hs s' e => ?_) (by omega) (List.replicate n false) ⟨List.length_replicate .., fun x hx => ?_⟩
 ·rw [jD6] at key
  have e : (List.range' 0 (l.length - 0)).all (fun i => inR n (l.getD i 0) && !((l.take i).contains (l.getD i 0))) = jAe n l := by
   unfold jAe
   rw [Nat.sub_zero, ← List.range_eq_range']
  rw [e] at key
  cases hd : jAe n l with
  | true =>
   rw [hd] at key
   refine Zn (key _ (Ev.now _)) ?_
   rw [Bool.true_and]; rfl
  | false =>
   rw [hd] at key
   exact key
 ·refine Goes.step ?_
  simp only [Zh.l0]
  exact Goes.neg (by omega) (Goes.ok s)
 ·obtain ⟨hs1, hs2⟩ := hs
  have hr : rd l (i : Int) = l.getD i 0 := by unfold rd; rw [Int.toNat_natCast]
  refine Goes.step ?_
  simp only [Zh.l0, hr]
  refine Goes.pos (by omega) (Goes.pos (by omega) (Goes.call (Kl _ _ _) ?_))
  generalize l.getD i 0 = y
  rw [Jb (x := (n : Int) - 1) (by omega) (by omega), Jb (by omega) (by omega)]
  by_cases hy : 0 ≤ y ∧ y < n
  ·have e1 : inR n y = true := by simp only [inR, Bool.and_eq_true, decide_eq_true_eq]; omega
   rw [e1, Bool.true_and]
   refine Goes.pos (by simp only [Bool.and_eq_true, decide_eq_true_eq]; omega) (Goes.pos hy.1 (Goes.pos (by omega) ?_))
   have e2 : Vj false s y = decide (y ∈ l.take i) := by
    show s.getD y.toNat false = _
    rw [hs2 y.toNat (by omega), Int.toNat_of_nonneg hy.1]
   rw [e2]
   by_cases hm : y ∈ l.take i
   ·rw [List.contains_iff_mem.2 hm]
    exact Goes.pos (decide_eq_true hm) (Goes.ret _)
   ·have e3 : (l.take i).contains y = false := by rw [Bool.eq_false_iff]; exact fun e => hm (List.contains_iff_mem.1 e)
    rw [e3]
    exact Goes.neg (by simp only [decide_eq_true_eq]; exact hm) (Goes.ok _)
  ·have e1 : inR n y = false := by rw [Bool.eq_false_iff]; simp only [inR, ne_eq, Bool.and_eq_true, decide_eq_true_eq]; omega
   rw [e1, Bool.false_and]
   exact Goes.neg (by simp only [Bool.and_eq_true, decide_eq_true_eq]; omega) (Goes.ret _)
 ·obtain ⟨hs1, hs2⟩ := hs
  split at e
  ·rename_i hc
   cases e
   simp only [Bool.and_eq_true, inR, decide_eq_true_eq] at hc
   refine ⟨by rw [List.length_set]; exact hs1, fun x hx => ?_⟩
   rw [List.take_succ_eq_append_getElem hi]
   have ey : l.getD i 0 = l[i] := by rw [List.getD_eq_getElem?_getD, List.getElem?_eq_getElem hi]; rfl
   rw [ey] at hc
   rw [ey, List.getD_eq_getElem?_getD, List.getElem?_set]
   by_cases hx' : l[i].toNat = x
   ·rw [if_pos hx', if_pos (by omega)]
    have : (x : Int) ∈ l.take i ++ [l[i]] := by
     rw [← hx', Int.toNat_of_nonneg hc.1.1]
     exact List.mem_append_right _ (List.mem_singleton.2 rfl)
    rw [decide_eq_true this]; rfl
   ·rw [if_neg hx', ← List.getD_eq_getElem?_getD, hs2 x hx]
    congr 1
    rw [List.mem_append, List.mem_singleton]
    refine propext ⟨Or.inl, fun h => ?_⟩
    rcases h with h | h
    ·exact h
    ·exact absurd (by rw [← h]; rfl) hx'
  ·cases e
 ·rw [List.take_zero, List.getD_eq_getElem?_getD, List.getElem?_replicate, if_pos hx]
  rfl
def jEf (L : List Nat) : List Nat := (List.range L.length).map fun x => L.idxOf x
theorem Vd (L : List Nat) : (jEf L).length = L.length := by rw [jEf, List.length_map, List.length_range]
theorem We {L : List Nat} {x : Nat} (hx : x < L.length) : (jEf L).getD x 0 = L.idxOf x := by
 rw [List.getD_eq_getElem?_getD, List.getElem?_eq_getElem (by rw [Vd]; exact hx)]
 simp [jEf]
theorem jHw {n : Nat} {L : List Nat} (hn : n ≤ 7) (hd : L.Nodup) (hm : ∀ x ∈ L, x < n) (hl : L.length = n) : Ev (fun k => Ze.f k (up L)) (up (jEf L)) := by
 unfold Ze.f
 rw [Xn]
 refine Qq (by omega) (Qq (by rw [Int.toNat_natCast]; omega) ?_)
 rw [Int.toNat_natCast]
 have key := Y6 (σ := List Int) (ρ := List Int) (lo := 0) (n := L.length) (K := fun s _ => some (up (jEf L))) (L := fun i s k => Ze.l0 k (up L) s i)
  (fun i s => s.length = n ∧ ∀ k (hk : k < L.length), k < i → s.getD L[k] 0 = k) (fun s i => .ok (s.set (L.getD i 0) (i : Int)))
  (fun s hs => ?_) (fun i _ hi s hs => ?_) (fun i _ hi s hs s' e => ?_) (by omega) (List.replicate L.length 0) ⟨by rw [List.length_replicate]; exact hl, fun k hk h => absurd h (by omega)⟩
 ·rw [V8] at key
  exact key _ (Ev.now _)
 ·obtain ⟨hs1, hs2⟩ := hs
  refine Goes.step ?_
  simp only [Ze.l0, Xn]
  refine Goes.neg (by omega) ?_
  have e : s = up (jEf L) := by
   refine jAh (by rw [Xn, Vd, hs1, hl]) fun x hx => ?_
   have hxm := Yd hd hm hl (x := x) (by omega)
   have hxi := List.idxOf_lt_length_iff.2 hxm
   have h1 := hs2 (L.idxOf x) hxi hxi
   rw [List.getElem_idxOf hxi] at h1
   rw [h1]
   have : (up (jEf L)).getD x 0 = rd (up (jEf L)) (x : Int) := by unfold rd; rw [Int.toNat_natCast]
   rw [this, jAu (by rw [Vd]; omega), We (by omega)]
  rw [← e]
  exact Goes.ok (K := fun s _ => some s) s
 ·obtain ⟨hs1, hs2⟩ := hs
  have hg : L.getD i 0 = L[i] := by rw [List.getD_eq_getElem?_getD, List.getElem?_eq_getElem hi]; rfl
  have hlt := hm L[i] (List.getElem_mem hi)
  refine Goes.step ?_
  simp only [Ze.l0, Xn, jAu hi]
  refine Goes.pos (by omega) (Goes.pos (by omega) (Goes.pos (by omega) (Goes.pos (by rw [hg]; omega) ?_)))
  rw [Jb (by omega) (by omega), Int.toNat_natCast]
  exact Goes.ok _
 ·obtain ⟨hs1, hs2⟩ := hs
  cases e
  have hg : L.getD i 0 = L[i] := by rw [List.getD_eq_getElem?_getD, List.getElem?_eq_getElem hi]; rfl
  have hlt := hm L[i] (List.getElem_mem hi)
  refine ⟨by rw [List.length_set]; exact hs1, fun k hk hki => ?_⟩
  rw [hg, List.getD_eq_getElem?_getD, List.getElem?_set]
  by_cases e : L[i] = L[k]
  ·have : i = k := Classical.byContradiction fun hne => by
    rcases Nat.lt_or_gt_of_ne hne with g | g
    ·exact List.pairwise_iff_getElem.1 hd i k hi hk g e
    ·exact List.pairwise_iff_getElem.1 hd k i hk hi g e.symm
   subst this
   rw [if_pos rfl, if_pos (by omega)]; rfl
  ·rw [if_neg e, ← List.getD_eq_getElem?_getD]
   exact hs2 k hk (by have : k ≠ i := fun h => e (by subst h; rfl); omega)
theorem jEv {n x y z q : Nat} {neg : Bool} {f : Nat → Nat → Nat → Int} (h0 : 3 ≤ n) (h1 : n ≤ 7) (hx : x < n) (hy : y < n) (hz : z < n) (hxy : x ≠ y) (hyz : y ≠ z) (hxz : x ≠ z)
  (s1 : ∀ a b c, a < n → b < n → c < n → f b a c = -f a b c) (s2 : ∀ a b c, a < n → b < n → c < n → f a c b = -f a b c) (hl : Zo (Jg n) 0 (ix3 x y z) = some (neg, q)) :
  ∃ a b c : Nat, ∃ hq : q < (Jg n).length, (Jg n)[q] = ⟨(a : Int), (b : Int), (c : Int)⟩ ∧ a < b ∧ b < c ∧ c < n ∧ f x y z = sgv neg (f a b c) := by
 have key : ∀ a b c : Nat, a < b → b < c → c < n → ∀ g : Bool, (∀ p, (∃ hp : p < (Jg n).length, (Jg n)[p] = ⟨(a : Int), (b : Int), (c : Int)⟩ ∧ Zo (Jg n) 0 (ix3 a b c) = some (false, p) ∧ Zo (Jg n) 0 (ix3 b a c) = some (true, p) ∧ Zo (Jg n) 0 (ix3 c b a) = some (true, p) ∧ Zo (Jg n) 0 (ix3 a c b) = some (true, p) ∧ Zo (Jg n) 0 (ix3 c a b) = some (false, p) ∧ Zo (Jg n) 0 (ix3 b c a) = some (false, p)) → Zo (Jg n) 0 (ix3 x y z) = some (g, p)) → f x y z = sgv g (f a b c) →
   ∃ a b c : Nat, ∃ hq : q < (Jg n).length, (Jg n)[q] = ⟨(a : Int), (b : Int), (c : Int)⟩ ∧ a < b ∧ b < c ∧ c < n ∧ f x y z = sgv neg (f a b c) := by
  intro a b c hab hbc hc g hg hf
  obtain ⟨p, hp⟩ := W9 h0 h1 hab hbc hc
  have := hg p hp
  rw [hl] at this
  cases this
  exact ⟨a, b, c, hp.1, hp.2.1, hab, hbc, hc, hf⟩
 rcases Nat.lt_or_gt_of_ne hxy with a1 | a1 <;> rcases Nat.lt_or_gt_of_ne hyz with a2 | a2 <;> rcases Nat.lt_or_gt_of_ne hxz with a3 | a3
 ·exact key x y z a1 a2 hz false (fun p h => h.2.2.1) rfl
 ·omega
 ·refine key x z y a3 a2 hy true (fun p h => h.2.2.2.2.2.1) ?_
  show f x y z = -(f x z y)
  rw [s2 x y z hx hy hz]; omega
 ·refine key z x y a3 a1 hy false (fun p h => h.2.2.2.2.2.2.2) ?_
  show f x y z = f z x y
  rw [s1 x z y hx hz hy, s2 x y z hx hy hz]; omega
 ·refine key y x z a1 a3 hz true (fun p h => h.2.2.2.1) ?_
  show f x y z = -(f y x z)
  rw [s1 x y z hx hy hz]; omega
 ·refine key y z x a2 a3 hx false (fun p h => h.2.2.2.2.2.2.1) ?_
  show f x y z = f y z x
  rw [s2 y x z hy hx hz, s1 x y z hx hy hz]; omega
 ·omega
 ·refine key z y x a2 a1 hx true (fun p h => h.2.2.2.2.1) ?_
  show f x y z = -(f z y x)
  rw [s1 y z x hy hz hx, s2 y x z hy hx hz, s1 x y z hx hy hz]; omega
theorem jGz (n : Nat) (t : ByteArray) (l : List Nat) : pk0 n t l 0 l.length = (Xx l.length).map fun q => byt n t l q.1 q.2.1 q.2.2 := by
 simp only [pk0, pk1, pk2, Xx, Kz, List.map_flatMap, List.map_map]
 rfl
def jF4 (n : Nat) (t : ByteArray) (L : List Nat) (x y z : Nat) : Int := chi n t (L.idxOf x) (L.idxOf y) (L.idxOf z)
def jA7 (n : Nat) (t : ByteArray) (L : List Nat) : Nat → Int := fun q => jF4 n t L (Xj n q).f0.toNat (Xj n q).f1.toNat (Xj n q).f2.toNat
section
variable {n : Nat} {t : ByteArray} (h : Xf n t = true) {L : List Nat} (hm : ∀ x ∈ L, x < n) (hd : L.Nodup) (hl : L.length = n)
include h hm hd hl
theorem jEw : (∀ a b c, a < n → b < n → c < n → jF4 n t L b a c = -jF4 n t L a b c) ∧ (∀ a b c, a < n → b < n → c < n → jF4 n t L a c b = -jF4 n t L a b c) := by
 obtain ⟨⟨h0, h1⟩, _, _⟩ := (Za _ _).1 h
 have hi : ∀ x, x < n → L.idxOf x < 7 := fun x hx => by
  have := List.idxOf_lt_length_iff.2 (Yd hd hm hl hx)
  omega
 exact ⟨fun a b c ha hb hc => jAz t (by omega) (by omega) (hi a ha) (hi b hb) (hi c hc), fun a b c ha hb hc => jDr t (by omega) (by omega) (hi a ha) (hi b hb) (hi c hc)⟩
theorem jH1 : Ev (fun k => Je.f k (jDx n t) (up L)) ((n : Int), K3 n (jA7 n t L)) := by
 obtain ⟨⟨h0, h1⟩, _, _⟩ := (Za _ _).1 h
 have h0 : 3 ≤ n := by omega
 have h1 : n ≤ 7 := by omega
 have hlen := jAc h0 h1
 obtain ⟨w1, w2⟩ := jEw h hm hd hl
 have hg : ∀ {i : Nat} (hi : i < n), L.getD i 0 = L[i] := fun {i} hi => by rw [List.getD_eq_getElem?_getD, List.getElem?_eq_getElem (by omega)]; rfl
 have hlt : ∀ {i : Nat} (hi : i < n), L.getD i 0 < n := fun {i} hi => by rw [hg hi]; exact hm _ (List.getElem_mem _)
 have hne : ∀ {i j : Nat} (hi : i < n) (hj : j < n), i ≠ j → L.getD i 0 ≠ L.getD j 0 := fun {i j} hi hj hij e => by
  rw [hg hi, hg hj] at e
  rcases Nat.lt_or_gt_of_ne hij with g | g
  ·exact List.pairwise_iff_getElem.1 hd i j (by omega) (by omega) g e
  ·exact List.pairwise_iff_getElem.1 hd j i (by omega) (by omega) g e.symm
 have hidx : ∀ {i : Nat} (hi : i < n), L.idxOf (L.getD i 0) = i := fun {i} hi => by
  rw [hg hi]
  have hlt : L.idxOf L[i] < L.length := List.idxOf_lt_length_iff.2 (List.getElem_mem _)
  have h2 : L[L.idxOf L[i]] = L[i] := List.getElem_idxOf hlt
  refine Classical.byContradiction fun hne => ?_
  rcases Nat.lt_or_gt_of_ne hne with g | g
  ·exact List.pairwise_iff_getElem.1 hd _ i hlt (by omega) g h2
  ·exact List.pairwise_iff_getElem.1 hd i _ (by omega) hlt g h2.symm
 unfold Je.f
 rw [jL6]
 refine Ev.bind (Vr h0 h1) ?_
 rw [jCx]
 have key := Y6 (σ := Nat → Int) (ρ := Int × ByteArray) (lo := 0) (n := (Jg n).length) (K := fun _ _ => some ((n : Int), K3 n (jA7 n t L))) (L := fun i s k => Je.l0 k (jDx n t) (up L) (Wj n s) (Jg n) ((Jg n).length : Int) i)
  (fun i s => ∀ (p : Nat) (hp : p < (Jg n).length), p < i → ∀ neg q, Zo (Jg n) 0 (ix3 (L.getD (Xj n p).f0.toNat 0) (L.getD (Xj n p).f1.toNat 0) (L.getD (Xj n p).f2.toNat 0)) = some (neg, q) → s q = jA7 n t L q)
  (fun s p => match Zo (Jg n) 0 (ix3 (L.getD (Xj n p).f0.toNat 0) (L.getD (Xj n p).f1.toNat 0) (L.getD (Xj n p).f2.toNat 0)) with | some z => .ok (upd s z.2 (jA7 n t L z.2)) | none => .ok s)
  (fun s hs => ?_) (fun p _ hp s hs => ?_) (fun p _ hp s hs s' e => ?_) (by omega) (fun _ => 0) (fun p hp hp' => absurd hp' (by omega))
 ·have hok : ∀ (l : List Nat) (s : Nat → Int), ∃ s', l.foldlM (fun s p => match Zo (Jg n) 0 (ix3 (L.getD (Xj n p).f0.toNat 0) (L.getD (Xj n p).f1.toNat 0) (L.getD (Xj n p).f2.toNat 0)) with | some z => (.ok (upd s z.2 (jA7 n t L z.2)) : Except (Int × ByteArray) (Nat → Int)) | none => .ok s) s = .ok s' := by
   intro l
   induction l with
   | nil => intro s; exact ⟨s, rfl⟩
   | cons x l ih =>
    intro s
    rw [List.foldlM_cons]
    split
    ·exact ih _
    ·exact ih _
  obtain ⟨s', hs'⟩ := hok (List.range' 0 ((Jg n).length - 0)) (fun _ => 0)
  rw [hs'] at key
  exact key _ (Ev.now _)
 ·refine Goes.step ?_
  simp only [Je.l0]
  refine Goes.neg (by omega) (Goes.pos (Xo _ _) (Goes.ev (jFi s h0 h1) ?_))
  have e : K3 n s = K3 n (jA7 n t L) := jBk fun q hq => by
   obtain ⟨a, b, c, e1, hab, hbc, hc, hlk⟩ := Ua h0 h1 hq
   have ha' : L.idxOf a < n := by have := List.idxOf_lt_length_iff.2 (Yd hd hm hl (x := a) (by omega)); omega
   have hb' : L.idxOf b < n := by have := List.idxOf_lt_length_iff.2 (Yd hd hm hl (x := b) (by omega)); omega
   have hc' : L.idxOf c < n := by have := List.idxOf_lt_length_iff.2 (Yd hd hm hl (x := c) (by omega)); omega
   have back : ∀ {x : Nat}, x < n → L.getD (L.idxOf x) 0 = x := fun {x} hx => by
    have h3 := List.idxOf_lt_length_iff.2 (Yd hd hm hl hx)
    rw [List.getD_eq_getElem?_getD, List.getElem?_eq_getElem h3]
    exact List.getElem_idxOf h3
   have inj : ∀ {x y : Nat}, x < n → y < n → x ≠ y → L.idxOf x ≠ L.idxOf y := fun {x y} hx hy hxy e => hxy (by rw [← back hx, ← back hy, e])
   obtain ⟨p', hp', q0, q1, q2, q3, q4, q5, q6⟩ := W9 h0 h1 hab hbc hc
   have hqp : p' = q := by rw [hlk] at q1; cases q1; rfl
   subst hqp
   have fin : ∀ i j k : Nat, i < j → j < k → k < n → (∃ g, Zo (Jg n) 0 (ix3 (L.getD i 0) (L.getD j 0) (L.getD k 0)) = some (g, p')) → s p' = jA7 n t L p' := by
    intro i j k hij hjk hk ⟨g, hg'⟩
    obtain ⟨p, hp, e5, _⟩ := W9 h0 h1 hij hjk hk
    refine hs p hp hp g p' ?_
    rw [Y5 hp, e5]
    exact hg'
   have n1 := inj (x := a) (y := b) (by omega) (by omega) (by omega)
   have n2 := inj (x := b) (y := c) (by omega) (by omega) (by omega)
   have n3 := inj (x := a) (y := c) (by omega) (by omega) (by omega)
   have ba := back (x := a) (by omega)
   have bb := back (x := b) (by omega)
   have bc := back (x := c) (by omega)
   rcases Nat.lt_or_gt_of_ne n1 with g1 | g1 <;> rcases Nat.lt_or_gt_of_ne n2 with g2 | g2 <;> rcases Nat.lt_or_gt_of_ne n3 with g3 | g3
   ·exact fin _ _ _ g1 g2 hc' ⟨_, by rw [ba, bb, bc]; exact q1⟩
   ·omega
   ·exact fin _ _ _ g3 g2 hb' ⟨_, by rw [ba, bb, bc]; exact q4⟩
   ·exact fin _ _ _ g3 g1 hb' ⟨_, by rw [ba, bb, bc]; exact q5⟩
   ·exact fin _ _ _ g1 g3 hc' ⟨_, by rw [ba, bb, bc]; exact q2⟩
   ·exact fin _ _ _ g2 g3 ha' ⟨_, by rw [ba, bb, bc]; exact q6⟩
   ·omega
   ·exact fin _ _ _ g2 g1 ha' ⟨_, by rw [ba, bb, bc]; exact q3⟩
  rw [e]
  exact Goes.ok (K := fun _ _ => some ((n : Int), K3 n (jA7 n t L))) s
 ·obtain ⟨a, b, c, e1, hab, hbc, hc, hlk⟩ := Ua h0 h1 hp
  have ha0 : a < n := by omega
  have hb0 : b < n := by omega
  simp only [Y5 hp, e1, Int.toNat_natCast]
  obtain ⟨neg, q, f0, hq, _⟩ := jCd h0 h1 (hlt ha0) (hlt hb0) (hlt hc) (hne ha0 hb0 (by omega)) (hne hb0 hc (by omega)) (hne ha0 hc (by omega))
  rw [f0]
  obtain ⟨a', b', c', hq', e2, _, _, _, e3⟩ := jEv (f := jF4 n t L) h0 h1 (hlt ha0) (hlt hb0) (hlt hc) (hne ha0 hb0 (by omega)) (hne hb0 hc (by omega)) (hne ha0 hc (by omega)) w1 w2 f0
  have e4 : jA7 n t L q = sgv neg (sgB t p) := by
   have e5 : jF4 n t L (L.getD a 0) (L.getD b 0) (L.getD c 0) = sgB t p := by
    unfold jF4
    rw [hidx ha0, hidx hb0, hidx hc, jE1, jAr _ hlk]
    rfl
   rw [e5] at e3
   unfold jA7
   rw [Y5 hq', e2]
   simp only [Int.toNat_natCast]
   rw [e3]
   cases neg <;> simp [sgv]
  refine Goes.step ?_
  simp only [Je.l0, jCp hp, e1, Xn]
  rw [jAu (i := a) (by omega), jAu (i := b) (by omega), jAu (i := c) (by omega), jLl, jHv n (sgB t) (by omega) (by omega) (by omega), jAr _ hlk]
  have hset : Jd.f (Wj n s) ((L.getD a 0 : Nat) : Int) ((L.getD b 0 : Nat) : Int) ((L.getD c 0 : Nat) : Int) (sgv false (sgB t p)) = some (Wj n (upd s q (jA7 n t L q))) := by
   have ba := hlt ha0
   have bb := hlt hb0
   have bc := hlt hc
   show Jd.f (Wj n s) ((L.getD a 0 : Nat) : Int) ((L.getD b 0 : Nat) : Int) ((L.getD c 0 : Nat) : Int) (sgB t p) = _
   rw [jAa _ _ _ _ _ (Xo _ _) (by omega) (by omega) (by omega) (jAy t p)]
   simp only [Int.toNat_natCast]
   rw [jEu s _ h0 h1 (hlt ha0) (hlt hb0) (hlt hc) (hne ha0 hb0 (by omega)) (hne hb0 hc (by omega)) (hne ha0 hc (by omega)) f0, e4]
  refine Goes.pos (by omega) (Goes.pos (by omega) (Goes.pos (by omega) (Goes.pos (by omega) (Goes.pos (by omega) (Goes.pos (by omega) (Goes.pos (by omega) (Goes.pos (by omega) (Goes.pos (by omega) (Goes.pos (by omega) (Goes.pos (by omega) (Goes.pos (by omega) (Goes.pos (Xo _ _) (Goes.call hset ?_)))))))))))))
  rw [Jb (by omega) (by omega)]
  exact Goes.ok (K := fun s k => Je.l0 k (Wj n (sgB t)) (up L) (Wj n s) (Jg n) ((Jg n).length : Int) ((p + 1 : Nat) : Int)) _
 ·intro p2 hp2 hlt2 neg q hq
  have hcase : p2 < p ∨ p2 = p := by omega
  split at e
  ·rename_i z hz
   cases e
   by_cases hqz : q = z.2
   ·subst hqz; exact jCt _ _ _
   ·rw [upd_ne _ _ hqz]
    rcases hcase with g | g
    ·exact hs p2 hp2 g neg q hq
    ·subst g
     rw [hq] at hz
     cases hz
     exact absurd rfl hqz
  ·rename_i hz
   cases e
   rcases hcase with g | g
   ·exact hs p2 hp2 g neg q hq
   ·subst g
    rw [hq] at hz
    cases hz
end
theorem jIg {n : Nat} {t : ByteArray} (h : Xf n t = true) {L : List Nat} (hl : L.length = n) : mkB (pk0 n t (jEf L) 0 (jEf L).length) = K3 n (jA7 n t L) := by
 obtain ⟨⟨h0, h1⟩, _, _⟩ := (Za _ _).1 h
 rw [jGz, Vd, hl]
 refine jBl _ (by omega) (by omega) fun p hp a b c e => ?_
 obtain ⟨a', b', c', e', hab, hbc, hc, _⟩ := Ua (by omega) (by omega) hp
 rw [e] at e'
 injection e' with i1 i2 i3
 obtain rfl := Int.ofNat_inj.1 i1
 obtain rfl := Int.ofNat_inj.1 i2
 obtain rfl := Int.ofNat_inj.1 i3
 unfold jA7 byt
 rw [Y5 hp, e]
 simp only [Int.toNat_natCast]
 rw [We (by omega), We (by omega), We (by omega)]
 rfl
theorem jF9 {n : Nat} {L : List Nat} (hm : ∀ x ∈ L, x < n) (hd : L.Nodup) (hl : L.length = n) : (jEf L).length = n ∧ (∀ x ∈ jEf L, x < n) ∧ (jEf L).Nodup := by
 refine ⟨by rw [Vd, hl], fun x hx => ?_, ?_⟩
 ·obtain ⟨y, hy, rfl⟩ := List.mem_map.1 hx
  have := List.idxOf_lt_length_iff.2 (Yd hd hm hl (x := y) (by have := List.mem_range.1 hy; omega))
  omega
 ·refine List.pairwise_iff_getElem.2 fun i j hi hj hij e => ?_
  rw [Vd] at hi hj
  simp only [jEf, List.getElem_map, List.getElem_range] at e
  have h3 := List.idxOf_lt_length_iff.2 (Yd hd hm hl (x := i) (by omega))
  have h4 := List.idxOf_lt_length_iff.2 (Yd hd hm hl (x := j) (by omega))
  have e5 : L[L.idxOf i] = i := List.getElem_idxOf h3
  have e6 : L[L.idxOf j] = j := List.getElem_idxOf h4
  have : i = j := by rw [← e5, ← e6]; simp only [e]
  omega
def jCv (n : Int) (t : ByteArray) (l : List Int) : Int × ByteArray × Bool := if Xf n t = true ∧ (l.length : Int) = n ∧ jAe n l = true then (n, K3 n.toNat (jA7 n.toNat t (l.map Int.toNat)), true) else (0, ⟨#[]⟩, false)
theorem up_toNat (L : List Nat) : (up L).map Int.toNat = L := by
 unfold up
 rw [List.map_map]
 exact (List.map_congr_left fun x _ => rfl).trans (List.map_id L)
theorem jH8 (n : Int) (t : ByteArray) (l : List Int) (hs : t.size ≤ 9223372036854775807) (hl : l.length ≤ 9223372036854775807) : Ev (fun k => Ju.f k n t l) (jCv n t l) := by
 unfold Ju.f jCv
 have hj : Ev (fun k => Ju.j0 k l true n t) (0, (⟨#[]⟩ : ByteArray), false) := by
  refine Q9 ?_
  simp only [Ju.j0]
  exact Qq (by trivial) (Ev.now _)
 refine Ev.bind (Kh n t hs) ?_
 by_cases h : Xf n t = true
 ·refine Qq h ?_
  by_cases h2 : (l.length : Int) = n
  ·refine Qq h2 (Ev.bind (Wu n l hl) ?_)
   by_cases h3 : jAe n l = true
   ·rw [if_pos ⟨h, h2, h3⟩, h3]
    obtain ⟨⟨h0, h1⟩, _, _⟩ := (Za _ _).1 h
    obtain ⟨N, rfl⟩ : ∃ N : Nat, n = (N : Int) := Int.eq_ofNat_of_zero_le (by omega)
    obtain ⟨L, rfl, hm, hd⟩ := jD0 h3
    rw [Xn] at h2
    rw [up_toNat, Int.toNat_natCast]
    refine Q9 ?_
    simp only [Ju.j0]
    exact Q7 (by decide) (Ev.bind (jBr h) (Qq (Kk _ _) (Ev.bind (jH1 h hm hd (by omega)) (Ev.now _))))
   ·rw [if_neg (fun e => h3 e.2.2), Bool.eq_false_iff.mpr h3]
    exact hj
  ·rw [if_neg (fun e => h2 e.2.1)]
   exact Q7 h2 hj
 ·rw [if_neg (fun e => h e.1)]
  exact Q7 h hj
theorem jJc (n : Int) (t : ByteArray) (l : List Int) (hs : t.size ≤ 9223372036854775807) (hl : l.length ≤ 9223372036854775807) : Ev (fun k => Jw.f k n t l) (jCv n t l) := by
 unfold Jw.f jCv
 have hj : Ev (fun k => Jw.j0 k l true n t) (0, (⟨#[]⟩ : ByteArray), false) := by
  refine Q9 ?_
  simp only [Jw.j0]
  exact Qq (by trivial) (Ev.now _)
 refine Ev.bind (Vx n t hs) ?_
 by_cases h : Xf n t = true
 ·refine Qq h ?_
  obtain ⟨⟨h0, h1⟩, _, _⟩ := (Za _ _).1 h
  obtain ⟨N, rfl⟩ : ∃ N : Nat, n = (N : Int) := Int.eq_ofNat_of_zero_le (by omega)
  refine Ev.bind (jH5 (by omega) (by omega) l hl) ?_
  by_cases h3 : (l.length : Int) = N ∧ jAe N l = true
  ·rw [if_pos ⟨h, h3⟩, h3.2, decide_eq_true h3.1]
   obtain ⟨L, rfl, hm, hd⟩ := jD0 h3.2
   have h2 := h3.1
   rw [Xn] at h2
   rw [up_toNat, Int.toNat_natCast]
   refine Q9 ?_
   simp only [Jw.j0]
   obtain ⟨f1, f2, f3⟩ := jF9 hm hd (by omega)
   refine Q7 (by decide) (Ev.bind (jHw (by omega) hd hm (by omega)) (Ev.bind (jGg h (by omega) f2 f3) (Zn (Ev.now _) ?_)))
   rw [jIg h (by omega), f1]
  ·rw [if_neg (fun e => h3 e.2)]
   have : (jAe N l && decide ((l.length : Int) = N)) = false := by
    rw [Bool.eq_false_iff]
    simp only [ne_eq, Bool.and_eq_true, decide_eq_true_eq]
    exact fun e => h3 ⟨e.2, e.1⟩
   rw [this]
   exact hj
 ·rw [if_neg (fun e => h e.1)]
  exact Q7 h hj
end Go.Proofs.YtckkfjdkaimmhaaGreatDoor.M
namespace Go.Proofs.YtckkfjdkaimmhaaGreatDoor.PX
open Go.RowKit Go.Proofs.YtckkfjdkaimmhaaGreatDoor.G Go.Proofs.YtckkfjdkaimmhaaGreatDoorW.PrintWords Go.Proofs.YtckkfjdkaimmhaaGreatDoorW.PrintLast Go.Proofs.YtckkfjdkaimmhaaGreatDoorW.PrintMore
attribute [local go_sem] max2_int min2_int Yv Yx Xm Xl X9 Yb   -- for this text's walks alone
set_option linter.unusedVariables false
set_option linter.unusedSimpArgs false
end Go.Proofs.YtckkfjdkaimmhaaGreatDoor.PX
namespace Go.Proofs.YtckkfjdkaimmhaaGreatDoor.M
open Go.RowKit Go.Proofs.YtckkfjdkaimmhaaGreatDoorW.PrintWords Go.Proofs.YtckkfjdkaimmhaaGreatDoor.PX Go.Proofs.YtckkfjdkaimmhaaGreatDoor.G Go.Proofs.YtckkfjdkaimmhaaGreatDoorW.PrintMore
open Go.Lib (decDigits itoa index occAt)
section
variable (s : ByteArray) (b : Int)
theorem jM5 (d : Nat) : ∀ (i : Nat) (out : List ByteArray) (fr : Nat), 1 ≤ d → i + d = s.size + 1 → (∀ j : Nat, i ≤ j → j < s.size → bt s (j : Int) ≠ b) → (List.range' i d).foldl (Yi s b) (out, fr) = (out ++ [s.extract fr s.size], s.size + 1) := by
 induction d with
 | zero => intro i out fr h; omega
 | succ d ih =>
  intro i out fr _ hi hn
  rw [List.range'_succ, List.foldl_cons]
  by_cases g : i = s.size
  ·have : d = 0 := by omega
   subst this
   unfold Yi
   rw [if_pos (Or.inl g), List.range'_zero, List.foldl_nil, g]
  ·have e : Yi s b (out, fr) i = (out, fr) := by
    unfold Yi
    rw [if_neg (fun h => h.elim g (hn i (Nat.le_refl _) (by omega)))]
   rw [e]
   exact ih (i + 1) out fr (by omega) (by omega) fun j h1 h2 => hn j (by omega) h2
theorem jNa (j : Nat) (hj : j < s.size) (hb : bt s (j : Int) = b) (d : Nat) : ∀ (i : Nat) (out : List ByteArray) (fr : Nat), i + d = s.size + 1 → i ≤ j → (∀ q : Nat, i ≤ q → q < j → bt s (q : Int) ≠ b) →
  (List.range' i d).foldl (Yi s b) (out, fr) = (List.range' (j + 1) (s.size - j)).foldl (Yi s b) (out ++ [s.extract fr j], j + 1) := by
 induction d with
 | zero => intro i out fr h; omega
 | succ d ih =>
  intro i out fr hi hij hn
  rw [List.range'_succ, List.foldl_cons]
  by_cases g : i = j
  ·subst g
   have e : Yi s b (out, fr) i = (out ++ [s.extract fr i], i + 1) := by
    unfold Yi
    rw [if_pos (Or.inr hb)]
   rw [e, show d = s.size - i by omega]
  ·have e : Yi s b (out, fr) i = (out, fr) := by
    unfold Yi
    rw [if_neg (fun h => h.elim (fun h => by omega) (hn i (Nat.le_refl _) (by omega)))]
   rw [e]
   exact ih (i + 1) out fr (by omega) (by omega) fun q h1 h2 => hn q (by omega) h2
end
theorem jE7 (s : ByteArray) (a b : Nat) : (s.extract a b).data.toList = (s.data.toList.drop a).take (b - a) := by
 rw [ByteArray.data_extract, Array.toList_extract]
end Go.Proofs.YtckkfjdkaimmhaaGreatDoor.M
namespace Go.Proofs.YtckkfjdkaimmhaaGreatDoor.M
open Go.RowKit Go.Proofs.YtckkfjdkaimmhaaGreatDoorW.PrintWords Go.Proofs.YtckkfjdkaimmhaaGreatDoor.PX Go.Proofs.YtckkfjdkaimmhaaGreatDoor.G Go.Proofs.YtckkfjdkaimmhaaGreatDoorW.PrintMore
open Go.Lib (decDigits itoa)
theorem jGx {s : ByteArray} {q : Nat} {b : UInt8} (h : q < s.data.toList.length) : bt s (q : Int) = (b.toNat : Int) ↔ s.data.toList[q] = b := by
 rw [K6 h]
 constructor
 ·intro e
  apply UInt8.toNat_inj.1
  omega
 ·intro e
  rw [e]
theorem jE0 (x y : List UInt8) (r : List (List UInt8)) (b : UInt8) : Lib.join (x :: y :: r) [b] = x ++ b :: Lib.join (y :: r) [b] := by
 rw [Lib.join_cons, Lib.join_cons]
 simp [Lib.joinTail]
theorem jCb (s : ByteArray) (b : UInt8) : ∀ (L : List ByteArray) (P : List UInt8) (out : List ByteArray), L ≠ [] → (∀ x ∈ L, ∀ c ∈ x.data.toList, c ≠ b) → s.data.toList = P ++ Lib.join (L.map (·.data.toList)) [b] →
  ((List.range' P.length (s.size + 1 - P.length)).foldl (Yi s (b.toNat : Int)) (out, P.length)).1 = out ++ L := by
 intro L
 induction L with
 | nil => intro P out h; exact absurd rfl h
 | cons x r ih =>
  intro P out _ hb hs
  have hlen : s.size = s.data.toList.length := rfl
  cases r with
  | nil =>
   rw [List.map_cons, List.map_nil, Lib.join_one] at hs
   have hsz : s.size = P.length + x.data.toList.length := by rw [hlen, hs, List.length_append]
   rw [jM5 s _ _ P.length out P.length (by omega) (by omega) (fun j h1 h2 e => ?_)]
   ·have ex : s.extract P.length s.size = x := by
     apply ByteArray.ext
     apply Array.ext'
     rw [jE7, hs, List.drop_left, List.take_of_length_le (by omega)]
    rw [ex]
   ·have hj : j < s.data.toList.length := h2
    have e2 := (jGx hj).1 e
    have e3 : s.data.toList[j] = x.data.toList[j - P.length]'(by omega) := by
     simp only [hs]
     rw [List.getElem_append_right h1]
    exact hb x List.mem_cons_self _ (List.getElem_mem _) (e3.symm.trans e2)
  | cons y r' =>
   replace hs : s.data.toList = P ++ (x.data.toList ++ b :: Lib.join ((y :: r').map (·.data.toList)) [b]) := hs.trans (congrArg (P ++ ·) (jE0 _ _ _ b))
   have hsz : s.size = P.length + (x.data.toList.length + (1 + (Lib.join ((y :: r').map (·.data.toList)) [b]).length)) := by
    rw [hlen, hs, List.length_append, List.length_append, List.length_cons]
    omega
   have hj : P.length + x.data.toList.length < s.size := by omega
   have hbj : bt s ((P.length + x.data.toList.length : Nat) : Int) = (b.toNat : Int) := by
    refine (jGx (show P.length + x.data.toList.length < s.data.toList.length from hj)).2 ?_
    simp only [hs]
    rw [List.getElem_append_right (by omega), List.getElem_append_right (by omega)]
    simp
   rw [jNa s _ _ hj hbj _ P.length out P.length (by omega) (by omega) (fun q h1 h2 e => ?_)]
   ·have ex : s.extract P.length (P.length + x.data.toList.length) = x := by
     apply ByteArray.ext
     apply Array.ext'
     rw [jE7, hs, List.drop_left, show P.length + x.data.toList.length - P.length = x.data.toList.length by omega, List.take_left]
    have h := ih (P ++ x.data.toList ++ [b]) (out ++ [x]) (by simp) (fun z hz => hb z (List.mem_cons_of_mem _ hz)) (by rw [hs]; simp)
    rw [show (P ++ x.data.toList ++ [b]).length = P.length + x.data.toList.length + 1 by rw [List.length_append, List.length_append]; rfl, show s.size + 1 - (P.length + x.data.toList.length + 1) = s.size - (P.length + x.data.toList.length) by omega] at h
    rw [ex, h, List.append_assoc]
    rfl
   ·have hq : q < s.data.toList.length := by omega
    have e2 := (jGx hq).1 e
    have e3 : s.data.toList[q] = x.data.toList[q - P.length]'(by omega) := by
     simp only [hs]
     rw [List.getElem_append_right h1, List.getElem_append_left (by omega)]
    exact hb x List.mem_cons_self _ (List.getElem_mem _) (e3.symm.trans e2)
theorem jF0 (b : UInt8) (L : List ByteArray) (hL : L ≠ []) (h : ∀ x ∈ L, ∀ c ∈ x.data.toList, c ≠ b) : Xw (jIh L ⟨#[b]⟩) (b.toNat : Int) = L :=
 (jCb (jIh L ⟨#[b]⟩) b L [] [] hL h rfl).trans (List.nil_append L)
theorem jFz {n : Int} (h : n.natAbs < 10 ^ 12) : ∀ c ∈ (Xu n).data.toList, c = 45 ∨ (48 ≤ c.toNat ∧ c.toNat ≤ 57) := by
 have hd := jH3 11 n.natAbs h
 intro c hc
 rw [Y0] at hc
 unfold itoa at hc
 split at hc
 ·rw [List.mem_cons] at hc
  rcases hc with rfl | hc
  ·exact .inl rfl
  ·exact .inr (hd _ hc)
 ·rename_i g
  rw [show n.toNat = n.natAbs by omega] at hc
  exact .inr (hd _ hc)
theorem jLc {v : Int} (h : v.natAbs < 10 ^ 12) : jDv (Xu v) = (v, true) := U5 (by omega) (by omega) h
end Go.Proofs.YtckkfjdkaimmhaaGreatDoor.M
namespace Go.Proofs.YtckkfjdkaimmhaaGreatDoor.M
open Go.RowKit Go.Proofs.YtckkfjdkaimmhaaGreatDoorW.PrintWords Go.Proofs.YtckkfjdkaimmhaaGreatDoor.PX Go.Proofs.YtckkfjdkaimmhaaGreatDoor.G
def Va (n : Int) (t : ByteArray) (i j k : Int) : Int := if Xf n t = true ∧ jAe n [i, j, k] = true then chi n.toNat t i.toNat j.toNat k.toNat else 0
theorem jBu {x n : Int} (h : 0 ≤ x ∧ x < n) : ∃ m : Nat, x = (m : Int) := Int.eq_ofNat_of_zero_le h.1
theorem Xv (n : Int) (t : ByteArray) (i j k : Int) (hs : t.size ≤ 9223372036854775807) : Ev (fun q => J2.f q n t i j k) (Va n t i j k) := by
 unfold J2.f Va
 refine Ev.bind (Kh n t hs) ?_
 by_cases h : Xf n t = true
 ·refine Qq h (Ev.bind (Wu n [i, j, k] (by simp)) ?_)
  by_cases hd : jAe n [i, j, k] = true
  ·rw [if_pos ⟨h, hd⟩]
   refine Qq hd ?_
   obtain ⟨hi, hj, hk, _⟩ := (Vb _ _ _ _).1 hd
   obtain ⟨⟨h0, h1⟩, _, _⟩ := (Za _ _).1 h
   obtain ⟨N, rfl⟩ : ∃ N : Nat, n = (N : Int) := Int.eq_ofNat_of_zero_le (by omega)
   obtain ⟨a, rfl⟩ := jBu hi
   obtain ⟨b, rfl⟩ := jBu hj
   obtain ⟨c, rfl⟩ := jBu hk
   simp only [Int.toNat_natCast]
   refine Ev.bind (jBr h) (Qq (Kk _ _) (Qq (by omega) (Qq (by omega) (Qq (by omega) (Qq (by omega) (Qq (by omega) (Qq (by omega) ?_)))))))
   rw [jLq N t a b c (by omega) (by omega) (by omega)]
   exact Ev.now _
  ·rw [if_neg (fun e => hd e.2)]
   exact Q7 hd (Ev.now _)
 ·rw [if_neg (fun e => h e.1)]
  exact Q7 h (Ev.now _)
theorem jEs (n : Int) (t : ByteArray) (i j k : Int) (hs : t.size ≤ 9223372036854775807) : Ev (fun q => Yy.f q n t i j k) (Va n t i j k) := by
 unfold Yy.f Va
 refine Ev.bind (Vx n t hs) ?_
 by_cases h : Xf n t = true
 ·obtain ⟨⟨h0, h1⟩, _, _⟩ := (Za _ _).1 h
  refine Qq h ?_
  rw [Jb (by omega) (by omega)]
  have key : ∀ x : Int, (decide (0 ≤ x) && decide (x ≤ n - 1)) = true ↔ (0 ≤ x ∧ x < n) := fun x => by
   simp only [Bool.and_eq_true, decide_eq_true_eq]; omega
  by_cases hi : 0 ≤ i ∧ i < n
  ·refine Jn (Kl i 0 (n - 1)) (Qq ((key i).2 hi) ?_)
   by_cases hj : 0 ≤ j ∧ j < n
   ·refine Jn (Kl j 0 (n - 1)) (Qq ((key j).2 hj) ?_)
    by_cases hk : 0 ≤ k ∧ k < n
    ·refine Jn (Kl k 0 (n - 1)) (Qq ((key k).2 hk) ?_)
     by_cases e1 : i = j
     ·rw [if_neg (fun e => ((Vb _ _ _ _).1 e.2).2.2.2.1 e1)]
      exact Qq e1 (Ev.now _)
     ·refine Q7 e1 ?_
      by_cases e2 : j = k
      ·rw [if_neg (fun e => ((Vb _ _ _ _).1 e.2).2.2.2.2.1 e2)]
       exact Qq e2 (Ev.now _)
      ·refine Q7 e2 ?_
       by_cases e3 : i = k
       ·rw [if_neg (fun e => ((Vb _ _ _ _).1 e.2).2.2.2.2.2 e3)]
        exact Qq e3 (Ev.now _)
       ·refine Q7 e3 ?_
        rw [if_pos ⟨h, (Vb _ _ _ _).2 ⟨hi, hj, hk, e1, e2, e3⟩⟩]
        obtain ⟨N, rfl⟩ : ∃ N : Nat, n = (N : Int) := Int.eq_ofNat_of_zero_le (by omega)
        obtain ⟨a, rfl⟩ := jBu hi
        obtain ⟨b, rfl⟩ := jBu hj
        obtain ⟨c, rfl⟩ := jBu hk
        simp only [Int.toNat_natCast]
        exact Ev.bind (jHe h (by omega) (by omega) (by omega) (by omega) (by omega) (by omega)) (Ev.now _)
    ·rw [if_neg (fun e => hk ((Vb _ _ _ _).1 e.2).2.2.1)]
     exact Jn (Kl k 0 (n - 1)) (Q7 (fun e => hk ((key k).1 e)) (Ev.now _))
   ·rw [if_neg (fun e => hj ((Vb _ _ _ _).1 e.2).2.1)]
    exact Jn (Kl j 0 (n - 1)) (Q7 (fun e => hj ((key j).1 e)) (Ev.now _))
  ·rw [if_neg (fun e => hi ((Vb _ _ _ _).1 e.2).1)]
   exact Jn (Kl i 0 (n - 1)) (Q7 (fun e => hi ((key i).1 e)) (Ev.now _))
 ·rw [if_neg (fun e => h e.1)]
  exact Q7 h (Ev.now _)
end Go.Proofs.YtckkfjdkaimmhaaGreatDoor.M
namespace Go.Proofs.YtckkfjdkaimmhaaGreatDoor.M
open Go.RowKit Go.Proofs.YtckkfjdkaimmhaaGreatDoorW.PrintWords Go.Proofs.YtckkfjdkaimmhaaGreatDoor.PX Go.Proofs.YtckkfjdkaimmhaaGreatDoor.G Go.Proofs.YtckkfjdkaimmhaaGreatDoorW.PrintMore
open Go.Lib (decDigits itoa)
theorem jIe (n i j k : Int) : jAe n [j, k, i] = jAe n [i, j, k] := by
 rw [Bool.eq_iff_iff, Vb, Vb]
 constructor <;> rintro ⟨⟨_, _⟩, ⟨_, _⟩, ⟨_, _⟩, _, _, _⟩ <;> refine ⟨⟨?_, ?_⟩, ⟨?_, ?_⟩, ⟨?_, ?_⟩, ?_, ?_, ?_⟩ <;> omega
theorem jJ7 (n i j k : Int) : jAe n [j, i, k] = jAe n [i, j, k] := by
 rw [Bool.eq_iff_iff, Vb, Vb]
 constructor <;> rintro ⟨⟨_, _⟩, ⟨_, _⟩, ⟨_, _⟩, _, _, _⟩ <;> refine ⟨⟨?_, ?_⟩, ⟨?_, ?_⟩, ⟨?_, ?_⟩, ?_, ?_, ?_⟩ <;> omega
theorem jK1 (n : Int) (t : ByteArray) (i j k : Int) : Va n t j k i = Va n t i j k := by
 unfold Va
 rw [jIe n i j k]
 by_cases h : Xf n t = true ∧ jAe n [i, j, k] = true
 ·rw [if_pos h, if_pos h]
  obtain ⟨⟨h0, h1⟩, _, _⟩ := (Za _ _).1 h.1
  obtain ⟨⟨a1, a2⟩, ⟨b1, b2⟩, ⟨c1, c2⟩, _, _, _⟩ := (Vb _ _ _ _).1 h.2
  rw [jDr (a := j.toNat) (b := i.toNat) (c := k.toNat) t (by omega) (by omega) (by omega) (by omega) (by omega), jAz (a := i.toNat) (b := j.toNat) (c := k.toNat) t (by omega) (by omega) (by omega) (by omega) (by omega), Int.neg_neg]
 ·rw [if_neg h, if_neg h]
theorem jM2 (n : Int) (t : ByteArray) (i j k : Int) : Va n t i j k = wrap64 (-(Va n t j i k)) := by
 unfold Va
 rw [jJ7 n i j k]
 by_cases h : Xf n t = true ∧ jAe n [i, j, k] = true
 ·rw [if_pos h, if_pos h]
  obtain ⟨⟨h0, h1⟩, _, _⟩ := (Za _ _).1 h.1
  obtain ⟨⟨a1, a2⟩, ⟨b1, b2⟩, ⟨c1, c2⟩, _, _, _⟩ := (Vb _ _ _ _).1 h.2
  have hc := jDh n.toNat t i.toNat j.toNat k.toNat
  rw [jAz (a := i.toNat) (b := j.toNat) (c := k.toNat) t (by omega) (by omega) (by omega) (by omega) (by omega), Int.neg_neg, Jb (by omega) (by omega)]
 ·rw [if_neg h, if_neg h, Jb (by omega) (by omega)]
  rfl
theorem jMe {l : List IP} (h : Y3 l = true) : Va (l.length : Int) (K3 l.length (Kj l)) 0 1 2 = jFk (pt l 0) (pt l 1) (pt l 2) := by
 obtain ⟨⟨h0, h1⟩, hn, ha⟩ := Vg.1 h
 have hs : ∀ p, p < (Jg l.length).length → Kj l p = 1 ∨ Kj l p = -1 := fun p hp => by
  obtain ⟨a, b, c, e, hab, hbc, hc, _⟩ := Ua h0 h1 hp
  rw [jAd hp e]
  exact jGf (ha a b c hab hbc hc)
 obtain ⟨p, hp, e, hl, _⟩ := W9 (a := 0) (b := 1) (c := 2) h0 h1 (by omega) (by omega) (by omega)
 have hn' : ∀ i, i < l.length → Ye 1000 (pt l i) = true := fun i hi => by
  rw [jC7 hi]
  exact V9 (hn _ (List.getElem_mem hi))
 unfold Va jFk
 rw [if_pos ⟨jAi _ h0 h1, (Vb _ _ _ _).2 (by omega)⟩, if_pos (Ka.2 ⟨hn' 0 (by omega), hn' 1 (by omega), hn' 2 (by omega)⟩)]
 show chi l.length (K3 l.length (Kj l)) 0 1 2 = _
 rw [jFf hs, jAr _ hl, jAd hp e]
 rfl
theorem jGc {n : Nat} {L : List Nat} (hm : ∀ x ∈ L, x < n) (hd : L.Nodup) (hl : L.length = n) {x y : Nat} (hx : x < n) (hy : y < n) (h : x ≠ y) : L.idxOf x ≠ L.idxOf y := fun e => by
 have h1 := List.idxOf_lt_length_iff.2 (Yd hd hm hl hx)
 have h2 := List.idxOf_lt_length_iff.2 (Yd hd hm hl hy)
 have e1 : L[L.idxOf x] = x := List.getElem_idxOf h1
 have e2 : L[L.idxOf y] = y := List.getElem_idxOf h2
 apply h
 rw [← e1, ← e2]
 simp only [e]
theorem jHy {L : List Nat} (hd : L.Nodup) {i : Nat} (hi : i < L.length) : L.idxOf L[i] = i := by
 have hlt : L.idxOf L[i] < L.length := List.idxOf_lt_length_iff.2 (List.getElem_mem _)
 have h2 : L[L.idxOf L[i]] = L[i] := List.getElem_idxOf hlt
 refine Classical.byContradiction fun hne => ?_
 rcases Nat.lt_or_gt_of_ne hne with g | g
 ·exact List.pairwise_iff_getElem.1 hd _ i hlt hi g h2
 ·exact List.pairwise_iff_getElem.1 hd i _ hi hlt g h2.symm
theorem jKj {n : Nat} {t : ByteArray} (h : Xf n t = true) {L : List Nat} (hm : ∀ x ∈ L, x < n) (hd : L.Nodup) (hl : L.length = n) {a b c : Nat} (ha : a < n) (hb : b < n) (hc : c < n) (hab : a ≠ b) (hbc : b ≠ c) (hac : a ≠ c) :
  chi n (K3 n (jA7 n t L)) a b c = jF4 n t L a b c := by
 obtain ⟨⟨h0, h1⟩, _, _⟩ := (Za _ _).1 h
 have h0 : 3 ≤ n := by omega
 have h1 : n ≤ 7 := by omega
 have hi : ∀ x, x < n → L.idxOf x < n := fun x hx => by
  have := List.idxOf_lt_length_iff.2 (Yd hd hm hl hx)
  omega
 have hs : ∀ p, p < (Jg n).length → jA7 n t L p = 1 ∨ jA7 n t L p = -1 := fun p hp => by
  obtain ⟨x, y, z, e, hxy, hyz, hz, _⟩ := Ua h0 h1 hp
  unfold jA7 jF4
  rw [Y5 hp, e]
  simp only [Int.toNat_natCast]
  exact jLj t h0 h1 (hi _ (by omega)) (hi _ (by omega)) (hi _ hz) (jGc hm hd hl (by omega) (by omega) (by omega)) (jGc hm hd hl (by omega) (by omega) (by omega)) (jGc hm hd hl (by omega) (by omega) (by omega))
 obtain ⟨w1, w2⟩ := jEw h hm hd hl
 obtain ⟨neg, q, hq, _⟩ := jCd h0 h1 ha hb hc hab hbc hac
 obtain ⟨x, y, z, hp, e, _, _, _, hf⟩ := jEv (f := jF4 n t L) h0 h1 ha hb hc hab hbc hac w1 w2 hq
 rw [jFf hs, jAr _ hq, hf]
 unfold jA7
 rw [Y5 hp, e]
 simp only [Int.toNat_natCast]
theorem jK9 {n : Int} {t : ByteArray} {l : List Int} (h : Xf n t = true) (hl : (l.length : Int) = n) (hd : jAe n l = true) : Va n (K3 n.toNat (jA7 n.toNat t (l.map Int.toNat))) (rd l 0) (rd l 1) (rd l 2) = Va n t 0 1 2 := by
 obtain ⟨⟨h0, h1⟩, _, _⟩ := (Za _ _).1 h
 obtain ⟨N, rfl⟩ : ∃ N : Nat, n = (N : Int) := Int.eq_ofNat_of_zero_le (by omega)
 obtain ⟨L, rfl, hm, hn⟩ := jD0 hd
 rw [Xn] at hl
 have hl : L.length = N := by omega
 rw [up_toNat, Int.toNat_natCast, show (0 : Int) = ((0 : Nat) : Int) from rfl, show (1 : Int) = ((1 : Nat) : Int) from rfl, show (2 : Int) = ((2 : Nat) : Int) from rfl, jAu (by omega), jAu (by omega), jAu (by omega)]
 have hg : ∀ {i : Nat} (hi : i < L.length), L.getD i 0 = L[i] := fun {i} hi => by rw [List.getD_eq_getElem?_getD, List.getElem?_eq_getElem hi]; rfl
 rw [hg (by omega), hg (by omega), hg (by omega)]
 have hlt : ∀ {i : Nat} (hi : i < L.length), L[i] < N := fun hi => hm _ (List.getElem_mem hi)
 have hne : ∀ {i j : Nat} (hi : i < L.length) (hj : j < L.length), i < j → L[i] ≠ L[j] := fun hi hj hij => List.pairwise_iff_getElem.1 hn _ _ hi hj hij
 have l0 := hlt (i := 0) (by omega)
 have l1 := hlt (i := 1) (by omega)
 have l2 := hlt (i := 2) (by omega)
 have n1 := hne (i := 0) (j := 1) (by omega) (by omega) (by omega)
 have n2 := hne (i := 1) (j := 2) (by omega) (by omega) (by omega)
 have n3 := hne (i := 0) (j := 2) (by omega) (by omega) (by omega)
 unfold Va
 rw [if_pos ⟨jAi _ (by omega) (by omega), (Vb _ _ _ _).2 (by omega)⟩, if_pos ⟨h, (Vb _ _ _ _).2 (by omega)⟩]
 simp only [Int.toNat_natCast]
 rw [jKj h hm hn hl l0 l1 l2 n1 n2 n3]
 unfold jF4
 rw [jHy hn, jHy hn, jHy hn]
theorem jDe (c : UInt8) (h : c = 43 ∨ c = 45) : jD2 (jD2 c) = c ∧ (jD2 c = 43 ∨ jD2 c = 45) := by rcases h with rfl | rfl <;> decide
theorem K8 (t : ByteArray) : (jCr t).data.toList = t.data.toList.map jD2 := rfl
theorem jH4 {n : Int} {t : ByteArray} (h : Xf n t = true) : Xf n (jCr t) = true := by
 obtain ⟨h0, h1, h2⟩ := (Za _ _).1 h
 refine (Za _ _).2 ⟨h0, ?_, fun c hc => ?_⟩
 ·rw [Zm, K8, List.length_map, ← Zm, h1]
 ·rw [K8] at hc
  obtain ⟨x, hx, rfl⟩ := List.mem_map.1 hc
  exact (jDe x (h2 x hx)).2
theorem jJs {a b : ByteArray} (h : a.data.toList = b.data.toList) : a = b := by
 cases a; cases b
 congr 1
 exact Array.toList_inj.1 h
theorem jKr {n : Int} {t : ByteArray} (h : Xf n t = true) : jCr (jCr t) = t := by
 obtain ⟨_, _, h2⟩ := (Za _ _).1 h
 apply jJs
 rw [K8, K8, List.map_map]
 exact (List.map_congr_left fun c hc => (jDe c (h2 c hc)).1).trans (List.map_id _)
theorem jKl {t : ByteArray} {m : Nat} (hm : m < t.data.toList.length) (ht : ∀ c ∈ t.data.toList, c = 43 ∨ c = 45) : sgB (jCr t) m = -sgB t m := by
 unfold sgB
 have hm' : m < (jCr t).data.toList.length := by rw [K8, List.length_map]; exact hm
 rw [K6 hm', K6 hm]
 have e : (jCr t).data.toList[m] = jD2 t.data.toList[m] := List.getElem_map ..
 rw [e]
 rcases ht _ (List.getElem_mem hm) with g | g <;> rw [g] <;> decide
theorem jKd {n : Nat} {t : ByteArray} (h : Xf n t = true) (a b c : Nat) : chi n (jCr t) a b c = -chi n t a b c := by
 obtain ⟨⟨h0, h1⟩, h2, h3⟩ := (Za _ _).1 h
 have hlen := (Kb (n := n) (by omega) (by omega)).2
 unfold chi
 cases e : Zo (Jg n) 0 (ix3 a b c) with
 | none => rfl
 | some z =>
  obtain ⟨p, hp, ez, _⟩ := jB9 _ _ _ _ e
  simp only
  rw [jKl (by rw [← Zm]; omega) h3]
  unfold sgv
  split <;> omega
theorem jLd {n : Int} {t : ByteArray} (h : Xf n t = true) : Va n (jCr t) 0 1 2 = wrap64 (-(Va n t 0 1 2)) := by
 obtain ⟨⟨h0, h1⟩, _, _⟩ := (Za _ _).1 h
 obtain ⟨N, rfl⟩ : ∃ N : Nat, n = (N : Int) := Int.eq_ofNat_of_zero_le (by omega)
 unfold Va
 have hd : jAe (N : Int) [0, 1, 2] = true := (Vb _ _ _ _).2 (by omega)
 have hc := jDh N t 0 1 2
 rw [if_pos ⟨jH4 h, hd⟩, if_pos ⟨h, hd⟩, Int.toNat_natCast, jKd h]
 show -chi N t 0 1 2 = wrap64 (-(chi N t 0 1 2))
 rw [Jb (by omega) (by omega)]
theorem jG1 (n : Int) (t : ByteArray) : jKv (sgT n t) = if Xf n t = true then (n, t, true) else (0, ⟨#[]⟩, false) := by
 unfold jKv sgT
 by_cases h : Xf n t = true
 ·rw [if_pos h, if_pos h]
  obtain ⟨⟨h0, h1⟩, _, h3⟩ := (Za _ _).1 h
  have hn : n.natAbs < 10 ^ 12 := by omega
  have e : Xw ((Xu n ++ (⟨#[58]⟩ : ByteArray)) ++ t) 58 = [Xu n, t] := by
   have hj : (Xu n ++ (⟨#[58]⟩ : ByteArray)) ++ t = jIh [Xu n, t] ⟨#[58]⟩ := by
    apply jJs
    unfold jIh
    rw [show ([Xu n, t].map (·.data.toList)) = [itoa n, t.data.toList] from rfl, show ((⟨#[58]⟩ : ByteArray).data.toList) = [58] from rfl, jE0, Lib.join_one]
    rw [ByteArray.data_append, ByteArray.data_append, Array.toList_append, Array.toList_append, Y0, List.append_assoc]
    rfl
   rw [hj]
   refine jF0 58 _ (by simp) fun x hx => ?_
   rcases List.mem_cons.1 hx with rfl | hx
   ·intro c hc e
    rcases jFz hn c hc with g | g
    ·rw [e] at g; exact absurd g (by decide)
    ·rw [e] at g; exact absurd g.2 (by decide)
   ·rcases List.mem_cons.1 hx with rfl | hx
    ·intro c hc e
     rcases h3 c hc with g | g <;> (rw [e] at g; exact absurd g (by decide))
    ·cases hx
  unfold jJx
  rw [e]
  have e0 : Vj ByteArray.empty [Xu n, t] 0 = Xu n := rfl
  have e1 : Vj ByteArray.empty [Xu n, t] 1 = t := rfl
  rw [e0, e1, jLc hn, if_pos ⟨rfl, rfl, h⟩]
 ·rw [if_neg h, if_neg h]
  have e : Xw (⟨#[]⟩ : ByteArray) 58 = [⟨#[]⟩] := by rfl
  rw [e]
  unfold jJx
  rw [if_neg fun e => absurd e.1 (by decide)]
end Go.Proofs.YtckkfjdkaimmhaaGreatDoor.M
namespace Go.Proofs.YtckkfjdkaimmhaaGreatDoor.M
open Go.RowKit Go.Proofs.YtckkfjdkaimmhaaGreatDoorW.PrintWords Go.Proofs.YtckkfjdkaimmhaaGreatDoor.PX Go.Proofs.YtckkfjdkaimmhaaGreatDoor.G
theorem jNw (t : ByteArray) {p : Nat} (hp : p < t.data.toList.length) : t.extract p (p + 1) = mkB [t.data.toList[p]] := by
 apply ByteArray.ext
 rw [ByteArray.data_extract]
 apply Array.ext'
 rw [Array.toList_extract]
 simp only [mkB, List.extract_eq_take_drop]
 rw [List.drop_eq_getElem_cons hp, show p + 1 - p = 1 by omega]
 rfl
def jLw (x : Int) (y : S77) : Bool := decide (y.f0 = x) || decide (y.f1 = x) || decide (y.f2 = x)
def jEq (x : Int) : List S77 → Nat → List (Option (Bool × Nat))
 | [], _ => []
 | y :: ys, p => if jLw x y then jEq x ys (p + 1) else some (false, p) :: jEq x ys (p + 1)
theorem jHh (x n m : Int) {t : ByteArray} (ht : ∀ c ∈ t.data.toList, c = 43 ∨ c = 45) (ts : List S77) (hl : ts.length = t.data.toList.length) (hs : ts.length ≤ 100) (d : Nat) : ∀ (i : Nat) (u : List UInt8), i + d = ts.length → u.length + d ≤ 1000 →
  Ev (fun k => Qs.l0 k x ts (ts.length : Int) (i : Int) n t m (mkB u)) (m, mkB (u ++ (jEq x (ts.drop i) i).map (lkB t)), true) := by
 induction d with
 | zero =>
  intro i u hi hu
  rw [List.drop_of_length_le (by omega)]
  refine Q9 ?_
  simp only [Qs.l0]
  refine Q7 (by omega) (Zn (Ev.now _) ?_)
  simp only [jEq, List.map_nil, List.append_nil]
 | succ d ih =>
  intro i u hi hu
  have hlt : i < ts.length := by omega
  have hr : Qb ts (i : Int) = ts[i] := by
   unfold Qb
   rw [Int.toNat_natCast, List.getD_eq_getElem?_getD, List.getElem?_eq_getElem hlt]
   rfl
  rw [List.drop_eq_getElem_cons hlt, jEq]
  refine Q9 ?_
  simp only [Qs.l0, hr]
  refine Qq (by omega) (Qq (by omega) (Qq (by omega) ?_))
  rw [Jb (by omega) (by omega)]
  have hn := ih (i + 1)
  by_cases h0 : ts[i].f0 = x
  ·rw [if_pos (by unfold jLw; rw [decide_eq_true h0]; rfl)]
   exact Qq h0 (hn u (by omega) (by omega))
  refine Q7 h0 ?_
  by_cases h1 : ts[i].f1 = x
  ·rw [if_pos (by unfold jLw; rw [decide_eq_true h1, Bool.or_true]; rfl)]
   exact Qq h1 (hn u (by omega) (by omega))
  refine Q7 h1 ?_
  by_cases h2 : ts[i].f2 = x
  ·rw [if_pos (by unfold jLw; rw [decide_eq_true h2, Bool.or_true])]
   exact Qq h2 (hn u (by omega) (by omega))
  refine Q7 h2 ?_
  rw [if_neg (by unfold jLw; rw [decide_eq_false h0, decide_eq_false h1, decide_eq_false h2]; decide)]
  have e1 : ((i : Int) + 1).toNat = i + 1 := by omega
  have e2 : ((i : Int)).toNat = i := by omega
  refine Qq (by omega) (Qq (by rw [Zm]; omega) (Qq (by rw [Uk, e1, e2]; omega) ?_))
  rw [e1, e2, jNw t (by omega), Wt, List.map_cons, jIs ht (by omega)]
  have := hn (u ++ [t.data.toList[i]]) (by omega) (by rw [List.length_append, List.length_cons, List.length_nil]; omega)
  rw [List.append_assoc] at this
  exact this
def jNh (n : Nat) : Bool := (List.range n).all fun x => decide (lkL n (Vp n x) = jEq (x : Int) (Jg n) 0)
theorem jKn {n : Nat} (h0 : 3 ≤ n) (h1 : n ≤ 7) : jNh n = true := by
 refine five (p := fun n => jNh n = true) h0 h1 ?_ ?_ ?_ ?_ ?_ <;> decide +kernel
theorem jEe {n x : Nat} (h0 : 3 ≤ n) (h1 : n ≤ 7) (hx : x < n) : lkL n (Vp n x) = jEq (x : Int) (Jg n) 0 := of_decide_eq_true (List.all_eq_true.1 (jKn h0 h1) x (List.mem_range.2 hx))
def jId (n : Int) (t : ByteArray) (x : Int) : Int × ByteArray × Bool := if Xf n t = true ∧ n ≠ 3 ∧ 0 ≤ x ∧ x < n then (n - 1, mkB (pk0 n.toNat t (Vp n.toNat x.toNat) 0 (Vp n.toNat x.toNat).length), true) else (0, ⟨#[]⟩, false)
theorem jDs (n : Int) (t : ByteArray) (x : Int) (hs : t.size ≤ 9223372036854775807) : Ev (fun k => Q4.f k n t x) (jId n t x) := by
 unfold Q4.f jId
 have hj : Ev (fun k => Q4.j0 k x true n t) (0, (⟨#[]⟩ : ByteArray), false) := by
  refine Q9 ?_
  simp only [Q4.j0]
  exact Qq (by trivial) (Ev.now _)
 refine Ev.bind (Vx n t hs) ?_
 by_cases h : Xf n t = true
 ·refine Qq h ?_
  obtain ⟨⟨h0, h1⟩, _, _⟩ := (Za _ _).1 h
  by_cases h3 : n = 3
  ·rw [if_neg (fun e => e.2.1 h3)]
   exact Qq h3 hj
  refine Q7 h3 (Jn (Kl x 0 _) ?_)
  rw [Jb (by omega) (by omega)]
  by_cases hx : 0 ≤ x ∧ x < n
  ·rw [if_pos ⟨h, h3, hx⟩, show (decide (0 ≤ x) && decide (x ≤ n - 1)) = true by simp only [Bool.and_eq_true, decide_eq_true_eq]; omega]
   refine Q9 ?_
   simp only [Q4.j0]
   refine Q7 (by decide) ?_
   obtain ⟨N, rfl⟩ : ∃ N : Nat, n = (N : Int) := Int.eq_ofNat_of_zero_le (by omega)
   obtain ⟨X, rfl⟩ : ∃ X : Nat, x = (X : Int) := Int.eq_ofNat_of_zero_le hx.1
   simp only [Int.toNat_natCast]
   obtain ⟨f1, f2, f3⟩ := jDp (n := N) (x := X) (by omega) (by omega) (by omega)
   refine Ev.bind (jHx (by omega) (by omega)) (Ev.bind (jGg h (by omega) f3 f2) (Zn (Ev.now _) ?_))
   rw [f1]
   refine Prod.ext ?_ rfl
   show ((N - 1 : Nat) : Int) = (N : Int) - 1
   omega
  ·rw [if_neg (fun e => hx e.2.2), show (decide (0 ≤ x) && decide (x ≤ n - 1)) = false by rw [Bool.eq_false_iff]; simp only [ne_eq, Bool.and_eq_true, decide_eq_true_eq]; omega]
   exact hj
 ·rw [if_neg (fun e => h e.1)]
  exact Q7 h hj
theorem jDf (n : Int) (t : ByteArray) (x : Int) (hs : t.size ≤ 9223372036854775807) : Ev (fun k => Qs.f k n t x) (jId n t x) := by
 unfold Qs.f jId
 have hj : Ev (fun k => Qs.j0 k x true n t) (0, (⟨#[]⟩ : ByteArray), false) := by
  refine Q9 ?_
  simp only [Qs.j0]
  exact Qq (by trivial) (Ev.now _)
 refine Ev.bind (Kh n t hs) ?_
 by_cases h : Xf n t = true
 ·refine Qq h ?_
  obtain ⟨⟨h0, h1⟩, h2, ht⟩ := (Za _ _).1 h
  by_cases h3 : n = 3
  ·rw [if_neg (fun e => e.2.1 h3)]
   exact Qq h3 hj
  refine Q7 h3 (Jn (jAt n x) ?_)
  by_cases hx : 0 ≤ x ∧ x < n
  ·rw [if_pos ⟨h, h3, hx⟩, show inR n x = true by simp only [inR, Bool.and_eq_true, decide_eq_true_eq]; omega]
   refine Q9 ?_
   simp only [Qs.j0]
   refine Q7 (by decide) ?_
   obtain ⟨N, rfl⟩ : ∃ N : Nat, n = (N : Int) := Int.eq_ofNat_of_zero_le (by omega)
   obtain ⟨X, rfl⟩ : ∃ X : Nat, x = (X : Int) := Int.eq_ofNat_of_zero_le hx.1
   simp only [Int.toNat_natCast]
   have f0 := jEe (n := N) (x := X) (by omega) (by omega) (by omega)
   have hc := (Kb (n := N) (by omega) (by omega)).2
   have aA := X3 h
   rw [Zm] at h2 aA
   refine Ev.bind (Vr (by omega) (by omega)) (Zn (jHh (X : Int) (N : Int) (wrap64 ((N : Int) - 1)) ht (Jg N) (by omega) (by omega) (Jg N).length 0 [] (by omega) (by simp only [List.length_nil]; omega)) ?_)
   rw [Jb (by omega) (by omega), jIy, f0]
   rfl
  ·rw [if_neg (fun e => hx e.2.2), show inR n x = false by rw [Bool.eq_false_iff]; simp only [inR, ne_eq, Bool.and_eq_true, decide_eq_true_eq]; omega]
   exact hj
 ·rw [if_neg (fun e => h e.1)]
  exact Q7 h hj
end Go.Proofs.YtckkfjdkaimmhaaGreatDoor.M
namespace Go.Proofs.YtckkfjdkaimmhaaGreatDoor.Pure
open Go.RowKit Go.Proofs.YtckkfjdkaimmhaaGreatDoorW.PrintWords Go.Proofs.YtckkfjdkaimmhaaGreatDoor.PX Go.Proofs.YtckkfjdkaimmhaaGreatDoor.M Go.Proofs.YtckkfjdkaimmhaaGreatDoor.G
theorem jHb (l : List Int) (_ : l.length ≤ 9223372036854775807) (_ : ∀ x ∈ l, (Lit.int .u8 x).wf = true) :
  ∃ k, Qe.f k l = some true := by
 refine Ev.rounds (r := true) ?_
 unfold Qe.f Kg.f
 refine Jn rfl ?_
 by_cases hb : (l.length : Int) > 1048576
 ·exact Qq (decide_eq_true hb) (Ev.now _)
 refine Q7 (by simpa using hb) ?_
 have hl : l.length ≤ 1048576 := by omega
 obtain ⟨n, s, i, j, m, d1, ls⟩ := jL1 hl
 obtain ⟨P, d2, lP⟩ := jL5 hl
 obtain ⟨on, ot, d3, lo⟩ := jLe hl
 obtain ⟨rn, rt, nm, d4, lr, ln⟩ := jLo hl
 obtain ⟨wn, wt, wx, d5, lw⟩ := jLr hl
 obtain ⟨T, d6, lT⟩ := jMk hl
 have aA : ∀ z, z = false → Ev (fun q => Qe.j4 q (jA6 on ot).2.2 z on ot (jA6 on ot).1 (jA6 on ot).2.1) true := by
  rintro z rfl
  refine Q9 ?_
  simp only [Qe.j4]
  refine Q7 (by decide) ?_
  by_cases g : Xf on ot = true
  ·have e1 : jA6 on ot = (on, jCr ot, true) := if_pos g
   have e2 : jA6 on (jCr ot) = (on, ot, true) := by unfold jA6; rw [if_pos (jH4 g), jKr g]
   have z := X3 (jH4 g)
   have key := jEz on (jCr ot) (by omega)
   rw [e2] at key
   rw [e1]
   refine Qq rfl (Ev.bind key (Qq (by simp) (Ev.bind (Xv on (jCr ot) 0 1 2 (by omega)) (Ev.bind (Xv on ot 0 1 2 (by omega)) (Zn (Ev.now _) ?_)))))
   rw [jLd g]
   exact beq_self_eq_true _
  ·have e1 : jA6 on ot = (0, ⟨#[]⟩, false) := if_neg g
   rw [e1]
   exact Q7 (by simp) (Ev.now _)
 have aC : ∀ z, z = false → Ev (fun q => Qe.j3 q (jA6 on ot).2.2 nm (jCv rn rt nm).2.2 z on ot (jA6 on ot).1 (jA6 on ot).2.1 rn rt (jCv rn rt nm).1 (jCv rn rt nm).2.1) true := by
  rintro z rfl
  refine Q9 ?_
  simp only [Qe.j3]
  refine Q7 (by decide) ?_
  by_cases g : Xf rn rt = true ∧ (nm.length : Int) = rn ∧ jAe rn nm = true
  ·have e1 : jCv rn rt nm = (rn, K3 rn.toNat (jA7 rn.toNat rt (nm.map Int.toNat)), true) := if_pos g
   obtain ⟨⟨h0, h1⟩, _, _⟩ := (Za _ _).1 g.1
   have z : (K3 rn.toNat (jA7 rn.toNat rt (nm.map Int.toNat))).size ≤ 35 := X3 (jAi (n := rn.toNat) _ (by omega) (by omega))
   rw [e1]
   refine Qq rfl (Qq (by omega) (Qq (by omega) (Qq (by omega) (Ev.bind (Xv rn (K3 rn.toNat (jA7 rn.toNat rt (nm.map Int.toNat))) (rd nm 0) (rd nm 1) (rd nm 2) (by omega)) (Ev.bind (Xv rn rt 0 1 2 (by omega)) (aA _ ?_))))))
   rw [jK9 g.1 g.2.1 g.2.2]
   exact bne_self_eq_false _
  ·have e1 : jCv rn rt nm = (0, ⟨#[]⟩, false) := if_neg g
   rw [e1]
   exact Q7 (by simp) (aA _ rfl)
 have hj2 : ∀ z, z = false → Ev (fun q => Qe.j2 q P (Yl P).2.2 (jA6 on ot).2.2 nm (jCv rn rt nm).2.2 z (Yl P).1 (Yl P).2.1 on ot (jA6 on ot).1 (jA6 on ot).2.1 rn rt (jCv rn rt nm).1 (jCv rn rt nm).2.1) true := by
  rintro z rfl
  refine Q9 ?_
  simp only [Qe.j2]
  refine Q7 (by decide) ?_
  by_cases g : Y3 P = true
  ·have e1 : Yl P = ((P.length : Int), K3 P.length (Kj P), true) := if_pos g
   obtain ⟨⟨h0, h1⟩, _⟩ := Vg.1 g
   have z := X3 (jAi (Kj P) h0 h1)
   rw [e1]
   refine Qq rfl (Ev.bind (Xv (P.length : Int) (K3 P.length (Kj P)) 0 1 2 (by omega)) (Qq (by omega) (Qq (by omega) (Qq (by omega) (Jn (jAg _ _ _) (aC _ ?_))))))
   rw [jMe g]
   exact bne_self_eq_false _
  ·have e1 : Yl P = (0, ⟨#[]⟩, false) := if_neg g
   rw [e1]
   exact Q7 (by simp) (aC _ rfl)
 have hj1 : ∀ z, z = false → Ev (fun q => Qe.j1 q i j m P (Yl P).2.2 (jA6 on ot).2.2 nm (jCv rn rt nm).2.2 z n s (Yl P).1 (Yl P).2.1 on ot (jA6 on ot).1 (jA6 on ot).2.1 rn rt (jCv rn rt nm).1 (jCv rn rt nm).2.1) true := by
  rintro z rfl
  refine Q9 ?_
  simp only [Qe.j1]
  refine Q7 (by decide) (Ev.bind (Xv n s i j m (by omega)) (Ev.bind (Xv n s j m i (by omega)) (Qq (jK1 n s i j m).symm (Ev.bind (Xv n s i j m (by omega)) (Ev.bind (Xv n s j i m (by omega)) (hj2 _ ?_))))))
  rw [← jM2]
  exact bne_self_eq_false _
 have hj0 : ∀ z, z = false → Ev (fun q => Qe.j0 q i j m P (Yl P).2.2 (jA6 on ot).2.2 nm (jCv rn rt nm).2.2 z n s (Yl P).1 (Yl P).2.1 on ot (jA6 on ot).1 (jA6 on ot).2.1 rn rt (jCv rn rt nm).1 (jCv rn rt nm).2.1) true := by
  rintro z rfl
  refine Q9 ?_
  simp only [Qe.j0]
  have z := jEy n s
  have key := jE9 (sgT n s) (by omega)
  rw [jG1] at key
  refine Q7 (by decide) (Ev.bind (jI5 n s (by omega)) (Ev.bind key (Ev.bind (jFe n s (by omega)) (Qq rfl (Ev.bind (Vx n s (by omega)) ?_)))))
  by_cases g : Xf n s = true
  ·rw [if_pos g, g]
   exact Q7 (by simp) (Qq rfl (hj1 _ (by simp)))
  ·rw [if_neg g, Bool.eq_false_iff.2 g]
   exact Q7 (by simp) (Q7 (by simp) (hj1 _ rfl))
 refine Ev.bind d1 (Ev.bind d2 (Ev.bind (jC3 P (by omega)) (Ev.bind (Wz P (by omega)) (Ev.bind d3 (Ev.bind (jEz on ot (by omega)) (Ev.bind (jI7 on ot (by omega)) (Ev.bind d4 (Ev.bind (jH8 rn rt nm (by omega) (by omega)) (Ev.bind (jJc rn rt nm (by omega) (by omega)) ?_)))))))))
 refine Ev.bind d5 (Ev.bind (jDf wn wt wx (by omega)) (Ev.bind (jDs wn wt wx (by omega)) (Ev.bind d6 (Ev.bind (jE9 T (by omega)) (Ev.bind (jI1 T (by omega)) (Ev.bind (Xv n s i j m (by omega)) (Ev.bind (jEs n s i j m (by omega)) (Qq rfl ?_))))))))
 exact Q7 (by simp) (Q7 (by simp) (Q7 (by simp) (Q7 (by simp) (Q7 (by simp) (Q7 (by simp) (Q7 (by simp) (Q7 (by simp) (Q7 (by simp) (Q7 (by simp) (Ev.bind (Kh n s (by omega)) (Ev.bind (Vx n s (by omega)) (hj0 _ (bne_self_eq_false _)))))))))))))
end Go.Proofs.YtckkfjdkaimmhaaGreatDoor.Pure
namespace Go.Proofs.YtckkfjdkaimmhaaGreatDoor.fnSigns
open Go.ChangeShapes Go.WideShapes Go.ChangeAt Go.RowKit Go.Joins
open Go.ChangeMaps (open_string shut_string)
set_option linter.unusedVariables false
theorem own : ownKnob Tryz.prog.godebug = none := by kernel_rfl
theorem jNr {H : Type} {enc : TypeId × Value → H} {P : Program} {w : World} {base : Nat} {spare : Nat → Bool} {held : Bool} {t : TypeId} {s : ByteArray} (ht : P.underlying t = some .string) (hs : s.size ≤ maxLen) : DataW.trod enc P w base spare held 1 t [.string s] = some (.lit (.string s.data.toList), []) := by
 simp [DataW.trod, ht, hs]
theorem laidOut : laidOutB Tryz.prog = true := by kernel_rfl
def jM9 (k : IntKind) (w : World) (a : Option Addr) (len cap : Nat) (zs : List Int) : Prop :=
 (a = none ∧ len = 0 ∧ cap = 0 ∧ zs = []) ∨
 ∃ x, a = some x ∧ len ≤ cap ∧ cap ≤ maxLen ∧ zs.length = cap ∧ (∀ i, i < zs.length → w.cell? (x.add i) = some (.int k (zs.getD i 0))) ∧ ∀ n ∈ zs, (Lit.int k n).wf = true
set_option maxRecDepth 100000 in
theorem lifted (os : Os) (started : os.Started) (H : Type) (enc : TypeId × Value → H) :
  ReturnsInHanded {} Tryz.checked os 3 .any (fun w args => (Rows.fnSignsSpec.pre enc Tryz.prog Tryz.f3 Rows.fnSignsRow.domain false w args ∧ laidMetH Tryz.prog G.l5 w) ∧ sizedMet enc Tryz.prog Tryz.f3 (OpenSpec.ofChange Rows.fnSignsSpec) false w args) (Rows.fnSignsSpec.post enc Tryz.prog Tryz.f3 false true false false) := by
 refine returnsInHanded_of_change_and (C := Tryz.checked) (X := fun w _ => laidMetH Tryz.prog G.l5 w) (fun _ _ _ hh h => h.of_heap hh) own started (by kernel_rfl) Tryz.func3
  (ChangeSpec.witness_shaped (enc := enc) (C := Tryz.checked) (os := os) (X := fun w _ => laidMetH Tryz.prog G.l5 w) false (World.doorLaid Tryz.prog 62 os) #[.slice none 0 0] 8 rfl (World.shaped_of_RefB (by kernel_rfl) (by kernel_rfl)) (by kernel_rfl) (by kernel_rfl) (by kernel_rfl) (G.jNv os _)) ?_
 intro W base args ds gs before hval0 hW hcnd hsz0 hL _
 have hsz : (DataW.weightsEach Tryz.prog (Tryz.f3.params.toList ++ Rows.fnSignsSpec.plain.varTypes Tryz.prog) (ds ++ gs)).all (· ≤ reachBytes) = true := hsz0
 have hval : ∀ (j : Nat) t v, Tryz.f3.params[j]? = some t → args[j]? = some v → Value.okWide Tryz.prog W .any base t v := hval0
 have hW' := hW
 obtain ⟨p, q, aC, hV, rfl, hfz, hnd⟩ := hW
 have hA : DataW.TrodAll enc Tryz.prog W 0 (fun _ => true) true Tryz.f3.params.toList args.toList ds p := aC
 rw [Tryz.params3] at hA hval hsz
 obtain ⟨v0, aG, d0, ds0, p0, q0, hargs, rfl, rfl, h0, r0⟩ := trodAll_cons hA
 obtain ⟨rfl, rfl, rfl⟩ := trodAll_nil r0
 obtain rfl : args = #[v0] := by cases args; simp_all
 obtain ⟨rfl, rfl⟩ := trodVars_none hV
 obtain ⟨a0, aA, cap0, rfl⟩ := okWide_slice Tryz.underlying22 (hval 0 22 v0 rfl rfl)
 have k0 := h0
 have aD : ∀ x ∈ p0, x.block < W.heap.size := by obtain ⟨m, hm⟩ := k0; exact DataW.trod_lt m _ _ _ hm
 obtain ⟨z0, w0⟩ : ∃ zs, jM9 .u8 W a0 aA cap0 zs := by
  obtain ⟨fuel, hf⟩ := h0
  rcases open_ints Tryz.underlying22 Tryz.underlying5 (by kernel_rfl) hf with ⟨hcs, _⟩ | ⟨x, l, c, zs, hcs, _, hl, hm, hz, _, hcell, hwz⟩
  ·simp [Value.cells] at hcs
   obtain ⟨rfl, rfl, rfl⟩ := hcs
   exact ⟨[], .inl ⟨rfl, rfl, rfl, rfl⟩⟩
  ·simp [Value.cells] at hcs
   obtain ⟨rfl, rfl, rfl⟩ := hcs
   exact ⟨zs, .inr ⟨_, rfl, hl, hm, by simpa using hz, hcell, hwz⟩⟩
 obtain ⟨l0, rfl, hr0, hm0, hw0, hc0⟩ := Go.Proofs.YtckkfjdkaimmhaaGreatDoorW.PrintWords.Xq.ofRowC w0
 clear aC hval0 hsz0 hsz
 obtain ⟨k, hP⟩ := Pure.jHb l0 (Nat.le_trans hm0 (by decide)) hw0
 refine (PX.Qe.calls k _ _ l0 true W (Go.Proofs.YtckkfjdkaimmhaaGreatDoorW.PrintWords.Kd.C_of_reads (d := (0 : Int)) (h1 := fun _ => rfl) hr0) hc0 hP rfl (G.jIt hL)).mono fun e W' ⟨he, bel⟩ => ?_
 subst he
 exact ⟨_, rfl, _, _, _, [], _, [], hW', trodAll_mk1 (shut_bool Tryz.underlying4 _), (trodAll_cons_mk (Below.trod laidOut (by kernel_rfl) (of_decide_eq_true (by kernel_rfl)) k0 bel aD) trodAll_mk0), rfl, bel.frame _, fun h => by cases h⟩
theorem over : Rows.fnSignsRow.holds Tryz.pinned (OpenSpec.ofChange Rows.fnSignsSpec) :=
 OpenClaim.holds_of_wide 3 Tryz.f3 rfl rfl rfl rfl rfl rfl rfl ⟨rfl, rfl, rfl, rfl, rfl⟩ rfl rfl rfl rfl rfl (by kernel_rfl) Tryz.func3 (by kernel_rfl)
  (of_decide_eq_true (by kernel_rfl)) (by unfold Func.isWrapper; first | (rw [if_pos (by decide +kernel)]; kernel_rfl) | (rw [if_neg (by decide +kernel)]; exact ⟨rfl, rfl⟩))
  (fun os started H enc _ => lifted os started H enc)
theorem proved : Rows.FnSignsCardSaid :=
 Claim7.holds_tied_plain_at .later [] [.data, .data, .data, .sentinel, .sentinel] true (true, "b35d68ad186b05db690a75d8360495bfd116e918c58861557b9d38e7c44736b3") true over (fun _ h => by cases h) (by kernel_rfl) (fun _ h => by cases h) fnSigns_row_tie rfl ⟨rfl, rfl⟩ (by kernel_rfl) rfl
  (fun f fn hf hfn => by
   obtain rfl : f = 3 := Option.some.inj (hf.symm.trans (show Tryz.prog.funcNamed "loop.example/g03104/laws.FnSigns" = some 3 by kernel_rfl))
   obtain rfl : fn = Tryz.f3 := (Option.some.inj (Tryz.func3.symm.trans hfn)).symm
   exact ⟨by kernel_rfl, fun j t ht => by
    have hm : t ∈ Tryz.f3.params.toList := Array.mem_toList_iff.2 (Array.mem_of_getElem? ht)
    have hall : (Tryz.f3.params.toList.all fun u => !Tryz.prog.wantsStandIn u) = true := by kernel_rfl
    exact (show Tryz.prog.wantsStandIn t = false by simpa using List.all_eq_true.1 hall t hm)⟩)
  (by kernel_rfl)
#print axioms proved
end Go.Proofs.YtckkfjdkaimmhaaGreatDoor.fnSigns
namespace Go.Proofs.YtckkfjdkaimmhaaGreatDoor
theorem fnSigns_holds : Rows.FnSignsCardSaid := fnSigns.proved
end Go.Proofs.YtckkfjdkaimmhaaGreatDoor
