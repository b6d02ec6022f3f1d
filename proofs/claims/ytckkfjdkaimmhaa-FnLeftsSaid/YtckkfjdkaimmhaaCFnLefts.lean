/- FnLefts returns true for all arguments and leaves them as they were. No condition. -/
import Derived.Test.YtckkfjdkaimmhaaProg
import Derived.Test.YtckkfjdkaimmhaaRows
import Derived.WalkKit
import Derived.ProofKit
import Derived.OpenShut
import Derived.ShutString
import Derived.ChangeOld
import Derived.Below
import Derived.SizedLaws
import Derived.Lib.SmallJoins
import Derived.ChangeSame
import Derived.Test.YtckkfjdkaimmhaaV1
import Derived.Test.YtckkfjdkaimmhaaBmgepnm1
import Derived.Test.YtckkfjdkaimmhaaBmgepnm2
import Derived.Test.YtckkfjdkaimmhaaBmgepnm3
import Derived.Test.YtckkfjdkaimmhaaBmgepnm4
import Derived.Test.YtckkfjdkaimmhaaBmgepnm5
set_option linter.unusedVariables false
set_option linter.unusedSimpArgs false
namespace Go.Proofs.Ytckkfjdkaimmhaa.M
open Go.RowKit Go.Proofs.YtckkfjdkaimmhaaW.PrintWords Go.Proofs.Ytckkfjdkaimmhaa.PX Go.Proofs.Ytckkfjdkaimmhaa.G
def ins (f : Nat → Nat → Nat → Int) (p a b c : Nat) : Prop := f p a b = f p b c ∧ f p b c = f p c a
section
variable {n : Nat} {f : Nat → Nat → Nat → Int} (o : Ord n f)
include o
theorem Ord.cyc {a b c : Nat} (ha : a < n) (hb : b < n) (hc : c < n) : f b c a = f a b c ∧ f c a b = f a b c := by
 have e1 := o.s1 a b c ha hb hc
 have e2 := o.s2 b a c hb ha hc
 have e3 := o.s2 a b c ha hb hc
 have e4 := o.s1 a c b ha hc hb
 omega
theorem Ord.trans {t s p q r : Nat} (ht : t < n) (hs : s < n) (hp : p < n) (hq : q < n) (hr : r < n) (hd : Yq s p q r = true) (k1 : t ≠ s) (k2 : t ≠ p) (k3 : t ≠ q) (k4 : t ≠ r)
  (h1 : f t s p = 1) (h2 : f t s q = 1) (h3 : f t s r = 1) (c1 : f t p q = 1) (c2 : f t q r = 1) (c3 : f t r p = 1) : False := by
 refine o.gp t s p q r ht hs hp hq hr hd k1 k2 k3 k4 ?_
 have e := o.s2 t p r ht hp hr
 have e' : f t p r = -1 := by rw [e] at c3; omega
 rw [h1, h2, h3, c1, c2, e']
 decide
theorem Ord.trans' {t s p q r : Nat} (ht : t < n) (hs : s < n) (hp : p < n) (hq : q < n) (hr : r < n) (hd : Yq s p q r = true) (k1 : t ≠ s) (k2 : t ≠ p) (k3 : t ≠ q) (k4 : t ≠ r)
  (h1 : f t p s = 1) (h2 : f t q s = 1) (h3 : f t r s = 1) (c1 : f t p q = 1) (c2 : f t q r = 1) (c3 : f t r p = 1) : False := by
 refine o.gp t s p q r ht hs hp hq hr hd k1 k2 k3 k4 ?_
 have e := o.s2 t p r ht hp hr
 have e' : f t p r = -1 := by rw [e] at c3; omega
 have a1 : f t s p = -1 := by rw [o.s2 t p s ht hp hs, h1]
 have a2 : f t s q = -1 := by rw [o.s2 t q s ht hq hs, h2]
 have a3 : f t s r = -1 := by rw [o.s2 t r s ht hr hs, h3]
 rw [a1, a2, a3, c1, c2, e']
 decide
theorem Ord.tot {t a b : Nat} (ht : t < n) (ha : a < n) (hb : b < n) (k1 : t ≠ a) (k2 : t ≠ b) (k3 : a ≠ b) : f t a b = 1 ∨ f t b a = 1 := by
 have e := o.s2 t a b ht ha hb
 rcases o.pm t a b ht ha hb k1 k3 k2 with h | h
 ·exact Or.inl h
 ·exact Or.inr (by rw [e, h]; rfl)
theorem Ord.asym {t a b : Nat} (ht : t < n) (ha : a < n) (hb : b < n) (h : f t a b = 1) : f t b a = -1 := by
 rw [o.s2 t a b ht ha hb, h]
theorem Ord.inside {p a b c : Nat} (hp : p < n) (ha : a < n) (hb : b < n) (hc : c < n) (hd : Yq p a b c = true) (h : ins f p a b c) : f a b c = f p a b := by
 obtain ⟨h1, h2⟩ := h
 obtain ⟨e1, e2, e3, e4, e5, e6⟩ := Q6.1 hd
 have k := o.ac p a b c hp ha hb hc hd
 have e := o.s2 p a c hp ha hc
 have v := o.pm a b c ha hb hc e4 e6 e5
 have u := o.pm p a b hp ha hb e1 e4 e2
 omega
omit o in
theorem Vi {p a b c : Nat} (h : ins f p a b c) : ins f p b c a := ⟨h.2, by rw [← h.2, h.1]⟩
theorem Ord.ins_flip {p a b c : Nat} (hp : p < n) (ha : a < n) (hb : b < n) (hc : c < n) (h : ins f p a b c) : ins f p a c b := by
 have e1 := o.s2 p a b hp ha hb
 have e2 := o.s2 p b c hp hb hc
 have e3 := o.s2 p c a hp hc ha
 obtain ⟨h1, h2⟩ := h
 constructor <;> omega
theorem Ord.between {q c d e p : Nat} (hq : q < n) (hc : c < n) (hd : d < n) (he : e < n) (hp : p < n) (hx : Yq p c d e = true) (k0 : q ≠ p) (k1 : q ≠ c) (k2 : q ≠ d) (k3 : q ≠ e)
  (hi : ins f p c d e) (h1 : f q c d = 1) (h2 : f q d e = 1) (h3 : f q c e = 1) : f q c p = 1 ∧ f q p e = 1 := by
 obtain ⟨e1, e2, e3, e4, e5, e6⟩ := Q6.1 hx
 have hin := o.inside hp hc hd he hx hi
 obtain ⟨i1, i2⟩ := hi
 have v := o.pm p c d hp hc hd e1 e4 e2
 constructor
 ·
  have g := o.gp c q d e p hc hq hd he hp (Q6.2 (by omega)) (by omega) (by omega) (by omega) (by omega)
  have a1 : f c q d = -1 := by rw [o.s1 q c d hq hc hd, h1]
  have a2 : f c q e = -1 := by rw [o.s1 q c e hq hc he, h3]
  have a3 : f c e p = -(f p c d) := by
   have r1 := (o.cyc hp he hc).1
   have r2 := o.s1 e c p he hc hp
   omega
  have a4 : f c d p = f p c d := (o.cyc hp hc hd).1
  have a5 : f c q p = -(f q c p) := o.s1 q c p hq hc hp
  rw [a1, a2, a3, a4, a5, hin] at g
  rcases o.pm q c p hq hc hp k1 (by omega) k0 with u | u
  ·exact u
  ·exfalso
   rw [u] at g
   rcases v with v | v <;> rw [v] at g <;> exact g (by decide)
 ·have g := o.gp e q c d p he hq hc hd hp (Q6.2 (by omega)) (by omega) (by omega) (by omega) (by omega)
  have a1 : f e q c = 1 := by rw [← h3]; exact (o.cyc hq hc he).2
  have a2 : f e q d = 1 := by rw [← h2]; exact (o.cyc hq hd he).2
  have a3 : f e d p = -(f p c d) := by
   have r1 := (o.cyc hp he hd).1
   have r2 := o.s2 p d e hp hd he
   omega
  have a4 : f e c p = f p c d := by
   have r1 := (o.cyc hp he hc).1
   omega
  have a5 : f e q p = f q p e := (o.cyc hq hp he).2
  have a6 : f e c d = f p c d := by rw [(o.cyc hc hd he).2]; exact hin
  rw [a1, a2, a3, a4, a5, a6] at g
  rcases o.pm q p e hq hp he k0 (by omega) k3 with u | u
  ·exact u
  ·exfalso
   rw [u] at g
   rcases v with v | v <;> rw [v] at g <;> exact g (by decide)
def inT (n : Nat) (f : Nat → Nat → Nat → Int) (S : Nat → Prop) (p : Nat) : Prop := ∃ a b c, a < n ∧ b < n ∧ c < n ∧ Yq p a b c = true ∧ S a ∧ S b ∧ S c ∧ ins f p a b c
set_option maxHeartbeats 4000000 in
theorem Ord.leave {S : Nat → Prop} {p q : Nat} (hp : p < n) (hq : q < n) (hpq : p ≠ q) (h1 : inT n f S p) (h2 : inT n f S q) : inT n f (fun x => S x ∧ x ≠ p) q := by
 refine Classical.byContradiction fun hno => ?_
 have N : ∀ x y z, x < n → y < n → z < n → S x → S y → S z → x ≠ p → y ≠ p → z ≠ p → Yq q x y z = true → f q x y = 1 → f q y z = 1 → f q z x = 1 → False := fun x y z hx hy hz sx sy sz x1 y1 z1 hd c1 c2 c3 =>
  hno ⟨x, y, z, hx, hy, hz, hd, ⟨sx, x1⟩, ⟨sy, y1⟩, ⟨sz, z1⟩, by rw [ins, c1, c2, c3]; exact ⟨rfl, rfl⟩⟩
 -- q lies inside p, a, b
 obtain ⟨a, b, ha, hb, sa, sb, hd, c1, c2, c3⟩ : ∃ a b, a < n ∧ b < n ∧ S a ∧ S b ∧ Yq q p a b = true ∧ f q a b = 1 ∧ f q b p = 1 ∧ f q p a = 1 := by
  obtain ⟨x, y, z, hx, hy, hz, hd, sx, sy, sz, hi⟩ := h2
  obtain ⟨e1, e2, e3, e4, e5, e6⟩ := Q6.1 hd
  have fin : ∀ a b : Nat, a < n → b < n → S a → S b → Yq q p a b = true → ins f q p a b → ∃ a b, a < n ∧ b < n ∧ S a ∧ S b ∧ Yq q p a b = true ∧ f q a b = 1 ∧ f q b p = 1 ∧ f q p a = 1 := by
   intro a b ha hb sa sb hd hi
   obtain ⟨d1, d2, d3, d4, d5, d6⟩ := Q6.1 hd
   obtain ⟨i1, i2⟩ := hi
   rcases o.pm q p a hq hp ha d1 d4 d2 with v | v
   ·exact ⟨a, b, ha, hb, sa, sb, hd, by omega, by omega, v⟩
   ·have r1 := o.s2 q a b hq ha hb
    have r2 := o.s2 q b p hq hb hp
    have r3 := o.s2 q p a hq hp ha
    exact ⟨b, a, hb, ha, sb, sa, Q6.2 (by omega), by omega, by omega, by omega⟩
  by_cases k1 : x = p
  ·subst k1; exact fin y z hy hz sy sz hd hi
  by_cases k2 : y = p
  ·subst k2; exact fin z x hz hx sz sx (Q6.2 (by omega)) (Vi hi)
  by_cases k3 : z = p
  ·subst k3; exact fin x y hx hy sx sy (Q6.2 (by omega)) (Vi (Vi hi))
  exact absurd ⟨x, y, z, hx, hy, hz, hd, ⟨sx, k1⟩, ⟨sy, k2⟩, ⟨sz, k3⟩, hi⟩ hno
 obtain ⟨d1, d2, d3, d4, d5, d6⟩ := Q6.1 hd
 have L1 : ∀ t, t < n → S t → t ≠ p → t ≠ q → t ≠ a → t ≠ b → f q t a = 1 → f q t p = 1 → False := by
  intro t ht st k1 k2 k3 k4 g1 g2
  rcases o.tot hq ht hb (by omega) (by omega) (by omega) with g | g
  ·exact o.trans hq ht ha hb hp (Q6.2 (by omega)) (by omega) (by omega) (by omega) (by omega) g1 g g2 c1 c2 c3
  ·exact N t a b ht ha hb st sa sb k1 (by omega) (by omega) (Q6.2 (by omega)) g1 c1 g
 have L2 : ∀ t, t < n → S t → t ≠ p → t ≠ q → t ≠ a → t ≠ b → f q b t = 1 → f q p t = 1 → False := by
  intro t ht st k1 k2 k3 k4 g1 g2
  rcases o.tot hq ha ht (by omega) (by omega) (by omega) with g | g
  ·exact o.trans' hq ht ha hb hp (Q6.2 (by omega)) (by omega) (by omega) (by omega) (by omega) g g1 g2 c1 c2 c3
  ·exact N t a b ht ha hb st sa sb k1 (by omega) (by omega) (Q6.2 (by omega)) g c1 g1
 -- two elements between which q sees p
 have core : ∀ c e, c < n → e < n → S c → S e → c ≠ p → e ≠ p → c ≠ q → e ≠ q → c ≠ e → f q c p = 1 → f q p e = 1 → f q c e = 1 → False := by
  intro c e hc he sc se k1 k2 k3 k4 k5 g1 g2 g3
  have nca : c ≠ a := fun h => by rw [h] at g1; have := o.asym hq hp ha c3; omega
  have neb : e ≠ b := fun h => by rw [h] at g2; have := o.asym hq hb hp c2; omega
  by_cases cb : c = b
  ·subst cb
   by_cases ea : e = a
   ·subst ea; have := o.asym hq ha hb c1; omega
   ·exact L2 e he se k2 k4 ea neb g3 g2
  by_cases ea : e = a
  ·subst ea; exact L1 c hc sc k1 k3 nca cb g3 g1
  have ac : f q a c = 1 := by
   rcases o.tot hq ha hc (by omega) (by omega) (by omega) with g | g
   ·exact g
   ·exact (L1 c hc sc k1 k3 nca cb g g1).elim
  have eb : f q e b = 1 := by
   rcases o.tot hq he hb (by omega) (by omega) (by omega) with g | g
   ·exact g
   ·exact (L2 e he se k2 k4 ea neb g g2).elim
  rcases o.tot hq hc hb (by omega) (by omega) (by omega) with g | g
  ·exact o.trans hq hc he hb hp (Q6.2 (by omega)) (by omega) (by omega) (by omega) (by omega) g3 g g1 eb c2 g2
  ·exact N b c e hb hc he sb sc se (by omega) k1 k2 (Q6.2 (by omega)) g g3 eb
 obtain ⟨x, y, z, hx, hy, hz, hd', sx, sy, sz, hi⟩ := h1
 obtain ⟨x1, x2, x3, x4, x5, x6⟩ := Q6.1 hd'
 have inq : ∀ y z : Nat, y < n → z < n → S y → S z → Yq p q y z = true → ins f p q y z → False := by
  intro y z hy hz sy sz hd' hi
  obtain ⟨x1, x2, x3, x4, x5, x6⟩ := Q6.1 hd'
  have hin := o.inside hp hq hy hz hd' hi
  obtain ⟨i1, i2⟩ := hi
  have r1 := (o.cyc hp hq hy).1
  have r2 := (o.cyc hp hz hq).2
  rcases o.pm p q y hp hq hy x1 x4 x2 with v | v
  ·exact core y z hy hz sy sz (by omega) (by omega) (by omega) (by omega) x6 (by omega) (by omega) (by omega)
  ·have r3 := o.s2 q y p hq hy hp
   have r4 := o.s2 q p z hq hp hz
   have r5 := o.s2 q y z hq hy hz
   exact core z y hz hy sz sy (by omega) (by omega) (by omega) (by omega) (fun h => x6 h.symm) (by omega) (by omega) (by omega)
 by_cases k1 : x = q
 ·subst k1; exact inq y z hy hz sy sz hd' hi
 by_cases k2 : y = q
 ·subst k2; exact inq z x hz hx sz sx (Q6.2 (by omega)) (Vi hi)
 by_cases k3 : z = q
 ·subst k3; exact inq x y hx hy sx sy (Q6.2 (by omega)) (Vi (Vi hi))
 -- q sees x, y, z in some order
 have ord : ∀ c d e : Nat, c < n → d < n → e < n → S c → S e → Yq p c d e = true → ins f p c d e → c ≠ q → d ≠ q → e ≠ q → f q c d = 1 → f q d e = 1 → f q c e = 1 → False := by
  intro c d e hc hd he sc se hx hi k1 k2 k3 g1 g2 g3
  obtain ⟨x1, x2, x3, x4, x5, x6⟩ := Q6.1 hx
  have hb := o.between hq hc hd he hp hx (by omega) (by omega) (by omega) (by omega) hi g1 g2 g3
  exact core c e hc he sc se (by omega) (by omega) k1 k3 (by omega) hb.1 hb.2 g3
 have i2 := Vi hi
 have i3 := Vi i2
 have j1 := o.ins_flip hp hx hy hz hi
 have j2 := o.ins_flip hp hy hz hx i2
 have j3 := o.ins_flip hp hz hx hy i3
 have hnr := N x y z hx hy hz sx sy sz (by omega) (by omega) (by omega) (Q6.2 (by omega))
 have hnr' := N x z y hx hz hy sx sz sy (by omega) (by omega) (by omega) (Q6.2 (by omega))
 rcases o.tot hq hx hy (by omega) (by omega) x4 with g1 | g1 <;> rcases o.tot hq hy hz (by omega) (by omega) x6 with g2 | g2 <;> rcases o.tot hq hx hz (by omega) (by omega) x5 with g3 | g3
 ·exact ord x y z hx hy hz sx sz hd' hi k1 k2 k3 g1 g2 g3
 ·exact hnr g1 g2 g3
 ·exact ord x z y hx hz hy sx sy (Q6.2 (by omega)) j1 k1 k3 k2 g3 g2 g1
 ·exact ord z x y hz hx hy sz sy (Q6.2 (by omega)) i3 k3 k1 k2 g3 g1 g2
 ·exact ord y x z hy hx hz sy sz (Q6.2 (by omega)) j2 k2 k1 k3 g1 g3 g2
 ·exact ord y z x hy hz hx sy sx (Q6.2 (by omega)) i2 k2 k3 k1 g2 g3 g1
 ·exact hnr' g3 g2 g1
 ·exact ord z y x hz hy hx sz sx (Q6.2 (by omega)) j3 k3 k2 k1 g2 g1 g3
end
def jR8 : Bool := (List.range 7).all fun a => (List.range 7).all fun b => (List.range 7).all fun c => (List.range 7).all fun d => !Yq a b c d || jEv.all fun p => jEv.all fun q => jEv.all fun r =>
 decide (mx (jA6 (splitN p q r a b c d).1) (jA6 (splitN p q r a b c d).2) = (a : Int)) == (!p && !q && !r)
theorem jLx : jR8 = true := by decide +kernel
theorem jLw {a b c d : Nat} (ha : a < 7) (hb : b < 7) (hc : c < 7) (hd : d < 7) (h : Yq a b c d = true) (p q r : Bool) :
  decide (mx (jA6 (splitN p q r a b c d).1) (jA6 (splitN p q r a b c d).2) = (a : Int)) = (!p && !q && !r) := by
 have g := List.all_eq_true.1 jLx a (List.mem_range.2 ha)
 have g := List.all_eq_true.1 g b (List.mem_range.2 hb)
 have g := List.all_eq_true.1 g c (List.mem_range.2 hc)
 have g := List.all_eq_true.1 g d (List.mem_range.2 hd)
 rw [h, Bool.not_true, Bool.false_or] at g
 have g := List.all_eq_true.1 g p (by cases p <;> decide)
 have g := List.all_eq_true.1 g q (by cases q <;> decide)
 have g := List.all_eq_true.1 g r (by cases r <;> decide)
 exact beq_iff_eq.1 g
theorem jFb {n : Nat} {t : ByteArray} (o : Ord n (chi n t)) (h1 : n ≤ 7) {p a b c : Nat} (hp : p < n) (ha : a < n) (hb : b < n) (hc : c < n) (hd : Yq p a b c = true) :
  K6 n t p a b c = (p : Int) ↔ ins (chi n t) p a b c := by
 obtain ⟨e1, e2, e3, e4, e5, e6⟩ := Q6.1 hd
 have m := jLw (show p < 7 by omega) (show a < 7 by omega) (show b < 7 by omega) (show c < 7 by omega) hd (decide (-(chi n t a b c) * chi n t p b c > 0)) (decide (chi n t a b c * chi n t p a c > 0)) (decide (-(chi n t a b c) * chi n t p a b > 0))
 have key : K6 n t p a b c = (p : Int) ↔ (!decide (-(chi n t a b c) * chi n t p b c > 0) && !decide (chi n t a b c * chi n t p a c > 0) && !decide (-(chi n t a b c) * chi n t p a b > 0)) = true := by
  rw [← m, decide_eq_true_eq]
  rfl
 rw [key]
 have s := o.s2 p a c hp ha hc
 constructor
 ·intro g
  unfold ins
  rcases o.pm p a b hp ha hb e1 e4 e2 with x | x <;> rcases o.pm p b c hp hb hc e2 e6 e3 with y | y <;> rcases o.pm p a c hp ha hc e1 e5 e3 with z | z <;> rcases o.pm a b c ha hb hc e4 e6 e5 with w | w <;> rw [x, y, z, w] at g <;> first | (exact absurd g (by decide)) | (rw [s, x, y, z]; exact ⟨rfl, rfl⟩)
 ·intro g
  have w := o.inside hp ha hb hc hd g
  obtain ⟨g1, g2⟩ := g
  rw [s] at g2
  rw [w]
  rcases o.pm p a b hp ha hb e1 e4 e2 with x | x <;> rcases o.pm p b c hp hb hc e2 e6 e3 with y | y <;> rcases o.pm p a c hp ha hc e1 e5 e3 with z | z <;> rw [x, y] at g1 <;> rw [y, z] at g2 <;> first | (exact absurd g1 (by decide)) | (exact absurd g2 (by decide)) | (rw [x, y, z]; decide)
theorem jEs {n : Nat} {t : ByteArray} (o : Ord n (chi n t)) (h1 : n ≤ 7) {s p : Nat} (hp : p < n) (h : inB n t s p = true) : inT n (chi n t) (fun x => s.testBit x = true) p := by
 obtain ⟨⟨a, b, c⟩, hm, hq⟩ := List.any_eq_true.1 h
 obtain ⟨m1, m2, m3⟩ := Ul hm
 simp only [jEu, Bool.and_eq_true, decide_eq_true_eq, beq_iff_eq] at hq
 obtain ⟨⟨⟨⟨⟨⟨d1, d2⟩, d3⟩, hi⟩, ba⟩, bb⟩, bc⟩ := hq
 have hd : Yq p a b c = true := Q6.2 ⟨d1, d2, d3, by omega, by omega, by omega⟩
 exact ⟨a, b, c, by omega, by omega, m3, hd, ba, bb, bc, (jFb o h1 hp (by omega) (by omega) m3 hd).1 hi⟩
theorem jEp {n : Nat} {f : Nat → Nat → Nat → Int} {S S' : Nat → Prop} {p : Nat} (h : inT n f S p) (hs : ∀ x, S x → S' x) : inT n f S' p := by
 obtain ⟨a, b, c, ha, hb, hc, hd, sa, sb, sc, hi⟩ := h
 exact ⟨a, b, c, ha, hb, hc, hd, hs _ sa, hs _ sb, hs _ sc, hi⟩
theorem jH7 {n : Nat} {f : Nat → Nat → Nat → Int} (o : Ord n f) {S : Nat → Prop} (hS : ∀ x, S x → x < n) (h : ∀ p, S p → inT n f S p) : ∀ x, ¬ S x := by
 have key : ∀ k, ∀ q, S q → k ≤ q → inT n f (fun x => S x ∧ k ≤ x) q := by
  intro k
  induction k with
  | zero => exact fun q sq _ => jEp (h q sq) fun x sx => ⟨sx, Nat.zero_le _⟩
  | succ k ih =>
   intro q sq hq
   by_cases sk : S k
   ·have g1 := ih k sk (Nat.le_refl _)
    have g2 := ih q sq (by omega)
    exact jEp (o.leave (hS k sk) (hS q sq) (by omega) g1 g2) fun x hx => ⟨hx.1.1, by have := hx.1.2; have := hx.2; omega⟩
   ·exact jEp (ih q sq (by omega)) fun x hx => ⟨hx.1, by
     have := hx.2
     by_cases e : x = k
     ·subst e; exact absurd hx.1 sk
     ·omega⟩
 have no : ∀ d x, S x → n ≤ x + d → False := by
  intro d
  induction d with
  | zero => intro x sx hx; have := hS x sx; omega
  | succ d ih =>
   intro x sx hx
   obtain ⟨a, _, _, _, _, _, hd, sa, _⟩ := key x x sx (Nat.le_refl _)
   obtain ⟨e1, _⟩ := Q6.1 hd
   exact ih a sa.1 (by have := sa.2; omega)
 exact fun x sx => no n x sx (by omega)
theorem jOm {n : Nat} {t : ByteArray} (ho : Yi n t = true) {s : Nat} (h1 : n ≤ 7) (hs : ∀ p, s.testBit p = true → p < n) (h0 : s ≠ 0) : jPy n t s ≠ 0 := by
 intro e
 have o := Kh ho
 have all : ∀ p, s.testBit p = true → inT n (chi n t) (fun x => s.testBit x = true) p := by
  intro p hp
  have hpn := hs p hp
  have b := jD8 t s h1 hpn
  rw [e, Nat.zero_testBit] at b
  unfold jOg at b
  rw [hp, Bool.true_and] at b
  refine jEs o h1 hpn ?_
  cases g : inB n t s p with
  | true => rfl
  | false => rw [g] at b; cases b
 have none := jH7 o hs all
 refine h0 (Nat.eq_of_testBit_eq fun i => ?_)
 rw [Nat.zero_testBit]
 exact Bool.eq_false_iff.2 (none i)
def outer (n : Nat) (f : Nat → Nat → Nat → Int) (p : Nat) : Prop := p < n ∧ ∀ a b c, a < n → b < n → c < n → Yq p a b c = true → ¬ ins f p a b c
def nx (n : Nat) (f : Nat → Nat → Nat → Int) (a b : Nat) : Prop := a < n ∧ b < n ∧ a ≠ b ∧ ∀ x, x < n → x ≠ a → x ≠ b → f a b x = 1
section
variable {n : Nat} {f : Nat → Nat → Nat → Int} (o : Ord n f)
include o
theorem Ord.three {a x y z : Nat} (ha : outer n f a) (hx : x < n) (hy : y < n) (hz : z < n) (hd : Yq a x y z = true) (h1 : f a x y = 1) (h2 : f a y z = 1) : f a x z = 1 := by
 obtain ⟨e1, e2, e3, e4, e5, e6⟩ := Q6.1 hd
 rcases o.pm a x z ha.1 hx hz e1 e5 e3 with h | h
 ·exact h
 ·exfalso
  refine ha.2 x y z hx hy hz hd ⟨by rw [h1, h2], ?_⟩
  rw [h2, o.s2 a x z ha.1 hx hz, h]
  rfl
theorem Ord.source {a : Nat} (ha : outer n f a) : ∀ k, k ≤ n → (∃ x, x < k ∧ x ≠ a) → ∃ s, s < k ∧ s ≠ a ∧ ∀ x, x < k → x ≠ a → x ≠ s → f a s x = 1 := by
 intro k
 induction k with
 | zero => rintro _ ⟨x, hx, _⟩; omega
 | succ k ih =>
  rintro hk ⟨x0, hx0, hxa⟩
  by_cases e : ∃ x, x < k ∧ x ≠ a
  ·obtain ⟨s, hs, hsa, hall⟩ := ih (by omega) e
   by_cases ek : k = a
   ·exact ⟨s, by omega, hsa, fun x hx h1 h2 => hall x (by omega) h1 h2⟩
   ·rcases o.tot ha.1 (show s < n by omega) (show k < n by omega) (fun e => hsa e.symm) (fun e => ek e.symm) (by omega) with h | h
    ·refine ⟨s, by omega, hsa, fun x hx h1 h2 => ?_⟩
     by_cases exk : x = k
     ·subst exk; exact h
     ·exact hall x (by omega) h1 h2
    ·refine ⟨k, by omega, ek, fun x hx h1 h2 => ?_⟩
     by_cases exs : x = s
     ·subst exs; exact h
     ·exact o.three ha (show k < n by omega) (show s < n by omega) (show x < n by omega) (Q6.2 ⟨fun e => ek e.symm, fun e => hsa e.symm, fun e => h1 e.symm, by omega, fun e => h2 e.symm, fun e => exs e.symm⟩) h (hall x (by omega) h1 exs)
  ·obtain rfl : x0 = k := by
    refine Classical.byContradiction fun g => e ⟨x0, by omega, hxa⟩
   refine ⟨x0, by omega, hxa, fun x hx h1 h2 => ?_⟩
   exact absurd ⟨x, by omega, h1⟩ e
theorem Ord.nx_exists {a : Nat} (h3 : 3 ≤ n) (ha : outer n f a) : ∃ b, nx n f a b := by
 obtain ⟨s, hs, hsa, hall⟩ := o.source ha n (Nat.le_refl _) (by
  by_cases e : a = 0
  ·exact ⟨1, by omega, by omega⟩
  ·exact ⟨0, by omega, by omega⟩)
 exact ⟨s, ha.1, hs, fun e => hsa e.symm, fun x hx h1 h2 => hall x hx h1 h2⟩
theorem Ord.nx_uni {a b b' : Nat} (h : nx n f a b) (h' : nx n f a b') : b = b' := by
 refine Classical.byContradiction fun e => ?_
 have g1 := h.2.2.2 b' h'.2.1 (fun x => h'.2.2.1 x.symm) (fun x => e x.symm)
 have g2 := h'.2.2.2 b h.2.1 (fun x => h.2.2.1 x.symm) e
 have := o.s2 a b b' h.1 h.2.1 h'.2.1
 omega
omit o in
theorem jA3 : ∀ (l l' : List Nat), l.Nodup → (∀ x ∈ l, x ∈ l') → l.length ≤ l'.length
 | [], _, _, _ => Nat.zero_le _
 | x :: xs, l', hd, h => by
  have hx := h x List.mem_cons_self
  have hd' := List.nodup_cons.1 hd
  have k := jA3 xs (l'.erase x) hd'.2 (fun y hy => (List.mem_erase_of_ne (fun e => hd'.1 (by rw [← e]; exact hy))).2 (h y (List.mem_cons_of_mem _ hy)))
  rw [List.length_erase_of_mem hx] at k
  have := List.length_pos_of_mem hx
  rw [List.length_cons]
  omega
end
end Go.Proofs.Ytckkfjdkaimmhaa.M
namespace Go.Proofs.Ytckkfjdkaimmhaa.M
open Go.RowKit Go.Proofs.YtckkfjdkaimmhaaW.PrintWords Go.Proofs.Ytckkfjdkaimmhaa.PX Go.Proofs.Ytckkfjdkaimmhaa.G Go.Proofs.YtckkfjdkaimmhaaW.PrintMore
def jNi (s : Nat) : List Int := ((List.range 7).filter fun i => s.testBit i).map fun (i : Nat) => (i : Int)
def jOl : Bool := (List.range 128).all fun s => decide (Zt.f 30 (s : Int) = some (jNi s))
theorem jH9 : jOl = true := by decide +kernel
theorem jOv {s : Nat} (hs : s < 128) : Ev (fun k => Zt.f k (s : Int)) (jNi s) := Ev.of (Zt.mono _) (of_decide_eq_true (List.all_eq_true.1 jH9 s (List.mem_range.2 hs)))
theorem jFx (s : Nat) : (jNi s).length = Wn s := by unfold jNi Wn; rw [List.length_map]
end Go.Proofs.Ytckkfjdkaimmhaa.M
namespace Go.Proofs.Ytckkfjdkaimmhaa.PX
open Go.RowKit Go.Proofs.Ytckkfjdkaimmhaa.G Go.Proofs.YtckkfjdkaimmhaaW.PrintWords Go.Proofs.YtckkfjdkaimmhaaW.PrintLast Go.Proofs.YtckkfjdkaimmhaaW.PrintMore
attribute [local go_sem] max2_int min2_int Yd Yg Xh Xf Xq Xp   -- for this text's walks alone
set_option linter.unusedVariables false
set_option linter.unusedSimpArgs false
end Go.Proofs.Ytckkfjdkaimmhaa.PX
namespace Go.Proofs.Ytckkfjdkaimmhaa.M
open Go.RowKit Go.Proofs.YtckkfjdkaimmhaaW.PrintWords Go.Proofs.Ytckkfjdkaimmhaa.PX Go.Proofs.Ytckkfjdkaimmhaa.G
theorem jEe {s n p : Nat} (h : s < 2 ^ n) (hp : s.testBit p = true) : p < n := by
 refine Classical.byContradiction fun e => ?_
 have : s.testBit p = false := Nat.testBit_lt_two_pow (Nat.lt_of_lt_of_le h (Nat.pow_le_pow_right (by omega) (by omega)))
 rw [this] at hp
 cases hp
section
variable {n : Nat} {t : ByteArray} (ho : Yi n t = true) (h : Y1 n t = true) (h1 : n ≤ 7)
include ho h h1
end
end Go.Proofs.Ytckkfjdkaimmhaa.M
namespace Go.Proofs.Ytckkfjdkaimmhaa.PX
open Go.RowKit Go.Proofs.Ytckkfjdkaimmhaa.G Go.Proofs.YtckkfjdkaimmhaaW.PrintWords Go.Proofs.YtckkfjdkaimmhaaW.PrintLast Go.Proofs.YtckkfjdkaimmhaaW.PrintMore
attribute [local go_sem] max2_int min2_int Yd Yg Xh Xf Xq Xp   -- for this text's walks alone
set_option linter.unusedVariables false
set_option linter.unusedSimpArgs false
end Go.Proofs.Ytckkfjdkaimmhaa.PX
namespace Go.Proofs.Ytckkfjdkaimmhaa.M
open Go.RowKit Go.Proofs.YtckkfjdkaimmhaaW.PrintWords Go.Proofs.Ytckkfjdkaimmhaa.PX Go.Proofs.Ytckkfjdkaimmhaa.G
theorem jG8 {n : Nat} {t : ByteArray} (o : Ord n (chi n t)) (h1 : n ≤ 7) {s p : Nat} (hp : p < n) (h : inT n (chi n t) (fun x => s.testBit x = true) p) : inB n t s p = true := by
 obtain ⟨a, b, c, ha, hb, hc, hd, sa, sb, sc, hi⟩ := h
 obtain ⟨e1, e2, e3, e4, e5, e6⟩ := Q6.1 hd
 have fin : ∀ x y z, x < y → y < z → z < n → s.testBit x = true → s.testBit y = true → s.testBit z = true → p ≠ x → p ≠ y → p ≠ z → ins (chi n t) p x y z → inB n t s p = true := by
  intro x y z hxy hyz hz sx sy sz p1 p2 p3 hi
  refine List.any_eq_true.2 ⟨(x, y, z), jA1 hxy hyz hz, ?_⟩
  have k := (jFb o h1 hp (show x < n by omega) (show y < n by omega) hz (Q6.2 ⟨p1, p2, p3, by omega, by omega, by omega⟩)).2 hi
  simp only [sx, sy, sz, Bool.and_true]
  rw [jCi p1 p2 p3]
  exact beq_iff_eq.2 k
 have hi' := o.ins_flip hp ha hb hc hi
 rcases Nat.lt_or_gt_of_ne e4 with q1 | q1 <;> rcases Nat.lt_or_gt_of_ne e6 with q2 | q2 <;> rcases Nat.lt_or_gt_of_ne e5 with q3 | q3
 ·exact fin a b c q1 q2 hc sa sb sc e1 e2 e3 hi
 ·omega
 ·exact fin a c b q3 q2 hb sa sc sb e1 e3 e2 hi'
 ·exact fin c a b q3 q1 hb sc sa sb e3 e1 e2 (Vi (Vi hi))
 ·exact fin b a c q1 q3 hc sb sa sc e2 e1 e3 (Vi (Vi hi'))
 ·exact fin b c a q2 q3 ha sb sc sa e2 e3 e1 (Vi hi)
 ·omega
 ·exact fin c b a q2 q1 ha sc sb sa e3 e2 e1 (Vi hi')
def jMm (n : Nat) (t : ByteArray) : Nat := jPy n t (2 ^ n - 1)
theorem jLi (n : Nat) (t : ByteArray) : jMm n t < 2 ^ n := jG4 _ _
theorem jJp {n : Nat} {t : ByteArray} (o : Ord n (chi n t)) (h1 : n ≤ 7) (p : Nat) : (jMm n t).testBit p = true ↔ outer n (chi n t) p := by
 constructor
 ·intro h
  have hp := jEe (jLi n t) h
  unfold jMm at h
  rw [jD8 t _ h1 hp] at h
  unfold jOg at h
  rw [jAw h1 hp, Bool.true_and, Bool.not_eq_true'] at h
  refine ⟨hp, fun a b c ha hb hc hd hi => ?_⟩
  rw [jG8 o h1 hp ⟨a, b, c, ha, hb, hc, hd, jAw h1 ha, jAw h1 hb, jAw h1 hc, hi⟩] at h
  cases h
 ·intro h
  unfold jMm
  rw [jD8 t _ h1 h.1]
  unfold jOg
  rw [jAw h1 h.1, Bool.true_and, Bool.not_eq_true']
  refine Bool.eq_false_iff.2 fun e => ?_
  obtain ⟨a, b, c, ha, hb, hc, hd, _, _, _, hi⟩ := jEs o h1 h.1 e
  exact h.2 a b c ha hb hc hd hi
theorem jE7 {n : Nat} {t : ByteArray} (o : Ord n (chi n t)) (h0 : 3 ≤ n) (h1 : n ≤ 7) {a k : Nat} (ha : a < n) (hk : k < n) (hak : a ≠ k) : leftV n t k a = 0 ↔ nx n (chi n t) a k := by
 unfold leftV
 rw [List.length_eq_zero_iff, List.filter_eq_nil_iff]
 constructor
 ·intro h
  refine ⟨ha, hk, hak, fun x hx h1' h2 => ?_⟩
  have g := h x (List.mem_range'_1.2 (by omega))
  rw [decide_eq_true_eq] at g
  have s := o.s1 a k x ha hk hx
  rcases o.pm k a x hk ha hx (fun e => hak e.symm) (fun e => h1' e.symm) (fun e => h2 e.symm) with e | e
  ·exact absurd e g
  ·omega
 ·intro h x hx
  rw [List.mem_range'_1] at hx
  rw [decide_eq_true_eq]
  intro e
  by_cases e1 : x = a
  ·subst e1
   rw [(Vq t h0 h1 (show x < 7 by omega) (show k < 7 by omega)).2.2] at e
   omega
  ·by_cases e2 : x = k
   ·subst e2
    rw [(Vq t h0 h1 (show x < 7 by omega) (show a < 7 by omega)).2.1] at e
    omega
   ·have g := h.2.2.2 x (by omega) e1 e2
    have s := o.s1 a k x ha hk (by omega)
    omega
def jDn (n : Nat) (t : ByteArray) : Nat := ((List.range 7).find? fun i => (jMm n t).testBit i).getD 0
def jPv (n : Nat) (t : ByteArray) : List Nat := (List.range 7).filter fun i => (jMm n t).testBit i
section
variable {n : Nat} {t : ByteArray} (ho : Yi n t = true) (h0 : 3 ≤ n) (h1 : n ≤ 7)
include ho h0 h1
theorem jI1 : (List.range 7).find? (fun i => (jMm n t).testBit i) = some (jDn n t) := by
 have hne : jMm n t ≠ 0 := jOm ho h1 (fun p hp => jEe (n := n) (by have : 0 < 2 ^ n := Nat.pow_pos (by omega); omega) hp) (by
  have : 2 ^ 1 ≤ 2 ^ n := Nat.pow_le_pow_right (by omega) (by omega)
  omega)
 unfold jDn
 cases hf : (List.range 7).find? fun i => (jMm n t).testBit i with
 | none =>
  exfalso
  refine hne (Nat.eq_of_testBit_eq fun i => ?_)
  rw [Nat.zero_testBit]
  refine Bool.eq_false_iff.2 fun e => ?_
  exact absurd e (List.find?_eq_none.1 hf i (List.mem_range.2 (by have := jEe (jLi n t) e; omega)))
 | some k => rfl
theorem jGk : outer n (chi n t) (jDn n t) := (jJp (Kh ho) h1 _).1 (List.find?_some (jI1 ho h0 h1))
theorem jHf (x : Nat) : x ∈ jPv n t ↔ outer n (chi n t) x := by
 unfold jPv
 rw [List.mem_filter, List.mem_range, jJp (Kh ho) h1]
 exact ⟨fun h => h.2, fun h => ⟨by have := h.1; omega, h⟩⟩
end
section
variable {n : Nat} {t : ByteArray} (ho : Yi n t = true) (h : Y1 n t = true) (h0 : 3 ≤ n) (h1 : n ≤ 7)
include ho h h0 h1
end
end Go.Proofs.Ytckkfjdkaimmhaa.M
namespace Go.Proofs.Ytckkfjdkaimmhaa.PX
open Go.RowKit Go.Proofs.Ytckkfjdkaimmhaa.G Go.Proofs.YtckkfjdkaimmhaaW.PrintWords Go.Proofs.YtckkfjdkaimmhaaW.PrintLast Go.Proofs.YtckkfjdkaimmhaaW.PrintMore
attribute [local go_sem] max2_int min2_int Yd Yg Xh Xf Xq Xp   -- for this text's walks alone
set_option linter.unusedVariables false
set_option linter.unusedSimpArgs false
end Go.Proofs.Ytckkfjdkaimmhaa.PX
namespace Go.Proofs.Ytckkfjdkaimmhaa.M
open Go.RowKit Go.Proofs.YtckkfjdkaimmhaaW.PrintWords Go.Proofs.Ytckkfjdkaimmhaa.PX Go.Proofs.Ytckkfjdkaimmhaa.G Go.Proofs.YtckkfjdkaimmhaaW.PrintMore
def jMu (n : Int) (t : ByteArray) : Int := if Yi n t = true then (Wn (jPy n.toNat t (2 ^ n.toNat - 1)) : Int) else -1
theorem jEb (n : Int) (t : ByteArray) (hs : t.size ≤ 9223372036854775807) : Ev (fun k => Va.f k n t) (jMu n t) := by
 unfold Va.f jMu
 refine Ev.bind (V9 n t hs) ?_
 by_cases h : Yi n t = true
 ·rw [if_pos h]
  obtain ⟨N, rfl, ho, h0, h1⟩ := Yu h
  simp only [Int.toNat_natCast]
  rw [jAs h1, jG2 h1]
  refine Qm h (Qm (by omega) (Ev.bind (jNa ho (jOi h1)) (Ev.bind (jOv (jO1 t _ h1)) (Y5 (Ev.now _) ?_))))
  rw [jFx]
 ·rw [if_neg h]
  exact Jn h (Ev.now _)
end Go.Proofs.Ytckkfjdkaimmhaa.M
namespace Go.Proofs.Ytckkfjdkaimmhaa.M
open Go.RowKit Go.Proofs.YtckkfjdkaimmhaaW.PrintWords Go.Proofs.Ytckkfjdkaimmhaa.PX
theorem jD6 (l : List Int) (i : Nat) (hi : i ≤ l.length) (y : Int) : (l.take i).contains y = (List.range' 0 (i - 0)).any fun j => decide (y = l.getD j 0) := by
 have e : l.take i = (List.range i).map fun j => l.getD j 0 := by
  refine List.ext_getElem (by rw [List.length_take, List.length_map, List.length_range]; omega) fun k h1 h2 => ?_
  rw [List.length_take] at h1
  simp only [List.getElem_take, List.getElem_map, List.getElem_range]
  rw [List.getD_eq_getElem?_getD, List.getElem?_eq_getElem (by omega)]
  rfl
 rw [e, Nat.sub_zero, ← List.range_eq_range', List.contains_eq_any_beq, List.any_map]
 rfl
theorem jOk {n : Int} (h0 : 3 ≤ n) (h1 : n ≤ 7) (l : List Int) (hl : l.length ≤ 1000000) : Ev (fun k => Jg.f k n l) (jIa n l) := by
 unfold Jg.f
 have key := Vx (σ := Unit) (ρ := Bool) (lo := 0) (n := l.length) (K := fun _ _ => some true) (L := fun i _ k => Jg.l0 k n l i)
  (fun _ i => if (inR n (l.getD i 0) && !((l.take i).contains (l.getD i 0))) = false then .error false else .ok ()) (fun u => ?_) (fun i _ hi u => ?_) (by omega) ()
 ·have e := Yj (ρ := Bool) (fun i => !(inR n (l.getD i 0) && !((l.take i).contains (l.getD i 0)))) false (List.range' 0 (l.length - 0))
  have e2 : (fun (_ : Unit) (a : Nat) => if (!(inR n (l.getD a 0) && !((l.take a).contains (l.getD a 0)))) = true then (.error false : Except Bool Unit) else .ok ()) = fun (_ : Unit) (i : Nat) => if (inR n (l.getD i 0) && !((l.take i).contains (l.getD i 0))) = false then .error false else .ok () := by
   funext _ i
   cases inR n (l.getD i 0) && !((l.take i).contains (l.getD i 0)) <;> rfl
  rw [e2] at e
  rw [e] at key
  have e3 : jIa n l = !((List.range' 0 (l.length - 0)).any fun i => !(inR n (l.getD i 0) && !((l.take i).contains (l.getD i 0)))) := by
   unfold jIa
   rw [Nat.sub_zero, ← List.range_eq_range', List.not_any_eq_all_not]
   simp only [Bool.not_not]
  rw [e3]
  cases hq : (List.range' 0 (l.length - 0)).any fun i => !(inR n (l.getD i 0) && !((l.take i).contains (l.getD i 0))) with
  | true => rw [hq] at key; exact key
  | false => rw [hq] at key; exact key _ (Ev.now _)
 ·refine Goes.step ?_
  simp only [Jg.l0]
  exact Goes.neg (by omega) (Goes.ok (K := fun _ _ => some true) u)
 ·have hr : ∀ j : Nat, rd l (j : Int) = l.getD j 0 := fun j => by unfold rd; rw [Int.toNat_natCast]
  refine Goes.step ?_
  simp only [Jg.l0, hr]
  refine Goes.pos (by omega) (Goes.pos (by omega) (Goes.call (jEo _ _ _) ?_))
  rw [Qp (by omega) (by omega)]
  cases hin : inR n (l.getD i 0) with
  | false =>
   simp only [inR, Bool.and_eq_false_iff, decide_eq_false_iff_not] at hin
   refine Goes.neg ?_ (Goes.ret _)
   simp only [Bool.and_eq_true, decide_eq_true_eq]
   omega
  | true =>
   simp only [inR, Bool.and_eq_true, decide_eq_true_eq] at hin
   refine Goes.pos (by simp only [Bool.and_eq_true, decide_eq_true_eq]; omega) ?_
   rw [Bool.true_and, jD6 l i (by omega)]
   have inner := Vx (σ := Unit) (ρ := Bool) (lo := 0) (n := i) (K := fun _ k => Jg.l0 k n l ((i + 1 : Nat) : Int)) (L := fun j _ k => Jg.l1 k n l (i : Int) j)
    (fun _ j => if decide (l.getD i 0 = l.getD j 0) then .error false else .ok ()) (fun u => ?_) (fun j _ hj u => ?_) (by omega) ()
   ·rw [Yj (ρ := Bool) (fun j => decide (l.getD i 0 = l.getD j 0)) false (List.range' 0 (i - 0))] at inner
    refine Goes.cast inner ?_
    cases (List.range' 0 (i - 0)).any fun j => decide (l.getD i 0 = l.getD j 0) <;> rfl
   ·refine Goes.step ?_
    simp only [Jg.l1]
    refine Goes.neg (by omega) ?_
    rw [Qp (by omega) (by omega)]
    exact Goes.ok (K := fun _ k => Jg.l0 k n l ((i + 1 : Nat) : Int)) u
   ·refine Goes.step ?_
    simp only [Jg.l1, hr]
    refine Goes.pos (by omega) (Goes.pos (by omega) (Goes.pos (by omega) (Goes.pos (by omega) (Goes.pos (by omega) ?_))))
    rw [Qp (by omega) (by omega)]
    by_cases g : l.getD i 0 = l.getD j 0
    ·rw [decide_eq_true g]
     exact Goes.pos g (Goes.ret _)
    ·rw [decide_eq_false g]
     exact Goes.neg g (Goes.ok (K := fun _ k => Jg.l1 k n l (i : Int) ((j + 1 : Nat) : Int)) u)
end Go.Proofs.Ytckkfjdkaimmhaa.M
namespace Go.Proofs.Ytckkfjdkaimmhaa.M
open Go.RowKit Go.Proofs.YtckkfjdkaimmhaaW.PrintWords Go.Proofs.Ytckkfjdkaimmhaa.PX Go.Proofs.Ytckkfjdkaimmhaa.G Go.Proofs.YtckkfjdkaimmhaaW.PrintMore
def jC7 (n : Int) (t : ByteArray) (i j : Int) : Int := if Yi n t = true ∧ jIa n [i, j] = true then (leftV n.toNat t i.toNat j.toNat : Int) else -1
theorem jPl {n i j : Int} (h : jIa n [i, j] = true) : (0 ≤ i ∧ i < n) ∧ (0 ≤ j ∧ j < n) ∧ i ≠ j := by
 simp only [jIa, inR, List.length_cons, List.length_nil, List.all_eq_true, List.mem_range, Bool.and_eq_true, decide_eq_true_eq, Bool.not_eq_true'] at h
 have h0 := h 0 (by omega)
 have h1 := h 1 (by omega)
 refine ⟨h0.1, h1.1, fun e => ?_⟩
 have := h1.2
 subst e
 simp at this
theorem Wj (n : Int) (t : ByteArray) (i j : Int) (hs : t.size ≤ 9223372036854775807) : Ev (fun k => Xe.f k n t i j) (jC7 n t i j) := by
 unfold Xe.f jC7
 refine Ev.bind (jAi n t hs) ?_
 by_cases h : Yi n t = true
 ·rw [if_pos h]
  obtain ⟨N, rfl, ha, h3, h7⟩ := Yu h
  refine Qm rfl (Ev.bind (jFv _ _ (by simp only [List.length_cons, List.length_nil]; omega)) ?_)
  by_cases g : jIa N [i, j] = true
  ·rw [if_pos ⟨h, g⟩]
   obtain ⟨⟨i0, i1⟩, ⟨j0, j1⟩, _⟩ := jPl g
   obtain ⟨I, rfl⟩ := Int.eq_ofNat_of_zero_le i0
   obtain ⟨J, rfl⟩ := Int.eq_ofNat_of_zero_le j0
   exact Qm g (Qm (Vw _ _) (Ev.bind (Ud ha (by omega) (by omega)) (Ev.now _)))
  ·rw [if_neg (fun x => g x.2)]
   exact Jn g (Ev.now _)
 ·rw [if_neg h, if_neg (fun x => h x.1)]
  exact Jn (by decide) (Ev.now _)
theorem jIy (n : Int) (t : ByteArray) (i j : Int) (hs : t.size ≤ 9223372036854775807) : Ev (fun k => Yx.f k n t i j) (jC7 n t i j) := by
 unfold Yx.f jC7
 refine Ev.bind (V9 n t hs) ?_
 by_cases h : Yi n t = true
 ·obtain ⟨N, rfl, ha, h3, h7⟩ := Yu h
  refine Qm h (Ev.bind (jOk (by omega) (by omega) _ (by simp only [List.length_cons, List.length_nil]; omega)) ?_)
  by_cases g : jIa N [i, j] = true
  ·rw [if_pos ⟨h, g⟩]
   obtain ⟨⟨i0, i1⟩, ⟨j0, j1⟩, ne⟩ := jPl g
   obtain ⟨I, rfl⟩ := Int.eq_ofNat_of_zero_le i0
   obtain ⟨J, rfl⟩ := Int.eq_ofNat_of_zero_le j0
   exact Qm g (Ev.bind (Kz ha (by omega) (by omega) (by omega)) (Ev.now _))
  ·rw [if_neg (fun x => g x.2)]
   exact Jn g (Ev.now _)
 ·rw [if_neg (fun x => h x.1)]
  exact Jn h (Ev.now _)
def jCz (n : Nat) (t : ByteArray) (i : Nat) : List Int := (List.range' 0 n).map fun j => if i = j then (0 : Int) else (leftV n t i j : Int)
def Ua (n : Int) (t : ByteArray) : List (List Int) := if Yi n t = true then (List.range' 0 n.toNat).map (jCz n.toNat t) else []
theorem Vn (n : Nat) (t : ByteArray) (i : Nat) : (jCz n t i).length = n := by unfold jCz; rw [List.length_map, List.length_range']
theorem jK6 (n : Nat) (t : ByteArray) (i j : Nat) (hj : j < (jCz n t i).length) : (jCz n t i)[j] = if i = j then (0 : Int) else (leftV n t i j : Int) := by
 simp [jCz]
theorem jAc {α β : Type} (f : α → β) (l : List α) : ∀ s : List β, l.foldl (fun s a => s ++ [f a]) s = s ++ l.map f := by
 induction l with
 | nil => intro s; simp
 | cons x l ih => intro s; rw [List.foldl_cons, ih, List.map_cons, List.append_assoc]; rfl
theorem jFw (l : List Int) (x : Nat) (hx : x < l.length) : l.take (x + 1) = l.take x ++ [l[x]] := by
 rw [List.take_add_one, List.getElem?_eq_getElem hx]
 rfl
theorem jM0 {N : Nat} {t : ByteArray} (ha : Y1 N t = true) (h7 : N ≤ 7) (s : List (List Int)) (i : Nat) (hi : i < N) (d : Nat) : ∀ x : Nat, x + d = N →
  Goes (.ok (jCz N t i)) (fun row k => if s.length < 5864062014805 then Jk.l0 k (Vv N t) (s ++ [row]) ((i + 1 : Nat) : Int) (N : Int) t else none)
   (fun k => Jk.l1 k (Vv N t) s (i : Int) ((jCz N t i).take x ++ List.replicate d 0) (N : Int) (x : Int) (N : Int) t) := by
 induction d with
 | zero =>
  intro x hx
  refine Goes.step ?_
  simp only [Jk.l1]
  refine Goes.neg (by omega) ?_
  rw [Qp (x := (i : Int) + 1) (by omega) (by omega), List.replicate_zero, List.append_nil, List.take_of_length_le (by rw [Vn]; omega)]
  exact Goes.ok (K := fun row k => if s.length < 5864062014805 then Jk.l0 k (Vv N t) (s ++ [row]) ((i + 1 : Nat) : Int) (N : Int) t else none) _
 | succ d ih =>
  intro x hx
  have hl : x < (jCz N t i).length := by rw [Vn]; omega
  have hlen : ((jCz N t i).take x ++ List.replicate (d + 1) 0).length = N := by
   rw [List.length_append, List.length_take, List.length_replicate, Vn]; omega
  have nxt := ih (x + 1) (by omega)
  rw [jFw _ _ hl, jK6, List.append_assoc] at nxt
  refine Goes.step ?_
  simp only [Jk.l1]
  rw [Qp (x := (x : Int) + 1) (by omega) (by omega)]
  refine Goes.pos (by omega) ?_
  by_cases g : i = x
  ·rw [if_pos g] at nxt
   exact Goes.pos (by omega) nxt
  ·rw [if_neg g] at nxt
   refine Goes.neg (by omega) (Goes.pos (Vw _ _) (Goes.ev (Ud ha (by omega) (by omega)) (Goes.pos (by omega) (Goes.pos (by rw [hlen]; omega) ?_))))
   have e : ((jCz N t i).take x ++ List.replicate (d + 1) 0).set (x : Int).toNat (leftV N t i x : Int) = (jCz N t i).take x ++ ([(leftV N t i x : Int)] ++ List.replicate d 0) := by
    rw [Int.toNat_natCast, List.set_append_right _ _ (by rw [List.length_take]; omega), List.length_take, Vn, show x - min x N = 0 by omega, List.replicate_succ, List.set_cons_zero]
    rfl
   rw [e]
   exact nxt
theorem jD0 (n : Int) (t : ByteArray) (hs : t.size ≤ 9223372036854775807) : Ev (fun k => Jk.f k n t) (Ua n t) := by
 unfold Jk.f Ua
 refine Ev.bind (jAi n t hs) ?_
 by_cases h : Yi n t = true
 ·rw [if_pos h, if_pos h]
  obtain ⟨N, rfl, ha, h3, h7⟩ := Yu h
  simp only [Int.toNat_natCast]
  refine Qm (by first | rfl | trivial) ?_
  have key := X7 (σ := List (List Int)) (ρ := List (List Int)) (lo := 0) (n := N) (K := fun s _ => some s) (L := fun x s k => Jk.l0 k (Vv N t) s x (N : Int) t) (fun x s => s.length ≤ x)
   (fun s x => .ok (s ++ [jCz N t x])) (fun s _ => ?_) (fun x _ hx s hl => ?_) (fun x _ hx s hl s' e => ?_) (by omega) [] (Nat.le_refl _)
  ·rw [Xy, jAc, List.nil_append, Nat.sub_zero] at key
   exact key _ (Ev.now _)
  ·refine Goes.step ?_
   simp only [Jk.l0]
   exact Goes.neg (by omega) (Goes.ok (K := fun s _ => some s) s)
  ·refine Goes.step ?_
   simp only [Jk.l0, Int.toNat_natCast]
   refine Goes.pos (by omega) (Goes.pos (by omega) (Goes.pos (by omega) (Goes.call rfl ?_)))
   rw [List.length_replicate]
   have row := jM0 ha h7 s x hx N 0 (by omega)
   rw [List.take_zero, List.nil_append] at row
   exact fun r hr => row r (Qm (by omega) hr)
  ·cases e
   rw [List.length_append, List.length_singleton]
   omega
 ·rw [if_neg h, if_neg h]
  exact Jn (by decide) (Ev.now _)
theorem jIg (n : Int) (t : ByteArray) (hs : t.size ≤ 9223372036854775807) : Ev (fun k => Q7.f k n t) (Ua n t) := by
 unfold Q7.f Ua
 have hA := V9 n t hs
 by_cases h : Yi n t = true
 ·rw [if_pos h]
  rw [h] at hA
  obtain ⟨N, rfl, ha, h3, h7⟩ := Yu h
  simp only [Int.toNat_natCast]
  have key := X7 (σ := List (List Int)) (ρ := List (List Int)) (lo := 0) (n := N) (K := fun s _ => some s) (L := fun x s k => Q7.l0 k s x (N : Int) t) (fun x s => s.length ≤ x)
   (fun s x => .ok (s ++ [jCz N t x])) (fun s _ => ?_) (fun x _ hx s hl => ?_) (fun x _ hx s hl s' e => ?_) (by omega) [] (Nat.le_refl _)
  ·rw [Xy, jAc, List.nil_append, Nat.sub_zero] at key
   exact key _ (Ev.now _)
  ·refine Goes.step ?_
   simp only [Q7.l0]
   refine Goes.neg (by omega) (Goes.step ?_)
   simp only [Q7.j1]
   exact Goes.neg (by decide) (Goes.ok (K := fun s _ => some s) s)
  ·refine Goes.step ?_
   simp only [Q7.l0]
   refine Goes.pos (by omega) (Goes.ev hA (Goes.step ?_))
   simp only [Q7.j1]
   refine Goes.pos (by first | rfl | trivial) ?_
   have row := X7 (σ := List Int) (ρ := List (List Int)) (lo := 0) (n := N) (K := fun (row : List Int) k => if s.length < 5864062014805 then Q7.l0 k (s ++ [row]) ((x + 1 : Nat) : Int) (N : Int) t else none) (L := fun y row k => Q7.l1 k s (x : Int) row y (N : Int) t) (fun y row => row.length ≤ y)
    (fun row y => .ok (row ++ [if x = y then (0 : Int) else (leftV N t x y : Int)])) (fun row _ => ?_) (fun y _ hy row hr => ?_) (fun y _ hy row hr row' e => ?_) (by omega) [] (Nat.le_refl _)
   ·rw [Xy, jAc, List.nil_append, Nat.sub_zero] at row
    exact fun r hr => row r (Qm (by omega) hr)
   ·refine Goes.step ?_
    simp only [Q7.l1]
    rw [Qp (x := (x : Int) + 1) (by omega) (by omega)]
    exact Goes.neg (by omega) (Goes.ok (K := fun (row : List Int) k => if s.length < 5864062014805 then Q7.l0 k (s ++ [row]) ((x + 1 : Nat) : Int) (N : Int) t else none) row)
   ·refine Goes.step ?_
    simp only [Q7.l1]
    rw [Qp (x := (y : Int) + 1) (by omega) (by omega)]
    refine Goes.pos (by omega) ?_
    by_cases g : x = y
    ·rw [if_pos g]
     exact Goes.pos (by omega) (Goes.pos (by omega) (Goes.ok (K := fun row k => Q7.l1 k s (x : Int) row ((y + 1 : Nat) : Int) (N : Int) t) _))
    ·rw [if_neg g]
     exact Goes.neg (by omega) (Goes.ev (Kz ha (by omega) (by omega) g) (Goes.pos (by omega) (Goes.ok (K := fun row k => Q7.l1 k s (x : Int) row ((y + 1 : Nat) : Int) (N : Int) t) _)))
   ·cases e
    rw [List.length_append, List.length_singleton]
    omega
  ·cases e
   rw [List.length_append, List.length_singleton]
   omega
 ·rw [if_neg h]
  rw [Bool.eq_false_iff.2 h] at hA
  refine Ji ?_
  simp only [Q7.l0]
  by_cases g : 0 < n
  ·refine Qm g (Ev.bind hA (Ji ?_))
   simp only [Q7.j1]
   exact Jn (by decide) (Ev.now _)
  ·refine Jn g (Ji ?_)
   simp only [Q7.j1]
   exact Jn (by decide) (Ev.now _)
def jM1 (n : Nat) (t : ByteArray) (i : Nat) (s : List Int) (j : Nat) : List Int := if i = j then s else s.set (leftV n t i j) (wrap64 (rd s (leftV n t i j : Int) + 1))
def jPw (n : Nat) (t : ByteArray) (s : List Int) (i : Nat) : List Int := (List.range' 0 (n - 0)).foldl (jM1 n t i) s
def jBn (n : Int) (t : ByteArray) : List Int := if Yi n t = true then (List.range' 0 (n.toNat - 0)).foldl (jPw n.toNat t) (List.replicate (n.toNat - 1) 0) else []
theorem jAf (n : Nat) (t : ByteArray) (i : Nat) (s : List Int) (j : Nat) : (jM1 n t i s j).length = s.length := by
 unfold jM1
 split
 ·rfl
 ·rw [List.length_set]
theorem jBo {α : Type} (g : List Int → α → List Int) (hg : ∀ s a, (g s a).length = s.length) (l : List α) : ∀ s, (l.foldl g s).length = s.length := by
 induction l with
 | nil => intro s; rfl
 | cons x l ih => intro s; rw [List.foldl_cons, ih, hg]
theorem jAe (n : Nat) (t : ByteArray) (s : List Int) (i : Nat) : (jPw n t s i).length = s.length := jBo _ (jAf n t i) _ s
theorem jGo (n : Int) (t : ByteArray) : (jBn n t).length ≤ 7 := by
 unfold jBn
 by_cases h : Yi n t = true
 ·rw [if_pos h]
  obtain ⟨N, rfl, ha, h3, h7⟩ := Yu h
  rw [jBo _ (fun s a => jAe _ t s a), List.length_replicate]
  omega
 ·rw [if_neg h]
  exact Nat.zero_le _
theorem jJh (n : Int) (t : ByteArray) (hs : t.size ≤ 9223372036854775807) : Ev (fun k => J5.f k n t) (jBn n t) := by
 unfold J5.f jBn
 refine Ev.bind (jHh n t hs) ?_
 by_cases h : Yi n t = true
 ·have hT := jD0 n t hs
  unfold Ua at hT
  rw [if_pos h] at hT
  rw [if_pos h]
  obtain ⟨N, rfl, ha, h3, h7⟩ := Yu h
  simp only [Int.toNat_natCast] at hT ⊢
  rw [Qp (x := (N : Int) - 1) (by omega) (by omega)]
  refine Qm h (Qm (by omega) (Qm (by omega) (Ev.bind hT ?_)))
  generalize hV : (List.range' 0 N).map (jCz N t) = T
  have hl : T.length = N := by rw [← hV, List.length_map, List.length_range']
  have hr : ∀ i : Nat, i < N → Yz T (i : Int) = jCz N t i := by
   intro i hi
   rw [← hV]
   unfold Yz
   rw [Int.toNat_natCast, List.getD_eq_getElem?_getD, List.getElem?_map, List.getElem?_range' (by omega)]
   show jCz N t (0 + 1 * i) = _
   rw [show 0 + 1 * i = i by omega]
  rw [hl, show ((N : Int) - 1).toNat = N - 1 by omega]
  have key := X7 (σ := List Int) (ρ := List Int) (lo := 0) (n := N) (K := fun s _ => some s) (L := fun x s k => J5.l0 k s T (N : Int) x) (fun x s => s.length = N - 1)
   (fun s x => .ok (jPw N t s x)) (fun s _ => ?_) (fun i _ hi s hs' => ?_) (fun x _ hx s hs' s' e => ?_) (by omega) (List.replicate (N - 1) 0) (List.length_replicate ..)
  ·rw [Xy] at key
   exact key _ (Ev.now _)
  ·refine Goes.step ?_
   simp only [J5.l0]
   exact Goes.neg (by omega) (Goes.ok (K := fun s _ => some s) s)
  ·refine Goes.step ?_
   simp only [J5.l0]
   refine Goes.pos (by omega) (Goes.pos (by omega) (Goes.pos (by omega) ?_))
   rw [hr i hi, Vn]
   have row := X7 (σ := List Int) (ρ := List Int) (lo := 0) (n := N) (K := fun s k => J5.l0 k s T (N : Int) ((i + 1 : Nat) : Int)) (L := fun y s k => J5.l1 k s (i : Int) T (N : Int) (i : Int) (jCz N t i) (N : Int) y) (fun y s => s.length = N - 1)
    (fun s y => .ok (jM1 N t i s y)) (fun s _ => ?_) (fun j _ hj s hr' => ?_) (fun y _ hy s hr' s' e => ?_) (by omega) s hs'
   ·rw [Xy] at row
    exact row
   ·refine Goes.step ?_
    simp only [J5.l1]
    rw [Qp (x := (i : Int) + 1) (by omega) (by omega)]
    exact Goes.neg (by omega) (Goes.ok (K := fun s k => J5.l0 k s T (N : Int) ((i + 1 : Nat) : Int)) s)
   ·have hd : rd (jCz N t i) (j : Int) = if i = j then (0 : Int) else (leftV N t i j : Int) := by
     unfold rd
     rw [Int.toNat_natCast, List.getD_eq_getElem?_getD, List.getElem?_eq_getElem (by rw [Vn]; exact hj), Option.getD_some, jK6]
    refine Goes.step ?_
    simp only [J5.l1]
    rw [hd, Qp (x := (j : Int) + 1) (by omega) (by omega)]
    refine Goes.pos (by omega) (Goes.pos (by omega) (Goes.pos (by rw [Vn]; omega) ?_))
    unfold jM1
    by_cases g : i = j
    ·rw [if_pos g]
     exact Goes.pos (by omega) (Goes.ok (K := fun s k => J5.l1 k s (i : Int) T (N : Int) (i : Int) (jCz N t i) (N : Int) ((j + 1 : Nat) : Int)) s)
    ·rw [if_neg g, if_neg g]
     have sm := K4 t h3 h7 hi hj g
     exact Goes.neg (by omega) (Goes.pos (by omega) (Goes.pos (by omega) (Goes.ok (K := fun s k => J5.l1 k s (i : Int) T (N : Int) (i : Int) (jCz N t i) (N : Int) ((j + 1 : Nat) : Int)) _)))
   ·cases e
    rw [jAf]
    exact hr'
  ·cases e
   rw [jAe]
   exact hs'
 ·rw [if_neg h]
  exact Jn h (Ev.now _)
theorem jFe (n : Int) (t : ByteArray) (hs : t.size ≤ 9223372036854775807) : Ev (fun k => Jw.f k n t) (jBn n t) := by
 unfold Jw.f jBn
 refine Ev.bind (V9 n t hs) ?_
 by_cases h : Yi n t = true
 ·rw [if_pos h]
  obtain ⟨N, rfl, ha, h3, h7⟩ := Yu h
  simp only [Int.toNat_natCast]
  rw [Qp (x := (N : Int) - 1) (by omega) (by omega)]
  refine Qm h (Qm (by omega) (Qm (by omega) ?_))
  rw [show ((N : Int) - 1).toNat = N - 1 by omega]
  have key := X7 (σ := List Int) (ρ := List Int) (lo := 0) (n := N) (K := fun s _ => some s) (L := fun x s k => Jw.l0 k s x (N : Int) t) (fun x s => s.length = N - 1)
   (fun s x => .ok (jPw N t s x)) (fun s _ => ?_) (fun i _ hi s hs' => ?_) (fun x _ hx s hs' s' e => ?_) (by omega) (List.replicate (N - 1) 0) (List.length_replicate ..)
  ·rw [Xy] at key
   exact key _ (Ev.now _)
  ·refine Goes.step ?_
   simp only [Jw.l0]
   exact Goes.neg (by omega) (Goes.ok (K := fun s _ => some s) s)
  ·refine Goes.step ?_
   simp only [Jw.l0]
   refine Goes.pos (by omega) ?_
   have row := X7 (σ := List Int) (ρ := List Int) (lo := 0) (n := N) (K := fun s k => Jw.l0 k s ((i + 1 : Nat) : Int) (N : Int) t) (L := fun y s k => Jw.l1 k s (i : Int) y (N : Int) t) (fun y s => s.length = N - 1)
    (fun s y => .ok (jM1 N t i s y)) (fun s _ => ?_) (fun j _ hj s hr' => ?_) (fun y _ hy s hr' s' e => ?_) (by omega) s hs'
   ·rw [Xy] at row
    exact row
   ·refine Goes.step ?_
    simp only [Jw.l1]
    rw [Qp (x := (i : Int) + 1) (by omega) (by omega)]
    exact Goes.neg (by omega) (Goes.ok (K := fun s k => Jw.l0 k s ((i + 1 : Nat) : Int) (N : Int) t) s)
   ·refine Goes.step ?_
    simp only [Jw.l1]
    rw [Qp (x := (j : Int) + 1) (by omega) (by omega)]
    refine Goes.pos (by omega) ?_
    unfold jM1
    by_cases g : i = j
    ·rw [if_pos g]
     exact Goes.pos (by omega) (Goes.ok (K := fun s k => Jw.l1 k s (i : Int) ((j + 1 : Nat) : Int) (N : Int) t) s)
    ·rw [if_neg g]
     have sm := K4 t h3 h7 hi hj g
     exact Goes.neg (by omega) (Goes.ev (Kz ha hi hj g) (Goes.pos (by omega) (Goes.pos (by omega) (Goes.ok (K := fun s k => Jw.l1 k s (i : Int) ((j + 1 : Nat) : Int) (N : Int) t) _))))
   ·cases e
    rw [jAf]
    exact hr'
  ·cases e
   rw [jAe]
   exact hs'
 ·rw [if_neg h]
  exact Jn h (Ev.now _)
def jQw (p q r : Bool) : Bool := (p && !q && !r) || (!p && q && !r) || (!p && !q && r)
def jJ3 (p q r : Bool) : Bool := !(p && q && r)
def jO4 (p q r : Bool) (a b c d : Nat) : Bool :=
 decide ((splitN p q r a b c d).1 < 128) && decide ((splitN p q r a b c d).2 < 128) && decide (0 < (splitN p q r a b c d).1) && decide (Go.bits .and .i64 ((splitN p q r a b c d).1 : Int) ((splitN p q r a b c d).2 : Int) = 0) &&
 decide (Wn (splitN p q r a b c d).1 + Wn (splitN p q r a b c d).2 = 4) && decide (1 ≤ Wn (splitN p q r a b c d).1) && (decide (Wn (splitN p q r a b c d).1 ≤ 3) == jJ3 p q r) && (decide (Wn (splitN p q r a b c d).1 = 2) == jQw p q r) &&
 (!jJ3 p q r || (decide (mx (jA6 (splitN p q r a b c d).1) (jA6 (splitN p q r a b c d).2) < 0) == jQw p q r)) && decide (-1 ≤ mx (jA6 (splitN p q r a b c d).1) (jA6 (splitN p q r a b c d).2)) &&
 decide (splitN p (if p then q else !q) (if p then r else !r) b a c d = if p then splitN p q r a b c d else ((splitN p q r a b c d).2, (splitN p q r a b c d).1))
def jPm : Bool := (List.range 7).all fun a => (List.range 7).all fun b => (List.range 7).all fun c => (List.range 7).all fun d => !Yq a b c d || jEv.all fun p => jEv.all fun q => jEv.all fun r => jO4 p q r a b c d
theorem jHz : jPm = true := by decide +kernel
theorem jIh {a b c d : Nat} (ha : a < 7) (hb : b < 7) (hc : c < 7) (hd : d < 7) (h : Yq a b c d = true) (p q r : Bool) : jO4 p q r a b c d = true := by
 have g := List.all_eq_true.1 jHz a (List.mem_range.2 ha)
 have g := List.all_eq_true.1 g b (List.mem_range.2 hb)
 have g := List.all_eq_true.1 g c (List.mem_range.2 hc)
 have g := List.all_eq_true.1 g d (List.mem_range.2 hd)
 rw [h, Bool.not_true, Bool.false_or] at g
 have g := List.all_eq_true.1 g p (by cases p <;> decide)
 have g := List.all_eq_true.1 g q (by cases q <;> decide)
 exact List.all_eq_true.1 g r (by cases r <;> decide)
def qP (X1 X2 X3 X4 : Int) (k : Bool → Bool → Bool → Bool) : Bool := k (decide (-X1 * X2 > 0)) (decide (X1 * X3 > 0)) (decide (-X1 * X4 > 0))
theorem jPe {X1 X2 X3 X4 : Int} (h1 : X1 = 1 ∨ X1 = -1) (h2 : X2 = 1 ∨ X2 = -1) (h3 : X3 = 1 ∨ X3 = -1) (h4 : X4 = 1 ∨ X4 = -1) (h : ¬ (X2 = -X1 ∧ X3 = X1 ∧ X4 = -X1)) : qP X1 X2 X3 X4 jJ3 = true := by
 rcases h1 with rfl | rfl <;> rcases h2 with rfl | rfl <;> rcases h3 with rfl | rfl <;> rcases h4 with rfl | rfl <;> first | rfl | (exact absurd (by decide) h)
section
variable {n : Nat} {t : ByteArray} (o : Ord n (chi n t)) (h1 : n ≤ 7) {a b c d : Nat} (ha : a < n) (hb : b < n) (hc : c < n) (hd : d < n) (hx : Yq a b c d = true)
include o h1 ha hb hc hd hx
theorem jI5 : qP (chi n t b c d) (chi n t a c d) (chi n t a b d) (chi n t a b c) jJ3 = true := by
 have _ := h1
 obtain ⟨e1, e2, e3, e4, e5, e6⟩ := Q6.1 hx
 exact jPe (o.pm b c d hb hc hd e4 e6 e5) (o.pm a c d ha hc hd e2 e6 e3) (o.pm a b d ha hb hd e1 e5 e3) (o.pm a b c ha hb hc e1 e4 e2) (o.ac a b c d ha hb hc hd hx)
theorem jGt : (splitV n t a b c d).1 < 128 ∧ (splitV n t a b c d).2 < 128 ∧ 0 < (splitV n t a b c d).1 ∧ Go.bits .and .i64 ((splitV n t a b c d).1 : Int) ((splitV n t a b c d).2 : Int) = 0 ∧ Wn (splitV n t a b c d).1 + Wn (splitV n t a b c d).2 = 4 ∧
  1 ≤ Wn (splitV n t a b c d).1 ∧ Wn (splitV n t a b c d).1 ≤ 3 ∧ (K6 n t a b c d < 0 ↔ Wn (splitV n t a b c d).1 = 2) ∧ -1 ≤ K6 n t a b c d ∧ (decide (K6 n t a b c d < 0) = qP (chi n t b c d) (chi n t a c d) (chi n t a b d) (chi n t a b c) jQw) := by
 have g := jIh (show a < 7 by omega) (show b < 7 by omega) (show c < 7 by omega) (show d < 7 by omega) hx (decide (-(chi n t b c d) * chi n t a c d > 0)) (decide (chi n t b c d * chi n t a b d > 0)) (decide (-(chi n t b c d) * chi n t a b c > 0))
 have m : jJ3 (decide (-(chi n t b c d) * chi n t a c d > 0)) (decide (chi n t b c d * chi n t a b d > 0)) (decide (-(chi n t b c d) * chi n t a b c > 0)) = true := jI5 o h1 ha hb hc hd hx
 unfold jO4 at g
 rw [m] at g
 simp only [Bool.and_eq_true, decide_eq_true_eq, beq_iff_eq, Bool.not_true, Bool.false_or] at g
 obtain ⟨⟨⟨⟨⟨⟨⟨⟨⟨⟨g1, g2⟩, g3⟩, g4⟩, g5⟩, g6⟩, g7⟩, g8⟩, g9⟩, g10⟩, _⟩ := g
 refine ⟨g1, g2, g3, g4, g5, g6, g7, ?_, g10, g9⟩
 have e := g9.trans g8.symm
 exact decide_eq_decide.1 e
end
end Go.Proofs.Ytckkfjdkaimmhaa.M
namespace Go.Proofs.Ytckkfjdkaimmhaa.U
structure Uni (n : Nat) (f : Nat → Nat → Nat → Int) : Prop where
 pm : ∀ a b c, a < n → b < n → c < n → a ≠ b → b ≠ c → a ≠ c → f a b c = 1 ∨ f a b c = -1
 s1 : ∀ a b c, a < n → b < n → c < n → f b a c = -f a b c
 s2 : ∀ a b c, a < n → b < n → c < n → f a c b = -f a b c
 gp : ∀ x a b c d, x < n → a < n → b < n → c < n → d < n → a ≠ b → a ≠ c → a ≠ d → b ≠ c → b ≠ d → c ≠ d → x ≠ a → x ≠ b → x ≠ c → x ≠ d → ¬ (f x a b * f x c d = f x a d * f x b c ∧ f x a d * f x b c = -(f x a c) * f x b d)
def Pos (f : Nat → Nat → Nat → Int) (a b c d : Nat) : Prop := f a c d = -(f b c d) ∧ f a b d = f b c d ∧ f a b c = -(f b c d)
def D4 (a b c d : Nat) : Prop := a ≠ b ∧ a ≠ c ∧ a ≠ d ∧ b ≠ c ∧ b ≠ d ∧ c ≠ d
def Acy (n : Nat) (f : Nat → Nat → Nat → Int) : Prop := ∀ a b c d, a < n → b < n → c < n → d < n → D4 a b c d → ¬ Pos f a b c d
section
variable {n : Nat} {f : Nat → Nat → Nat → Int} (o : Uni n f)
include o
theorem Uni.cyc {a b c : Nat} (ha : a < n) (hb : b < n) (hc : c < n) : f b c a = f a b c ∧ f c a b = f a b c := by
 have e1 := o.s1 a b c ha hb hc
 have e2 := o.s2 b a c hb ha hc
 have e3 := o.s2 a b c ha hb hc
 have e4 := o.s1 a c b ha hc hb
 omega
theorem Uni.sw1 {a b c d : Nat} (ha : a < n) (hb : b < n) (hc : c < n) (hd : d < n) (h : Pos f a b c d) : Pos f b a c d := by
 obtain ⟨h1, h2, h3⟩ := h
 have e1 := o.s1 a b d ha hb hd
 have e2 := o.s1 a b c ha hb hc
 exact ⟨by omega, by omega, by omega⟩
theorem Uni.sw2 {a b c d : Nat} (ha : a < n) (hb : b < n) (hc : c < n) (hd : d < n) (h : Pos f a b c d) : Pos f a c b d := by
 obtain ⟨h1, h2, h3⟩ := h
 have e1 := o.s1 b c d hb hc hd
 have e2 := o.s2 a b c ha hb hc
 exact ⟨by omega, by omega, by omega⟩
theorem Uni.sw3 {a b c d : Nat} (ha : a < n) (hb : b < n) (hc : c < n) (hd : d < n) (h : Pos f a b c d) : Pos f a b d c := by
 obtain ⟨h1, h2, h3⟩ := h
 have e1 := o.s2 b c d hb hc hd
 have e2 := o.s2 a c d ha hc hd
 exact ⟨by omega, by omega, by omega⟩
theorem Uni.trans {t s p q r : Nat} (ht : t < n) (hs : s < n) (hp : p < n) (hq : q < n) (hr : r < n) (hd : D4 s p q r) (k1 : t ≠ s) (k2 : t ≠ p) (k3 : t ≠ q) (k4 : t ≠ r)
  (h1 : f t s p = 1) (h2 : f t s q = 1) (h3 : f t s r = 1) (c1 : f t p q = 1) (c2 : f t q r = 1) : f t p r = 1 := by
 obtain ⟨d1, d2, d3, d4, d5, d6⟩ := hd
 rcases o.pm t p r ht hp hr k2 d5 k4 with v | v
 ·exact v
 ·refine absurd ?_ (o.gp t s p q r ht hs hp hq hr d1 d2 d3 d4 d5 d6 k1 k2 k3 k4)
  rw [h1, h2, h3, c1, c2, v]
  decide
theorem Uni.trans' {t s p q r : Nat} (ht : t < n) (hs : s < n) (hp : p < n) (hq : q < n) (hr : r < n) (hd : D4 s p q r) (k1 : t ≠ s) (k2 : t ≠ p) (k3 : t ≠ q) (k4 : t ≠ r)
  (h1 : f t s p = -1) (h2 : f t s q = -1) (h3 : f t s r = -1) (c1 : f t p q = 1) (c2 : f t q r = 1) : f t p r = 1 := by
 obtain ⟨d1, d2, d3, d4, d5, d6⟩ := hd
 rcases o.pm t p r ht hp hr k2 d5 k4 with v | v
 ·exact v
 ·refine absurd ?_ (o.gp t s p q r ht hs hp hq hr d1 d2 d3 d4 d5 d6 k1 k2 k3 k4)
  rw [h1, h2, h3, c1, c2, v]
  decide
theorem Uni.first {p q a b c d : Nat} (hp : p < n) (hq : q < n) (ha : a < n) (hb : b < n) (hc : c < n) (hd : d < n) (x : D4 a b c d) (k : p ≠ q) (ka : p ≠ a) (kb : p ≠ b) (kc : p ≠ c) (kd : p ≠ d) (ja : q ≠ a) (jb : q ≠ b) (jc : q ≠ c) (jd : q ≠ d)
  (h1 : f p q a = 1) (h2 : f p q b = 1) (h3 : f p q c = 1) (h4 : f p q d = 1) :
  (f p a b = 1 ∧ f p a c = 1 ∧ f p a d = 1) ∨ (f p b a = 1 ∧ f p b c = 1 ∧ f p b d = 1) ∨ (f p c a = 1 ∧ f p c b = 1 ∧ f p c d = 1) ∨ (f p d a = 1 ∧ f p d b = 1 ∧ f p d c = 1) := by
 obtain ⟨d1, d2, d3, d4, d5, d6⟩ := x
 have T := fun {x y z : Nat} (hx : x < n) (hy : y < n) (hz : z < n) (e1 : q ≠ x) (e2 : q ≠ y) (e3 : q ≠ z) (e4 : x ≠ y) (e5 : x ≠ z) (e6 : y ≠ z) => o.trans hp hq hx hy hz ⟨e1, e2, e3, e4, e5, e6⟩ k
 have tab := o.s2 p a b hp ha hb
 have tac := o.s2 p a c hp ha hc
 have tad := o.s2 p a d hp ha hd
 have tbc := o.s2 p b c hp hb hc
 have tbd := o.s2 p b d hp hb hd
 have tcd := o.s2 p c d hp hc hd
 have vab := o.pm p a b hp ha hb ka d1 kb
 have vac := o.pm p a c hp ha hc ka d2 kc
 have vad := o.pm p a d hp ha hd ka d3 kd
 have vbc := o.pm p b c hp hb hc kb d4 kc
 have vbd := o.pm p b d hp hb hd kb d5 kd
 have vcd := o.pm p c d hp hc hd kc d6 kd
 have abc := T ha hb hc ja jb jc d1 d2 d4 ka kb kc h1 h2 h3
 have abd := T ha hb hd ja jb jd d1 d3 d5 ka kb kd h1 h2 h4
 have acb := T ha hc hb ja jc jb d2 d1 d4.symm ka kc kb h1 h3 h2
 have acd := T ha hc hd ja jc jd d2 d3 d6 ka kc kd h1 h3 h4
 have bac := T hb ha hc jb ja jc d1.symm d4 d2 kb ka kc h2 h1 h3
 have bad := T hb ha hd jb ja jd d1.symm d5 d3 kb ka kd h2 h1 h4
 have bcd := T hb hc hd jb jc jd d4 d5 d6 kb kc kd h2 h3 h4
 have cad := T hc ha hd jc ja jd d2.symm d6 d3 kc ka kd h3 h1 h4
 have cbd := T hc hb hd jc jb jd d4.symm d6 d5 kc kb kd h3 h2 h4
 have cab := T hc ha hb jc ja jb d2.symm d4.symm d1 kc ka kb h3 h1 h2
 have dca := T hd hc ha jd jc ja d6.symm d3.symm d2.symm kd kc ka h4 h3 h1
 have dcb := T hd hc hb jd jc jb d6.symm d5.symm d4.symm kd kc kb h4 h3 h2
 have dab := T hd ha hb jd ja jb d3.symm d5.symm d1 kd ka kb h4 h1 h2
 have dac := T hd ha hc jd ja jc d3.symm d6.symm d2 kd ka kc h4 h1 h3
 have dba := T hd hb ha jd jb ja d5.symm d3.symm d1.symm kd kb ka h4 h2 h1
 have dbc := T hd hb hc jd jb jc d5.symm d6.symm d4 kd kb kc h4 h2 h3
 clear T
 rcases vab with g1 | g1
 ·rcases vac with g2 | g2
  ·rcases vad with g3 | g3
   ·exact Or.inl ⟨g1, g2, g3⟩
   ·have i1 : f p d a = 1 := by omega
    exact Or.inr (Or.inr (Or.inr ⟨i1, dab i1 g1, dac i1 g2⟩))
  ·have i1 : f p c a = 1 := by omega
   have i2 := cab i1 g1
   rcases vcd with g3 | g3
   ·exact Or.inr (Or.inr (Or.inl ⟨i1, i2, g3⟩))
   ·have i3 : f p d c = 1 := by omega
    exact Or.inr (Or.inr (Or.inr ⟨dca i3 i1, dcb i3 i2, i3⟩))
 ·have i0 : f p b a = 1 := by omega
  rcases vbc with g2 | g2
  ·rcases vbd with g3 | g3
   ·exact Or.inr (Or.inl ⟨i0, g2, g3⟩)
   ·have i1 : f p d b = 1 := by omega
    exact Or.inr (Or.inr (Or.inr ⟨dba i1 i0, i1, dbc i1 g2⟩))
  ·have i1 : f p c b = 1 := by omega
   have cba := o.trans hp hq hc hb ha ⟨jc, jb, ja, d4.symm, d2.symm, d1.symm⟩ k kc kb ka h3 h2 h1 i1 i0
   rcases vcd with g3 | g3
   ·exact Or.inr (Or.inr (Or.inl ⟨cba, i1, g3⟩))
   ·have i3 : f p d c = 1 := by omega
    exact Or.inr (Or.inr (Or.inr ⟨dca i3 cba, dcb i3 i1, i3⟩))
theorem Uni.edge_ac {p q : Nat} (hp : p < n) (hq : q < n) (k : p ≠ q) (h : ∀ x, x < n → x ≠ p → x ≠ q → f p q x = 1) : Acy n f := by
 have P1 : ∀ b c d, b < n → c < n → d < n → D4 p b c d → b = q → ¬ Pos f p b c d := by
  rintro b c d hb hc hd ⟨d1, d2, d3, d4, d5, d6⟩ rfl ⟨g1, g2, g3⟩
  have u := h c hc (by omega) (by omega)
  have v := h d hd (by omega) (by omega)
  omega
 have P2 : ∀ b c d, b < n → c < n → d < n → D4 p b c d → ¬ Pos f p b c d := by
  intro b c d hb hc hd hx hP
  have hx' := hx
  obtain ⟨d1, d2, d3, d4, d5, d6⟩ := hx'
  by_cases e1 : b = q
  ·exact P1 b c d hb hc hd hx e1 hP
  by_cases e2 : c = q
  ·exact P1 c b d hc hb hd ⟨d2, d1, d3, d4.symm, d6, d5⟩ e2 (o.sw2 hp hb hc hd hP)
  by_cases e3 : d = q
  ·exact P1 d b c hd hb hc ⟨d3, d1, d2, d5.symm, d6.symm, d4⟩ e3 (o.sw2 hp hb hd hc (o.sw3 hp hb hc hd hP))
  have u := h b hb (Ne.symm d1) e1
  have v := h c hc (Ne.symm d2) e2
  have w := h d hd (Ne.symm d3) e3
  obtain ⟨g1, g2, g3⟩ := hP
  rcases o.pm b c d hb hc hd d4 d6 d5 with e | e
  ·have t := o.trans hp hq hd hc hb ⟨Ne.symm e3, Ne.symm e2, Ne.symm e1, d6.symm, d5.symm, d4.symm⟩ k d3 d2 d1 w v u (by have := o.s2 p c d hp hc hd; omega) (by have := o.s2 p b c hp hb hc; omega)
   have := o.s2 p b d hp hb hd
   omega
  ·have t := o.trans hp hq hb hc hd ⟨Ne.symm e1, Ne.symm e2, Ne.symm e3, d4, d5, d6⟩ k d1 d2 d3 u v w (by omega) (by omega)
   omega
 have Q2 : ∀ b c d, b < n → c < n → d < n → D4 q b c d → p ≠ b → p ≠ c → p ≠ d → ¬ Pos f q b c d := by
  rintro b c d hb hc hd ⟨d1, d2, d3, d4, d5, d6⟩ e1 e2 e3 ⟨g1, g2, g3⟩
  have u := h b hb (Ne.symm e1) (Ne.symm d1)
  have v := h c hc (Ne.symm e2) (Ne.symm d2)
  have w := h d hd (Ne.symm e3) (Ne.symm d3)
  have u' := o.s1 p q b hp hq hb
  have v' := o.s1 p q c hp hq hc
  have w' := o.s1 p q d hp hq hd
  rcases o.pm b c d hb hc hd d4 d6 d5 with e | e
  ·have t := o.trans' hq hp hd hc hb ⟨e3, e2, e1, d6.symm, d5.symm, d4.symm⟩ (Ne.symm k) d3 d2 d1 (by omega) (by omega) (by omega) (by have := o.s2 q c d hq hc hd; omega) (by have := o.s2 q b c hq hb hc; omega)
   have := o.s2 q b d hq hb hd
   omega
  ·have t := o.trans' hq hp hb hc hd ⟨e1, e2, e3, d4, d5, d6⟩ (Ne.symm k) d1 d2 d3 (by omega) (by omega) (by omega) (by omega) (by omega)
   omega
 have N0 : ∀ a b c d, a < n → b < n → c < n → d < n → D4 a b c d → p ≠ a → p ≠ b → p ≠ c → p ≠ d → f p a b = 1 → f p a c = 1 → f p a d = 1 → ¬ Pos f a b c d := by
  rintro a b c d ha hb hc hd ⟨d1, d2, d3, d4, d5, d6⟩ e1 e2 e3 e4 m1 m2 m3 ⟨g1, g2, g3⟩
  have x1 := o.s1 p a b hp ha hb
  have x2 := o.s1 p a c hp ha hc
  have x3 := o.s1 p a d hp ha hd
  rw [m1] at x1
  rw [m2] at x2
  rw [m3] at x3
  refine o.gp a p b c d ha hp hb hc hd e2 e3 e4 d4 d5 d6 (Ne.symm e1) d1 d2 d3 ?_
  rw [x1, x2, x3]
  omega
 intro a b c d ha hb hc hd hx hP
 have hx' := hx
 obtain ⟨d1, d2, d3, d4, d5, d6⟩ := hx'
 have s2 := o.sw1 ha hb hc hd hP
 have s3 := o.sw1 ha hc hb hd (o.sw2 ha hb hc hd hP)
 have s4 := o.sw1 ha hd hb hc (o.sw2 ha hb hd hc (o.sw3 ha hb hc hd hP))
 have y2 : D4 b a c d := ⟨d1.symm, d4, d5, d2, d3, d6⟩
 have y3 : D4 c a b d := ⟨d2.symm, d4.symm, d6, d1, d3, d5⟩
 have y4 : D4 d a b c := ⟨d3.symm, d5.symm, d6.symm, d1, d2, d4⟩
 by_cases p1 : p = a
 ·subst p1; exact P2 b c d hb hc hd hx hP
 by_cases p2 : p = b
 ·subst p2; exact P2 a c d ha hc hd y2 s2
 by_cases p3 : p = c
 ·subst p3; exact P2 a b d ha hb hd y3 s3
 by_cases p4 : p = d
 ·subst p4; exact P2 a b c ha hb hc y4 s4
 by_cases q1 : q = a
 ·subst q1; exact Q2 b c d hb hc hd hx p2 p3 p4 hP
 by_cases q2 : q = b
 ·subst q2; exact Q2 a c d ha hc hd y2 p1 p3 p4 s2
 by_cases q3 : q = c
 ·subst q3; exact Q2 a b d ha hb hd y3 p1 p2 p4 s3
 by_cases q4 : q = d
 ·subst q4; exact Q2 a b c ha hb hc y4 p1 p2 p3 s4
 rcases o.first hp hq ha hb hc hd hx k p1 p2 p3 p4 q1 q2 q3 q4 (h a ha (Ne.symm p1) (Ne.symm q1)) (h b hb (Ne.symm p2) (Ne.symm q2)) (h c hc (Ne.symm p3) (Ne.symm q3)) (h d hd (Ne.symm p4) (Ne.symm q4)) with ⟨m1, m2, m3⟩ | ⟨m1, m2, m3⟩ | ⟨m1, m2, m3⟩ | ⟨m1, m2, m3⟩
 ·exact N0 a b c d ha hb hc hd hx p1 p2 p3 p4 m1 m2 m3 hP
 ·exact N0 b a c d hb ha hc hd y2 p2 p1 p3 p4 m1 m2 m3 s2
 ·exact N0 c a b d hc ha hb hd y3 p3 p1 p2 p4 m1 m2 m3 s3
 ·exact N0 d a b c hd ha hb hc y4 p4 p1 p2 p3 m1 m2 m3 s4
end
def sg (b : Bool) : Int := if b then -1 else 1
def rv (S : Nat → Bool) (f : Nat → Nat → Nat → Int) (a b c : Nat) : Int := sg (S a) * sg (S b) * sg (S c) * f a b c
theorem jGu (b : Bool) : sg b = 1 ∨ sg b = -1 := by cases b <;> simp [sg]
theorem jR6 (b : Bool) : sg b * sg b = 1 := by cases b <;> rfl
theorem jFi (b : Bool) : sg (!b) = -sg b := by cases b <;> rfl
section
variable {n : Nat} {f : Nat → Nat → Nat → Int} (o : Uni n f)
include o
theorem Uni.rv (S : Nat → Bool) : Uni n (rv S f) := by
 refine ⟨fun a b c ha hb hc d1 d2 d3 => ?_, fun a b c ha hb hc => ?_, fun a b c ha hb hc => ?_, fun x a b c d hx ha hb hc hd d1 d2 d3 d4 d5 d6 k1 k2 k3 k4 => ?_⟩
 ·unfold U.rv
  rcases o.pm a b c ha hb hc d1 d2 d3 with v | v <;> rcases jGu (S a) with x | x <;> rcases jGu (S b) with y | y <;> rcases jGu (S c) with z | z <;> rw [v, x, y, z] <;> decide
 ·unfold U.rv
  rw [o.s1 a b c ha hb hc, Int.mul_comm (sg (S b)), Int.mul_neg]
 ·unfold U.rv
  rw [o.s2 a b c ha hb hc, Int.mul_assoc (sg (S a)), Int.mul_comm (sg (S c)), ← Int.mul_assoc (sg (S a)), Int.mul_neg]
 ·have g := o.gp x a b c d hx ha hb hc hd d1 d2 d3 d4 d5 d6 k1 k2 k3 k4
  have q := jR6 (S x)
  intro h
  refine g ?_
  unfold U.rv at h
  have e1 : sg (S x) * sg (S a) * sg (S b) * f x a b * (sg (S x) * sg (S c) * sg (S d) * f x c d) = (sg (S a) * sg (S b) * sg (S c) * sg (S d)) * (f x a b * f x c d) := by grind
  have e2 : sg (S x) * sg (S a) * sg (S d) * f x a d * (sg (S x) * sg (S b) * sg (S c) * f x b c) = (sg (S a) * sg (S b) * sg (S c) * sg (S d)) * (f x a d * f x b c) := by grind
  have e3 : -(sg (S x) * sg (S a) * sg (S c) * f x a c) * (sg (S x) * sg (S b) * sg (S d) * f x b d) = (sg (S a) * sg (S b) * sg (S c) * sg (S d)) * (-(f x a c) * f x b d) := by grind
  rw [e1, e2, e3] at h
  have K : sg (S a) * sg (S b) * sg (S c) * sg (S d) ≠ 0 := by
   rcases jGu (S a) with x | x <;> rcases jGu (S b) with y | y <;> rcases jGu (S c) with z | z <;> rcases jGu (S d) with w | w <;> rw [x, y, z, w] <;> decide
  exact ⟨Int.eq_of_mul_eq_mul_left K h.1, Int.eq_of_mul_eq_mul_left K h.2⟩
end
theorem jC8 (S : Nat → Bool) (f : Nat → Nat → Nat → Int) (a b c : Nat) : rv (fun k => !S k) f a b c = -rv S f a b c := by
 unfold rv
 rw [jFi, jFi, jFi]
 grind
theorem Acy.not {n : Nat} {S : Nat → Bool} {f : Nat → Nat → Nat → Int} (h : Acy n (rv S f)) : Acy n (rv (fun k => !S k) f) := by
 rintro a b c d ha hb hc hd x ⟨h1, h2, h3⟩
 refine h a b c d ha hb hc hd x ⟨?_, ?_, ?_⟩
 ·rw [jC8, jC8] at h1; omega
 ·rw [jC8, jC8] at h2; omega
 ·rw [jC8, jC8] at h3; omega
section
variable {n : Nat} {f : Nat → Nat → Nat → Int} (o : Uni n f) (ac : Acy n f)
include o ac
theorem jK2 {S : Nat → Bool} (aS : Acy n (rv S f)) {q s p r : Nat} (hq : q < n) (hs : s < n) (hp : p < n) (hr : r < n) (x : D4 q s p r) (e1 : S p = S s) (e2 : S r = S s) (e3 : S q = !S s)
  (h1 : f q s p = 1) (h2 : f q p r = 1) (h3 : f q s r = -1) : False := by
 have x' := x
 obtain ⟨d1, d2, d3, d4, d5, d6⟩ := x'
 rcases o.pm s p r hs hp hr d4 d6 d5 with v | v
 ·refine aS q s p r hq hs hp hr x ⟨?_, ?_, ?_⟩ <;> unfold rv <;> rw [e1, e3] <;> (try rw [e2]) <;> simp only [h1, h2, h3, v, jFi] <;> cases S s <;> decide
 ·exact ac q s p r hq hs hp hr x ⟨by omega, by omega, by omega⟩
omit o ac in
theorem jJn {S : Nat → Bool} (aS : Acy n (rv S f)) {p q r t : Nat} (hp : p < n) (hq : q < n) (hr : r < n) (ht : t < n) (x : D4 p q r t) (e1 : S r = S p) (e2 : S q = !S p) (e3 : S t = !S p)
  (h1 : f q r t = -1) (h2 : f p r t = -1) (h3 : f p q t = -1) (h4 : f p q r = -1) : False := by
 refine aS p q r t hp hq hr ht x ⟨?_, ?_, ?_⟩ <;> unfold rv <;> (try rw [e1]) <;> (try rw [e2]) <;> (try rw [e3]) <;> simp only [h1, h2, h3, h4, jFi] <;> cases S p <;> decide
theorem jPs {S : Nat → Bool} (aS : Acy n (rv S f)) {r : Nat} (hr : r < n) (e : S r = true) (m : Nat) : m ≤ r → (∃ t, t < m ∧ S t = false) → ∃ q, q < m ∧ S q = false ∧ ∀ t, t < m → S t = false → t ≠ q → f r q t = -1 := by
 induction m with
 | zero => rintro _ ⟨t, h, _⟩; omega
 | succ m ih =>
  rintro hm ⟨t0, h0, e0⟩
  by_cases em : S m = false
  ·by_cases g : ∃ t, t < m ∧ S t = false
   ·obtain ⟨q, hq, eq, hall⟩ := ih (by omega) g
    have hqn : q < n := by omega
    have hmn : m < n := by omega
    rcases o.pm r q m hr hqn hmn (by omega) (by omega) (by omega) with v | v
    ·refine ⟨m, by omega, em, fun t ht et hne => ?_⟩
     by_cases hq' : t = q
     ·subst hq'
      rw [o.s2 r t m hr hqn hmn, v]
     ·have htn : t < n := by omega
      have w := hall t (by omega) et hq'
      rcases o.pm r m t hr hmn htn (by omega) (by omega) (by omega) with u | u
      ·exfalso
       exact jK2 o ac aS hr hqn hmn htn ⟨by omega, by omega, by omega, by omega, by omega, by omega⟩ (by rw [em, eq]) (by rw [et, eq]) (by rw [e, eq]; rfl) v u w
      ·exact u
    ·refine ⟨q, by omega, eq, fun t ht et hne => ?_⟩
     by_cases e' : t = m
     ·subst e'; exact v
     ·exact hall t (by omega) et hne
   ·refine ⟨m, by omega, em, fun t ht et hne => absurd ⟨t, by omega, et⟩ g⟩
  ·have hb : ∃ t, t < m ∧ S t = false := ⟨t0, by
    have : t0 ≠ m := fun h => em (h ▸ e0)
    omega, e0⟩
   obtain ⟨q, hq, eq, hall⟩ := ih (by omega) hb
   refine ⟨q, by omega, eq, fun t ht et hne => hall t ?_ et hne⟩
   have : t ≠ m := fun h => em (h ▸ et)
   omega
def jF9 (m : Nat) (S : Nat → Bool) (f : Nat → Nat → Nat → Int) (p q : Nat) : Prop := S p = true ∧ S q = false ∧ ∀ k, k < m → k ≠ p → k ≠ q → f p q k = if S k then 1 else -1
omit o ac in
theorem jF9.left {m : Nat} {S : Nat → Bool} {p q k : Nat} (h : jF9 m S f p q) (hk : k < m) (h1 : k ≠ p) (e : S k = true) : f p q k = 1 := by
 have := h.2.2 k hk h1 (fun e' => by rw [e', h.2.1] at e; cases e)
 rw [e] at this
 exact this
omit o ac in
theorem jF9.right {m : Nat} {S : Nat → Bool} {p q k : Nat} (h : jF9 m S f p q) (hk : k < m) (h1 : k ≠ q) (e : S k = false) : f p q k = -1 := by
 have := h.2.2 k hk (fun e' => by rw [e', h.1] at e; cases e) h1
 rw [e] at this
 exact this
theorem jF2 {S : Nat → Bool} (aS : Acy n (rv S f)) {r : Nat} (hr : r < n) (e : S r = true) (hT : ∃ t, t < r ∧ S t = false) (ih : (∃ s, s < r ∧ S s = true) → ∃ p q, p < r ∧ q < r ∧ jF9 r S f p q) : ∃ p q, p < r + 1 ∧ q < r + 1 ∧ jF9 (r + 1) S f p q := by
 obtain ⟨q', hq', eq', hall⟩ := jPs o ac aS hr e r (Nat.le_refl _) hT
 have hq'n : q' < n := by omega
 -- it is enough that the set lies to the left of r and q'
 have fin : (∀ s, s < r → S s = true → f r q' s = 1) → ∃ p q, p < r + 1 ∧ q < r + 1 ∧ jF9 (r + 1) S f p q := by
  intro hs
  refine ⟨r, q', by omega, by omega, e, eq', fun k hk h1 h2 => ?_⟩
  cases ek : S k with
  | true => exact hs k (by omega) ek
  | false => exact hall k (by omega) ek h2
 by_cases g : ∃ s, s < r ∧ S s = true
 ·obtain ⟨p, q, hp, hq, hc⟩ := ih g
  have hpn : p < n := by omega
  have hqn : q < n := by omega
  have ep := hc.1
  have eq := hc.2.1
  have hpq : p ≠ q := fun h => by rw [h, eq] at ep; cases ep
  rcases o.pm p q r hpn hqn hr hpq (by omega) (by omega) with v | v
  ·refine ⟨p, q, by omega, by omega, ep, eq, fun k hk h1 h2 => ?_⟩
   by_cases ek : k = r
   ·subst ek; rw [e]; exact v
   ·exact hc.2.2 k (by omega) h1 h2
  ·refine fin fun s hs es => ?_
   have hsn : s < n := by omega
   have c1 := o.cyc hpn hqn hr
   have sq : s ≠ q := fun h => by rw [h, eq] at es; cases es
   have sq' : s ≠ q' := fun h => by rw [h, eq'] at es; cases es
   have pq' : p ≠ q' := fun h => by rw [h, eq'] at ep; cases ep
   -- around q
   have R : s ≠ p → f q s r = 1 := by
    intro sp
    have u := hc.left hs sp es
    have c2 := o.cyc hpn hqn hsn
    have c3 := o.s2 q r p hqn hr hpn
    rcases o.pm q s r hqn hsn hr (Ne.symm sq) (by omega) (by omega) with w | w
    ·exact w
    ·exact (jK2 o ac aS hqn hsn hpn hr ⟨by omega, by omega, by omega, by omega, by omega, by omega⟩ (by rw [ep, es]) (by rw [e, es]) (by rw [eq, es]; rfl) (by omega) (by omega) w).elim
   by_cases eqq : q' = q
   ·subst eqq
    by_cases sp : s = p
    ·subst sp
     have := o.s1 r q' s hr hqn hsn
     have := o.cyc hqn hr hsn
     have := o.cyc hsn hqn hr
     have := o.s2 q' r s hqn hr hsn
     omega
    ·have := R sp
     have := o.cyc hr hqn hsn
     have := o.cyc hqn hsn hr
     omega
   ·have v1 := hall q hq eq (Ne.symm eqq)
    have w1 := hc.right hq' eqq eq'
    have cr := o.cyc hr hq'n hqn
    have cq := o.cyc hqn hr hq'n
    have P0 : f r q' p = 1 := by
     rcases o.pm r q' p hr hq'n hpn (by omega) (by omega) (by omega) with w | w
     ·exact w
     ·have z1 := o.cyc hr hq'n hpn
      exact (jJn aS hpn hqn hr hq'n ⟨by omega, by omega, by omega, by omega, by omega, by omega⟩ (by rw [e, ep]) (by rw [eq, ep]; rfl) (by rw [eq', ep]; rfl) (by omega) (by omega) w1 v).elim
    by_cases sp : s = p
    ·subst sp; exact P0
    ·have w2 := R sp
     have w3 := hc.left hs sp es
     rcases o.pm r q' s hr hq'n hsn (by omega) (by omega) (by omega) with w | w
     ·exact w
     ·exfalso
      have z1 := o.cyc hr hq'n hsn
      have z2 := o.cyc hqn hsn hr
      have z3 := o.s2 s q r hsn hqn hr
      have z4 := o.s1 s q r hsn hqn hr
      have z5 := o.cyc hqn hr hsn
      have z6 := o.s2 q s r hqn hsn hr
      rcases o.pm s q q' hsn hqn hq'n sq (Ne.symm eqq) sq' with y | y
      ·have y1 := o.cyc hr hq'n hpn
       have y2 := o.s2 q' s r hq'n hsn hr
       rcases o.pm q' p s hq'n hpn hsn (Ne.symm pq') (Ne.symm sp) (Ne.symm sq') with u | u
       ·have y3 := o.cyc hq'n hpn hsn
        have y4 := o.s1 s q q' hsn hqn hq'n
        exact ac p q s q' hpn hqn hsn hq'n ⟨by omega, by omega, by omega, by omega, by omega, by omega⟩ ⟨by omega, by omega, by omega⟩
       ·exact jK2 o ac aS hq'n hpn hr hsn ⟨by omega, by omega, by omega, by omega, by omega, by omega⟩ (by rw [e, ep]) (by rw [es, ep]) (by rw [eq', ep]; rfl) (by omega) (by omega) u
      ·exact jJn aS hsn hqn hr hq'n ⟨by omega, by omega, by omega, by omega, by omega, by omega⟩ (by rw [e, es]) (by rw [eq, es]; rfl) (by rw [eq', es]; rfl) (by omega) (by omega) y (by omega)
 ·exact fin fun s hs es => absurd ⟨s, hs, es⟩ g
omit ac in
theorem jMf {m : Nat} {S : Nat → Bool} {p q : Nat} (hm : m ≤ n) (hp : p < m) (hq : q < m) (h : jF9 m (fun k => !S k) f p q) : jF9 m S f q p := by
 obtain ⟨h1, h2, h3⟩ := h
 refine ⟨by simpa using h2, by simpa using h1, fun k hk k1 k2 => ?_⟩
 have := h3 k hk k2 k1
 rw [o.s1 p q k (by omega) (by omega) (by omega), this]
 cases e : S k <;> simp [e]
theorem jIm (m : Nat) : ∀ {S : Nat → Bool}, Acy n (rv S f) → m ≤ n → (∃ s, s < m ∧ S s = true) → (∃ t, t < m ∧ S t = false) → ∃ p q, p < m ∧ q < m ∧ jF9 m S f p q := by
 induction m with
 | zero => rintro S _ _ ⟨s, h, _⟩; omega
 | succ m ih =>
  intro S aS hm hS hT
  cases e : S m with
  | true =>
   obtain ⟨t, ht, et⟩ := hT
   have htm : t < m := by
    have : t ≠ m := fun h => by rw [h, e] at et; cases et
    omega
   exact jF2 o ac aS (by omega) e ⟨t, htm, et⟩ fun g => ih aS (by omega) g ⟨t, htm, et⟩
  | false =>
   obtain ⟨s, hs, es⟩ := hS
   have hsm : s < m := by
    have : s ≠ m := fun h => by rw [h, e] at es; cases es
    omega
   obtain ⟨p, q, hp, hq, hc⟩ := jF2 o ac (S := fun k => !S k) aS.not (r := m) (by omega) (by rw [e]; rfl) ⟨s, hsm, by rw [es]; rfl⟩ fun g => ih aS.not (by omega) g ⟨s, hsm, by rw [es]; rfl⟩
   exact ⟨q, p, hq, hp, jMf o hm hp hq hc⟩
theorem jMx {S : Nat → Bool} {p q p' q' : Nat} (hp : p < n) (hq : q < n) (hp' : p' < n) (hq' : q' < n) (h : jF9 n S f p q) (h' : jF9 n S f p' q') : p = p' ∧ q = q' := by
 have n1 : ∀ {a b : Nat}, S a = true → S b = false → a ≠ b := fun ha hb e => by rw [e, hb] at ha; cases ha
 have e1 := n1 h.1 h.2.1
 have e2 := n1 h.1 h'.2.1
 have e3 := n1 h'.1 h.2.1
 have e4 := n1 h'.1 h'.2.1
 by_cases a : p = p'
 ·subst a
  refine ⟨rfl, Classical.byContradiction fun b => ?_⟩
  have u := h.right hq' (Ne.symm b) h'.2.1
  have v := h'.right hq b h.2.1
  have := o.s2 p q q' hp hq hq'
  omega
 ·exfalso
  by_cases b : q = q'
  ·subst b
   have u := h.left hp' (Ne.symm a) h'.1
   have v := h'.left hp a h.1
   have := o.cyc hp hq hp'
   have := o.s2 q p p' hq hp hp'
   have := o.s1 p' q p hp' hq hp
   omega
  ·have u := h.left hp' (Ne.symm a) h'.1
   have v := h.right hq' (Ne.symm b) h'.2.1
   have u' := h'.left hp a h.1
   have v' := h'.right hq b h.2.1
   have c1 := o.cyc hp' hq' hp
   have c2 := o.cyc hp' hq' hq
   exact ac p q p' q' hp hq hp' hq' ⟨e1, a, e2, e3.symm, b, e4⟩ ⟨by omega, by omega, by omega⟩
end
section
variable {n : Nat} {f : Nat → Nat → Nat → Int} (o : Uni n f)
include o
def jCx (f : Nat → Nat → Nat → Int) (p q k : Nat) : Bool := decide (k = p) || (decide (k ≠ q) && decide (f p q k = 1))
theorem jCa {p q : Nat} (hp : p < n) (hq : q < n) (hpq : p ≠ q) : jF9 n (jCx f p q) f p q := by
 refine ⟨by simp [jCx], by simp [jCx, Ne.symm hpq], fun k hk h1 h2 => ?_⟩
 rcases o.pm p q k hp hq hk hpq (Ne.symm h2) (Ne.symm h1) with v | v
 ·simp [jCx, h1, h2, v]
 ·simp [jCx, h1, v]
theorem jL9 {S : Nat → Bool} {p q : Nat} (hp : p < n) (hq : q < n) (hpq : p ≠ q) (h : jF9 n S f p q) : Acy n (rv S f) := by
 refine (o.rv S).edge_ac hp hq hpq fun k hk h1 h2 => ?_
 have := h.2.2 k hk h1 h2
 unfold U.rv
 rw [this, h.1, h.2.1]
 cases S k <;> rfl
omit o in
theorem jOp {S : Nat → Bool} {p q k : Nat} (hp : p < n) (hq : q < n) (hk : k < n) (hpq : p ≠ q) (h : jF9 n S f p q) : jCx f p q k = S k := by
 by_cases e1 : k = p
 ·subst e1; rw [h.1]; simp [jCx]
 by_cases e2 : k = q
 ·subst e2; rw [h.2.1]; simp [jCx, e1]
 have := h.2.2 k hk e1 e2
 cases e : S k with
 | true => rw [e] at this; simp [jCx, e2, this]
 | false => rw [e] at this; simp [jCx, e1, this]
end
/-! ### Sets as numbers -/
def num : Nat → (Nat → Bool) → Nat
 | 0, _ => 0
 | m + 1, P => num m P + if P m then 2 ^ m else 0
theorem jK8 (m : Nat) (P : Nat → Bool) : num m P < 2 ^ m := by
 induction m with
 | zero => exact Nat.one_pos
 | succ m ih =>
  rw [num, Nat.pow_succ]
  split <;> omega
theorem jBl (m : Nat) (P : Nat → Bool) (k : Nat) : (num m P).testBit k = (decide (k < m) && P k) := by
 induction m with
 | zero => simp [num]
 | succ m ih =>
  rw [num]
  have hl := jK8 m P
  cases e : P m with
  | true =>
   rw [if_pos rfl, Nat.add_comm]
   by_cases h : k = m
   ·subst h
    rw [Nat.testBit_two_pow_add_eq, Nat.testBit_lt_two_pow hl]
    simp [e]
   ·by_cases h' : k < m
    ·rw [Nat.testBit_two_pow_add_gt h', ih]
     simp [h', Nat.lt_succ_of_lt h']
    ·rw [Nat.testBit_lt_two_pow]
     ·simp; omega
     ·have : 2 ^ (m + 1) ≤ 2 ^ k := Nat.pow_le_pow_right (by omega) (by omega)
      rw [Nat.pow_succ] at this
      omega
  | false =>
   rw [if_neg (by decide), Nat.add_zero, ih]
   by_cases h : k = m
   ·subst h; simp [e]
   ·by_cases h' : k < m
    ·simp [h', Nat.lt_succ_of_lt h']
    ·simp [h']; omega
theorem jJ2 {m : Nat} {P Q : Nat → Bool} (h : ∀ k, k < m → P k = Q k) : num m P = num m Q := by
 induction m with
 | zero => rfl
 | succ m ih => rw [num, num, ih fun k hk => h k (by omega), h m (by omega)]
theorem jJ9 {m s : Nat} (h : s < 2 ^ m) : num m s.testBit = s := by
 refine Nat.eq_of_testBit_eq fun k => ?_
 rw [jBl]
 by_cases hk : k < m
 ·simp [hk]
 ·have : s < 2 ^ k := Nat.lt_of_lt_of_le h (Nat.pow_le_pow_right (by omega) (by omega))
  rw [Nat.testBit_lt_two_pow this, Bool.and_false]
def bits (m s : Nat) : Nat := ((List.range m).filter s.testBit).length
def prs (n : Nat) : List (Nat × Nat) := (List.range n).flatMap fun p => ((List.range n).filter (fun q => decide (q ≠ p))).map fun q => (p, q)
theorem U0 {n p q : Nat} : (p, q) ∈ prs n ↔ p < n ∧ q < n ∧ q ≠ p := by
 simp only [prs, List.mem_flatMap, List.mem_map, List.mem_filter, List.mem_range, decide_eq_true_eq, Prod.mk.injEq]
 constructor
 ·rintro ⟨a, ha, b, ⟨hb, hne⟩, rfl, rfl⟩
  exact ⟨ha, hb, hne⟩
 ·rintro ⟨hp, hq, hne⟩
  exact ⟨p, hp, q, ⟨hq, hne⟩, rfl, rfl⟩
theorem jE8 (n : Nat) : (prs n).Nodup := by
 unfold prs
 rw [List.Nodup, List.pairwise_flatMap]
 refine ⟨fun p hp => ?_, ?_⟩
 ·rw [List.pairwise_map]
  have hn : List.Pairwise (· ≠ ·) ((List.range n).filter fun q => decide (q ≠ p)) := List.Pairwise.filter _ List.nodup_range
  exact hn.imp fun {a b} h e => h (Prod.mk.inj e).2
 ·refine List.Pairwise.imp (R := (· ≠ ·)) (fun h x hx y hy e => ?_) List.nodup_range
  subst e
  simp only [List.mem_map] at hx hy
  obtain ⟨u, _, rfl⟩ := hx
  obtain ⟨v, _, e⟩ := hy
  cases e
  exact h rfl
theorem jLy {n : Nat} {f : Nat → Nat → Nat → Int} {p q : Nat} (hp : p < n) (_ : q < n) (hpq : q ≠ p) :
  bits n (num n (jCx f p q)) = ((List.range n).filter fun k => decide (k ≠ p) && decide (k ≠ q) && decide (f p q k = 1)).length + 1 := by
 unfold bits
 have e : (List.range n).filter (num n (jCx f p q)).testBit = (List.range n).filter (fun k => decide (k = p) || (decide (k ≠ p) && decide (k ≠ q) && decide (f p q k = 1))) := by
  refine List.filter_congr fun k hk => ?_
  rw [jBl, decide_eq_true (List.mem_range.1 hk), Bool.true_and, jCx]
  by_cases h : k = p <;> simp [h]
 rw [e]
 generalize hg : (fun k => decide (k ≠ p) && decide (k ≠ q) && decide (f p q k = 1)) = g
 have gp : g p = false := by rw [← hg]; simp
 have key : ∀ m, ((List.range m).filter fun k => decide (k = p) || g k).length = ((List.range m).filter g).length + if p < m then 1 else 0 := by
  intro m
  induction m with
  | zero => simp
  | succ m ih =>
   rw [List.range_succ, List.filter_append, List.filter_append, List.length_append, List.length_append, ih]
   by_cases h : m = p
   ·subst h
    simp [gp]
   ·by_cases h' : p < m
    ·simp [h, h', Nat.lt_succ_of_lt h', List.filter_cons]; omega
    ·have : ¬ p < m + 1 := by omega
     simp [h, h', this, List.filter_cons]
 rw [← hg] at key ⊢
 rw [key n, if_pos hp]
theorem jIc {n : Nat} {f : Nat → Nat → Nat → Int} (o : Uni n f) (ac : Acy n f) {ab : Nat → Bool} (hab : ∀ s, s < 2 ^ n → (ab s = true ↔ Acy n (rv s.testBit f))) :
  ((List.range (2 ^ n)).filter fun s => ab s && decide (s ≠ 0) && decide (s ≠ 2 ^ n - 1)).Perm ((prs n).map fun x => num n (jCx f x.1 x.2)) := by
 refine (List.perm_ext_iff_of_nodup (List.Pairwise.filter _ List.nodup_range) ?_).2 fun s => ?_
 ·rw [List.Nodup, List.pairwise_map]
  refine List.Pairwise.imp_of_mem (R := (· ≠ ·)) (fun {x y} hx hy h e => h ?_) (jE8 n)
  obtain ⟨p, q⟩ := x
  obtain ⟨p', q'⟩ := y
  obtain ⟨hp, hq, hpq⟩ := U0.1 hx
  obtain ⟨hp', hq', hpq'⟩ := U0.1 hy
  have c := jCa o hp hq (Ne.symm hpq)
  have c' := jCa o hp' hq' (Ne.symm hpq')
  have same : ∀ k, k < n → jCx f p q k = jCx f p' q' k := by
   intro k hk
   have := congrArg (fun s => Nat.testBit s k) e
   simpa [jBl, hk] using this
  have c2 : jF9 n (jCx f p q) f p' q' := ⟨by rw [same p' hp']; exact c'.1, by rw [same q' hq']; exact c'.2.1, fun k hk h1 h2 => by rw [same k hk]; exact c'.2.2 k hk h1 h2⟩
  obtain ⟨rfl, rfl⟩ := jMx o ac hp hq hp' hq' c c2
  rfl
 ·simp only [List.mem_filter, List.mem_range, Bool.and_eq_true, decide_eq_true_eq, List.mem_map]
  constructor
  ·rintro ⟨hs, ⟨h, h0⟩, h1⟩
   have aS := (hab s hs).1 h
   have hS : ∃ k, k < n ∧ s.testBit k = true := by
    refine Classical.byContradiction fun hn => h0 ?_
    rw [← jJ9 hs]
    have : ∀ m, m ≤ n → num m s.testBit = 0 := by
     intro m
     induction m with
     | zero => intro _; rfl
     | succ m ih =>
      intro hm
      rw [num, ih (by omega), if_neg fun hb => hn ⟨m, by omega, hb⟩]
    exact this n (Nat.le_refl _)
   have hT : ∃ k, k < n ∧ s.testBit k = false := by
    refine Classical.byContradiction fun hn => h1 ?_
    rw [← jJ9 hs]
    have : ∀ m, m ≤ n → num m s.testBit = 2 ^ m - 1 := by
     intro m
     induction m with
     | zero => intro _; rfl
     | succ m ih =>
      intro hm
      have hb : s.testBit m = true := by
       cases e : s.testBit m with
       | true => rfl
       | false => exact absurd ⟨m, by omega, e⟩ hn
      have := Nat.one_le_two_pow (n := m)
      rw [num, ih (by omega), if_pos hb, Nat.pow_succ]
      omega
    exact this n (Nat.le_refl _)
   obtain ⟨p, q, hp, hq, hc⟩ := jIm o ac n aS (Nat.le_refl _) hS hT
   have hpq : q ≠ p := fun e => by
    have := hc.1
    rw [← e, hc.2.1] at this
    cases this
   refine ⟨(p, q), U0.2 ⟨hp, hq, hpq⟩, ?_⟩
   rw [← jJ9 hs]
   exact jJ2 fun k hk => jOp hp hq hk (Ne.symm hpq) hc
  ·rintro ⟨⟨p, q⟩, hx, rfl⟩
   obtain ⟨hp, hq, hpq⟩ := U0.1 hx
   have c := jCa o hp hq (Ne.symm hpq)
   have hl := jK8 n (jCx f p q)
   have bp : (num n (jCx f p q)).testBit p = true := by rw [jBl, c.1]; simp [hp]
   have bq : (num n (jCx f p q)).testBit q = false := by rw [jBl, c.2.1]; simp
   refine ⟨hl, ⟨(hab _ hl).2 ?_, fun e => ?_⟩, fun e => ?_⟩
   ·refine jL9 o hp hq (Ne.symm hpq) ⟨bp, bq, fun k hk h1 h2 => ?_⟩
    rw [jBl, decide_eq_true hk, Bool.true_and]
    exact c.2.2 k hk h1 h2
   ·have e' : num n (jCx f p q) = 0 := e
    rw [e', Nat.zero_testBit] at bp
    cases bp
   ·have e' : num n (jCx f p q) = 2 ^ n - 1 := e
    rw [e', Nat.testBit_two_pow_sub_one, decide_eq_true hq] at bq
    cases bq
theorem jDh {n : Nat} (h : n ≤ 7) : (prs n).length = n * (n - 1) := by
 have : ∀ i : Fin 8, (prs i.val).length = i.val * (i.val - 1) := by decide +kernel
 exact this ⟨n, by omega⟩
end Go.Proofs.Ytckkfjdkaimmhaa.U
namespace Go.Proofs.Ytckkfjdkaimmhaa.M
open Go.RowKit Go.Proofs.YtckkfjdkaimmhaaW.PrintWords Go.Proofs.Ytckkfjdkaimmhaa.PX Go.Proofs.Ytckkfjdkaimmhaa.G Go.Proofs.YtckkfjdkaimmhaaW.PrintMore
open Go.Proofs.Ytckkfjdkaimmhaa.U (Uni Acy Pos D4 rv sg prs)
/-! ### a set can be cut off if turning it leaves no circuit of one sign -/
def jPd (x1 x2 x3 x4 : Bool) : Bool := !((x2 != x1) && (x3 == x1) && (x4 != x1))
def jRi (sa sb sc sd x1 x2 x3 x4 : Bool) : Bool := decide (sg sa * sg sc * sg sd * sg x2 = -(sg sb * sg sc * sg sd * sg x1)) && decide (sg sa * sg sb * sg sd * sg x3 = sg sb * sg sc * sg sd * sg x1) && decide (sg sa * sg sb * sg sc * sg x4 = -(sg sb * sg sc * sg sd * sg x1))
def jLk (y1 y2 y3 : Int) : Bool := decide (y1 = y2) && decide (y2 = y3)
def jRc (a b c d : Bool) : Bool := (a && b && !c && !d) || (c && d && !a && !b)
def jRu (sa sb sc sd x1 x2 x3 x4 : Bool) : Bool :=
  ((decide (-(sg x1) * sg x2 > 0) && !decide (sg x1 * sg x3 > 0) && !decide (-(sg x1) * sg x4 > 0)) && jRc sa sb sc sd) || ((decide (sg x1 * sg x3 > 0) && !decide (-(sg x1) * sg x2 > 0) && !decide (-(sg x1) * sg x4 > 0)) && jRc sa sc sb sd) ||
    ((decide (-(sg x1) * sg x4 > 0) && !decide (-(sg x1) * sg x2 > 0) && !decide (sg x1 * sg x3 > 0)) && jRc sa sd sb sc)
def jP8 : Bool := jEv.all fun sa => jEv.all fun sb => jEv.all fun sc => jEv.all fun sd => jEv.all fun x1 => jEv.all fun x2 => jEv.all fun x3 => jEv.all fun x4 => !jPd x1 x2 x3 x4 || (jRi sa sb sc sd x1 x2 x3 x4 ==
  ((sb == sc && sc == sd && sb != sa && jLk (sg x4) (sg x2) (-(sg x3))) || (sa == sc && sc == sd && sa != sb && jLk (-(sg x4)) (sg x1) (sg x3)) || (sa == sb && sb == sd && sa != sc && jLk (sg x4) (-(sg x1)) (sg x2)) || (sa == sb && sb == sc && sa != sd && jLk (sg x3) (sg x1) (-(sg x2))) || jRu sa sb sc sd x1 x2 x3 x4))
theorem jJx : jP8 = true := by decide +kernel
theorem jMb {v : Int} (h : v = 1 ∨ v = -1) : ∃ b, v = sg b := by
  rcases h with rfl | rfl
  · exact ⟨false, rfl⟩
  · exact ⟨true, rfl⟩
theorem jPb {sa sb sc sd x1 x2 x3 x4 : Bool} (h : jPd x1 x2 x3 x4 = true) : jRi sa sb sc sd x1 x2 x3 x4 =
  ((sb == sc && sc == sd && sb != sa && jLk (sg x4) (sg x2) (-(sg x3))) || (sa == sc && sc == sd && sa != sb && jLk (-(sg x4)) (sg x1) (sg x3)) || (sa == sb && sb == sd && sa != sc && jLk (sg x4) (-(sg x1)) (sg x2)) || (sa == sb && sb == sc && sa != sd && jLk (sg x3) (sg x1) (-(sg x2))) || jRu sa sb sc sd x1 x2 x3 x4) := by
  have g := List.all_eq_true.1 jJx sa (V6 _)
  have g := List.all_eq_true.1 g sb (V6 _)
  have g := List.all_eq_true.1 g sc (V6 _)
  have g := List.all_eq_true.1 g sd (V6 _)
  have g := List.all_eq_true.1 g x1 (V6 _)
  have g := List.all_eq_true.1 g x2 (V6 _)
  have g := List.all_eq_true.1 g x3 (V6 _)
  have g := List.all_eq_true.1 g x4 (V6 _)
  rw [h, Bool.not_true, Bool.false_or, beq_iff_eq] at g
  exact g
theorem U9 {n : Nat} {f : Nat → Nat → Nat → Int} (o : Ord n f) : Uni n f :=
  ⟨o.pm, o.s1, o.s2, fun x a b c d hx ha hb hc hd d1 d2 d3 d4 d5 d6 => o.gp x a b c d hx ha hb hc hd (Q6.2 ⟨d1, d2, d3, d4, d5, d6⟩)⟩
theorem jN9 {n : Nat} {f : Nat → Nat → Nat → Int} (o : Ord n f) : Acy n f :=
  fun a b c d ha hb hc hd ⟨d1, d2, d3, d4, d5, d6⟩ => o.ac a b c d ha hb hc hd (Q6.2 ⟨d1, d2, d3, d4, d5, d6⟩)
section
variable {n : Nat} {t : ByteArray} (o : Ord n (chi n t))
include o
theorem jI6 (S : Nat → Bool) {a b c d : Nat} (ha : a < n) (hb : b < n) (hc : c < n) (hd : d < n) (hx : Yq a b c d = true) : ∃ x1 x2 x3 x4, chi n t b c d = sg x1 ∧ chi n t a c d = sg x2 ∧ chi n t a b d = sg x3 ∧ chi n t a b c = sg x4 ∧ jPd x1 x2 x3 x4 = true ∧ (Pos (rv S (chi n t)) a b c d ↔ jRi (S a) (S b) (S c) (S d) x1 x2 x3 x4 = true) := by
  obtain ⟨d1, d2, d3, d4, d5, d6⟩ := Q6.1 hx
  obtain ⟨x1, e1⟩ := jMb (o.pm b c d hb hc hd d4 d6 d5)
  obtain ⟨x2, e2⟩ := jMb (o.pm a c d ha hc hd d2 d6 d3)
  obtain ⟨x3, e3⟩ := jMb (o.pm a b d ha hb hd d1 d5 d3)
  obtain ⟨x4, e4⟩ := jMb (o.pm a b c ha hb hc d1 d4 d2)
  have ac := o.ac a b c d ha hb hc hd hx
  refine ⟨x1, x2, x3, x4, e1, e2, e3, e4, ?_, ?_⟩
  · rw [e1, e2, e3, e4] at ac
    revert ac
    cases x1 <;> cases x2 <;> cases x3 <;> cases x4 <;> decide
  · unfold Pos rv jRi
    rw [e1, e2, e3, e4]
    simp only [Bool.and_eq_true, decide_eq_true_eq, and_assoc]
theorem jKf {p a b c : Nat} {y1 y2 y3 : Int} (h1 : chi n t p a b = y1) (h2 : chi n t p b c = y2) (h3 : chi n t p c a = y3) : jLk y1 y2 y3 = true ↔ ins (chi n t) p a b c := by
  have _ := o
  unfold jLk ins
  rw [h1, h2, h3, Bool.and_eq_true, decide_eq_true_eq, decide_eq_true_eq]
variable (h1 : n ≤ 7)
include h1
theorem jHt {s x : Nat} (hs : s < 2 ^ n) (hx : x < n) : We n t s x = true ↔ ∃ a b c, a < n ∧ b < n ∧ c < n ∧ Yq x a b c = true ∧ s.testBit a = !s.testBit x ∧ s.testBit b = !s.testBit x ∧ s.testBit c = !s.testBit x ∧ ins (chi n t) x a b c := by
  have hbit := (Wo h1 hs).2
  unfold We
  cases e : s.testBit x with
  | true =>
    rw [if_pos rfl]
    constructor
    · intro h
      obtain ⟨a, b, c, ha, hb, hc, hd, sa, sb, sc, hi⟩ := jEs o h1 hx h
      rw [hbit _ ha] at sa
      rw [hbit _ hb] at sb
      rw [hbit _ hc] at sc
      exact ⟨a, b, c, ha, hb, hc, hd, by simpa using sa, by simpa using sb, by simpa using sc, hi⟩
    · rintro ⟨a, b, c, ha, hb, hc, hd, sa, sb, sc, hi⟩
      exact jG8 o h1 hx ⟨a, b, c, ha, hb, hc, hd, (show (Y6 n s).testBit a = true by rw [hbit _ ha, sa]; rfl), (show (Y6 n s).testBit b = true by rw [hbit _ hb, sb]; rfl), (show (Y6 n s).testBit c = true by rw [hbit _ hc, sc]; rfl), hi⟩
  | false =>
    rw [if_neg (by decide)]
    constructor
    · intro h
      obtain ⟨a, b, c, ha, hb, hc, hd, sa, sb, sc, hi⟩ := jEs o h1 hx h
      exact ⟨a, b, c, ha, hb, hc, hd, sa, sb, sc, hi⟩
    · rintro ⟨a, b, c, ha, hb, hc, hd, sa, sb, sc, hi⟩
      exact jG8 o h1 hx ⟨a, b, c, ha, hb, hc, hd, sa, sb, sc, hi⟩
variable (h0 : 3 ≤ n)
include h0
theorem jRb {s a b c d : Nat} (hs : s < 2 ^ n) (hab : a < b) (hbc : b < c) (hcd : c < d) (hd : d < n) {x1 x2 x3 x4 : Bool} (e1 : chi n t b c d = sg x1) (e2 : chi n t a c d = sg x2) (e3 : chi n t a b d = sg x3) (e4 : chi n t a b c = sg x4) :
    Kb n t s (a, b, c, d) = jRu (s.testBit a) (s.testBit b) (s.testBit c) (s.testBit d) x1 x2 x3 x4 := by
  have _ := o
  rw [Ug t h0 h1 hs hab hbc hcd hd, jJ0 t h0 h1 (show a < n by omega) (show b < n by omega) (show c < n by omega) hd (by omega) (by omega) (by omega) (by omega) (by omega) (by omega), jJr t h0 h1 (show a < n by omega) (show b < n by omega) (show c < n by omega) hd (by omega) (by omega) (by omega) (by omega) (by omega) (by omega)]
  unfold Ky jRu jC5 jRc
  rw [e1, e2, e3, e4]
theorem jPf {s : Nat} (hs : s < 2 ^ n) : jF7 n t s = true ↔ Acy n (rv s.testBit (chi n t)) := by
  have u := (U9 o).rv s.testBit
  unfold jF7
  rw [Bool.and_eq_true, Bool.not_eq_true', Bool.not_eq_true', List.any_eq_false, List.any_eq_false]
  constructor
  · rintro ⟨hn, hq⟩ a b c d ha hb hc hd ⟨d1, d2, d3, d4, d5, d6⟩
    refine jCt (n := n) (P := fun a b c d => ¬ Pos (rv s.testBit (chi n t)) a b c d) (fun a b c d ha hb hc hd h g => h (u.sw1 ha hb hc hd g)) (fun a b c d ha hb hc hd h g => h (u.sw2 ha hb hc hd g)) (fun a b c d ha hb hc hd h g => h (u.sw3 ha hb hc hd g)) ?_ ha hb hc hd (Q6.2 ⟨d1, d2, d3, d4, d5, d6⟩)
    clear ha hb hc hd d1 d2 d3 d4 d5 d6 a b c d
    intro a b c d hab hbc hcd hd hP
    have ha : a < n := by omega
    have hb : b < n := by omega
    have hc : c < n := by omega
    obtain ⟨x1, x2, x3, x4, e1, e2, e3, e4, hall, hp⟩ := jI6 o s.testBit ha hb hc hd (Q6.2 ⟨by omega, by omega, by omega, by omega, by omega, by omega⟩)
    have hP := hp.1 hP
    rw [jPb hall] at hP
    have N : ∀ x a b c, x < n → a < n → b < n → c < n → Yq x a b c = true → s.testBit a = !s.testBit x → s.testBit b = !s.testBit x → s.testBit c = !s.testBit x → ins (chi n t) x a b c → False := fun x a b c hx ha hb hc hd s1 s2 s3 hi =>
      hn x (by rw [List.mem_range'_1]; omega) ((jHt o h1 hs hx).2 ⟨a, b, c, ha, hb, hc, hd, s1, s2, s3, hi⟩)
    have Q := hq (a, b, c, d) (Uf hab hbc hcd hd)
    rw [jRb o h1 h0 hs hab hbc hcd hd e1 e2 e3 e4] at Q
    have ne : ∀ x y : Bool, (x != y) = true → x = !y := by decide
    have ne' : ∀ x y : Bool, (x != y) = true → x = !y ∧ y = !x := by decide
    simp only [Bool.or_eq_true, Bool.and_eq_true, beq_iff_eq] at hP
    have k1 := (U9 o).cyc ha hb hc
    have k2 := (U9 o).cyc ha hb hd
    have k3 := (U9 o).cyc ha hc hd
    have k4 := (U9 o).cyc hb hc hd
    have k5 := (U9 o).cyc ha hd hc
    have w1 := o.s2 a c d ha hc hd
    have w2 := o.s1 a b c ha hb hc
    have w3 := o.s1 b c d hb hc hd
    have w4 := o.s1 a c d ha hc hd
    have w5 := o.s2 a b d ha hb hd
    rcases hP with (((⟨⟨⟨g1, g2⟩, g3⟩, gi⟩ | ⟨⟨⟨g1, g2⟩, g3⟩, gi⟩) | ⟨⟨⟨g1, g2⟩, g3⟩, gi⟩) | ⟨⟨⟨g1, g2⟩, g3⟩, gi⟩) | g
    · have g3 := ne _ _ g3
      exact N a b c d ha hb hc hd (Q6.2 ⟨by omega, by omega, by omega, by omega, by omega, by omega⟩) g3 (by rw [← g1]; exact g3) (by rw [← g2, ← g1]; exact g3) ((jKf o (by omega) (by omega) (by omega)).1 gi)
    · have g3 := ne _ _ g3
      exact N b a c d hb ha hc hd (Q6.2 ⟨by omega, by omega, by omega, by omega, by omega, by omega⟩) g3 (by rw [← g1]; exact g3) (by rw [← g2, ← g1]; exact g3) ((jKf o (by omega) (by omega) (by omega)).1 gi)
    · have g3 := ne _ _ g3
      exact N c a b d hc ha hb hd (Q6.2 ⟨by omega, by omega, by omega, by omega, by omega, by omega⟩) g3 (by rw [← g1]; exact g3) (by rw [← g2, ← g1]; exact g3) ((jKf o (by omega) (by omega) (by omega)).1 gi)
    · have g3 := ne _ _ g3
      exact N d a b c hd ha hb hc (Q6.2 ⟨by omega, by omega, by omega, by omega, by omega, by omega⟩) g3 (by rw [← g1]; exact g3) (by rw [← g2, ← g1]; exact g3) ((jKf o (by omega) (by omega) (by omega)).1 gi)
    · exact Q g
  · intro hA
    refine ⟨fun x hx hn => ?_, fun ⟨a, b, c, d⟩ hm hq => ?_⟩
    · rw [List.mem_range'_1] at hx
      have hx : x < n := by omega
      obtain ⟨a, b, c, ha, hb, hc, hd, sa, sb, sc, hi⟩ := (jHt o h1 hs hx).1 hn
      obtain ⟨x1, x2, x3, x4, e1, e2, e3, e4, hall, hp⟩ := jI6 o s.testBit hx ha hb hc hd
      refine hA x a b c hx ha hb hc (Q6.1 hd) (hp.2 ?_)
      have w := o.s2 x a c hx ha hc
      rw [jPb hall, (jKf o (y1 := sg x4) (y2 := sg x2) (y3 := -(sg x3)) (by omega) (by omega) (by omega)).2 hi, sa, sb, sc]
      cases s.testBit x <;> rfl
    · obtain ⟨hab, hbc, hcd, hd⟩ := Wd hm
      have hx : Yq a b c d = true := Q6.2 ⟨by omega, by omega, by omega, by omega, by omega, by omega⟩
      obtain ⟨x1, x2, x3, x4, e1, e2, e3, e4, hall, hp⟩ := jI6 o s.testBit (show a < n by omega) (show b < n by omega) (show c < n by omega) hd hx
      refine hA a b c d (by omega) (by omega) (by omega) hd (Q6.1 hx) (hp.2 ?_)
      rw [jRb o h1 h0 hs hab hbc hcd hd e1 e2 e3 e4] at hq
      rw [jPb hall, hq, Bool.or_true]
end
/-! ### the row of counts -/
def jOd : Bool := (List.range 8).all fun n => decide (Wn (2 ^ n - 1) = n) && (List.range (2 ^ n)).all fun s => decide (Wn s = U.bits n s)
theorem jIj : jOd = true := by decide +kernel
theorem jHs {n s : Nat} (h1 : n ≤ 7) (hs : s < 2 ^ n) : Wn s = U.bits n s ∧ Wn (2 ^ n - 1) = n := by
  have g := List.all_eq_true.1 jIj n (List.mem_range.2 (by omega))
  rw [Bool.and_eq_true, decide_eq_true_eq] at g
  exact ⟨of_decide_eq_true (List.all_eq_true.1 g.2 s (List.mem_range.2 hs)), g.1⟩
def inc (s : List Int) (k : Nat) : List Int := s.set k (wrap64 (rd s (k : Int) + 1))
theorem jNv (s : List Int) (k : Nat) : rd s (k : Int) = s.getD k 0 := by
  unfold rd
  rw [Int.toNat_natCast]
theorem jPg (s : List Int) : ∀ (k : Nat) (v : Int), k < s.length → (s.set k v).sum = s.sum - s.getD k 0 + v := by
  induction s with
  | nil => intro k v h; exact absurd h (by simp)
  | cons x s ih =>
    intro k v h
    cases k with
    | zero => simp only [List.set_cons_zero, List.sum_cons, List.getD_cons_zero]; omega
    | succ k =>
      have := ih k v (by simpa using h)
      simp only [List.set_cons_succ, List.sum_cons, List.getD_cons_succ]
      omega
theorem jNh (M : Nat) (ks : List Nat) : ∀ s : List Int, s.length = M → (∀ k ∈ ks, k < M) → (∀ m : Nat, m < M → 0 ≤ s.getD m 0 ∧ s.getD m 0 + (ks.length : Int) ≤ 1000) →
    (ks.foldl inc s).length = M ∧ (∀ m : Nat, m < M → (ks.foldl inc s).getD m 0 = s.getD m 0 + ((ks.filter fun k => decide (k = m)).length : Int)) ∧ (ks.foldl inc s).sum = s.sum + (ks.length : Int) := by
  induction ks with
  | nil => intro s hl _ _; exact ⟨hl, fun m _ => by simp, by simp⟩
  | cons k ks ih =>
    intro s hl hk hb
    have hkM := hk k List.mem_cons_self
    have b := hb k hkM
    have bl : ((k :: ks).length : Int) = (ks.length : Int) + 1 := by simp
    have e : inc s k = s.set k (s.getD k 0 + 1) := by
      unfold inc
      rw [jNv, Qp (by omega) (by omega)]
    have at' : ∀ m : Nat, m < M → (s.set k (s.getD k 0 + 1)).getD m 0 = s.getD m 0 + if k = m then 1 else 0 := by
      intro m hm
      by_cases g : k = m
      · subst g
        rw [if_pos rfl, List.getD_eq_getElem?_getD, List.getElem?_set, if_pos rfl, if_pos (by omega)]
        rfl
      · rw [if_neg g, List.getD_eq_getElem?_getD, List.getElem?_set, if_neg g, List.getD_eq_getElem?_getD]
        omega
    have q := ih (s.set k (s.getD k 0 + 1)) (by rw [List.length_set]; exact hl) (fun x hx => hk x (List.mem_cons_of_mem _ hx)) (fun m hm => by
      have b := hb m hm
      rw [at' m hm]
      split <;> omega)
    rw [List.foldl_cons, e]
    refine ⟨q.1, fun m hm => ?_, ?_⟩
    · rw [q.2.1 m hm, at' m hm, List.filter_cons]
      by_cases g : k = m
      · rw [if_pos g, if_pos (decide_eq_true g), List.length_cons]
        omega
      · rw [if_neg g, if_neg (by simpa using g)]
        omega
    · rw [q.2.2, jPg _ _ _ (by omega)]
      omega
def lefts (n : Nat) (t : ByteArray) : List Nat := (prs n).map fun x => leftV n t x.1 x.2
theorem jI0 {n : Nat} {t : ByteArray} (ho : Yi (n : Int) t = true) : jBn (n : Int) t = (lefts n t).foldl inc (List.replicate (n - 1) 0) := by
  unfold jBn
  rw [if_pos ho, Int.toNat_natCast]
  unfold lefts
  rw [List.foldl_map]
  unfold prs
  rw [List.foldl_flatMap, List.range_eq_range', Nat.sub_zero]
  have e : jPw n t = fun s i => List.foldl (fun (y : List Int) (x : Nat × Nat) => inc y (leftV n t x.1 x.2)) s (((List.range' 0 n).filter (fun q => decide (q ≠ i))).map fun q => (i, q)) := by
    funext s i
    unfold jPw
    rw [List.foldl_map, List.foldl_filter, Nat.sub_zero]
    have : jM1 n t i = fun (s : List Int) j => if decide (j ≠ i) = true then inc s (leftV n t i j) else s := by
      funext s j
      unfold jM1 inc
      by_cases g : i = j
      · rw [if_pos g, if_neg (by simp [g])]
      · rw [if_neg g, if_pos (by simpa using Ne.symm g)]
    rw [this]
  rw [e]
theorem jMe : ∀ n, n ≤ 7 → ((prs n).map fun x => (x.2, x.1)).isPerm (prs n) = true := by decide +kernel
section
variable {n : Nat} {t : ByteArray} (ho : Yi (n : Int) t = true) (h0 : 3 ≤ n) (h1 : n ≤ 7)
include ho h0 h1
theorem Ws : (jBn n t).length = n - 1 ∧ (∀ m : Nat, m < n - 1 → rd (jBn n t) (m : Int) = (((prs n).filter fun x => decide (leftV n t x.1 x.2 = m)).length : Int)) ∧ (jBn n t).sum = (n : Int) * ((n : Int) - 1) := by
  have pl : (lefts n t).length = n * (n - 1) := by unfold lefts; rw [List.length_map, U.jDh h1]
  have pb : n * (n - 1) ≤ 42 := Nat.mul_le_mul h1 (show n - 1 ≤ 6 by omega)
  have q := jNh (n - 1) (lefts n t) (List.replicate (n - 1) 0) List.length_replicate (fun k hk => ?_) (fun m hm => ?_)
  · rw [jI0 ho]
    refine ⟨q.1, fun m hm => ?_, ?_⟩
    · rw [jNv, q.2.1 m hm, List.getD_eq_getElem?_getD, List.getElem?_replicate, if_pos hm]
      unfold lefts
      rw [List.filter_map, List.length_map]
      simp [Function.comp_def]
    · rw [q.2.2, pl, Int.natCast_mul, Int.ofNat_sub (by omega)]
      simp
  · unfold lefts at hk
    obtain ⟨⟨p, q⟩, hm, rfl⟩ := List.mem_map.1 hk
    obtain ⟨hp, hq, hpq⟩ := U.U0.1 hm
    have := K4 t h0 h1 hp hq (Ne.symm hpq)
    simp only
    omega
  · rw [List.getD_eq_getElem?_getD, List.getElem?_replicate, if_pos hm, pl]
    simp only [Option.getD_some]
    omega
theorem jO5 {m : Nat} (hm : m < n - 1) : rd (jBn n t) (m : Int) = rd (jBn n t) ((n - 2 - m : Nat) : Int) := by
  have h := (Ws ho h0 h1).2.1
  rw [h m hm, h (n - 2 - m) (by omega)]
  have P := (List.isPerm_iff.1 (jMe n h1)).filter fun x => decide (leftV n t x.1 x.2 = m)
  rw [← P.length_eq, List.filter_map, List.length_map]
  congr 2
  refine List.filter_congr fun ⟨p, q⟩ hx => ?_
  obtain ⟨hp, hq, hpq⟩ := U.U0.1 hx
  have := K4 t h0 h1 hp hq (Ne.symm hpq)
  simp only [Function.comp_def, decide_eq_decide]
  omega
theorem jL0 {a k : Nat} (h : nx n (chi n t) a k) : outer n (chi n t) a := by
  have _ := h0
  have _ := h1
  have o := Kh ho
  obtain ⟨ha, hk, hak, hall⟩ := h
  refine ⟨ha, fun x y z hx hy hz hd hi => ?_⟩
  have base : ∀ y z, y < n → z < n → Yq a k y z = true → ins (chi n t) a k y z → False := by
    intro y z hy hz hd hi
    obtain ⟨d1, d2, d3, d4, d5, d6⟩ := Q6.1 hd
    have u := hall y hy (Ne.symm d2) (Ne.symm d4)
    have v := hall z hz (Ne.symm d3) (Ne.symm d5)
    have w := o.s2 a k z ha hk hz
    obtain ⟨i1, i2⟩ := hi
    omega
  obtain ⟨d1, d2, d3, d4, d5, d6⟩ := Q6.1 hd
  by_cases e1 : x = k
  · subst e1; exact base y z hy hz hd hi
  by_cases e2 : y = k
  · subst e2; exact base z x hz hx (Q6.2 ⟨d2, d3, d1, d6, Ne.symm d4, Ne.symm d5⟩) (Vi hi)
  by_cases e3 : z = k
  · subst e3; exact base x y hx hy (Q6.2 ⟨d3, d1, d2, Ne.symm d5, Ne.symm d6, d4⟩) (Vi (Vi hi))
  have u1 := hall x hx (Ne.symm d1) e1
  have u2 := hall y hy (Ne.symm d2) e2
  have u3 := hall z hz (Ne.symm d3) e3
  have w := o.s2 a x z ha hx hz
  obtain ⟨i1, i2⟩ := hi
  rcases o.pm a x y ha hx hy d1 d4 d2 with v | v
  · exact o.trans ha hk hx hy hz (Q6.2 ⟨Ne.symm e1, Ne.symm e2, Ne.symm e3, d4, d5, d6⟩) hak d1 d2 d3 u1 u2 u3 v (by omega) (by omega)
  · have w1 := o.s2 a x y ha hx hy
    have w2 := o.s2 a y z ha hy hz
    exact o.trans ha hk hz hy hx (Q6.2 ⟨Ne.symm e3, Ne.symm e2, Ne.symm e1, Ne.symm d6, Ne.symm d5, Ne.symm d4⟩) hak d3 d2 d1 u3 u2 u1 (by omega) (by omega) (by omega)
theorem row_zero : rd (jBn n t) 0 = ((jPv n t).length : Int) := by
  have o := Kh ho
  have e : rd (jBn n t) 0 = _ := (Ws ho h0 h1).2.1 0 (by omega)
  rw [e]
  have mem : ∀ p q, (p, q) ∈ (prs n).filter (fun x => decide (leftV n t x.1 x.2 = 0)) ↔ nx n (chi n t) q p := by
    intro p q
    rw [List.mem_filter, U.U0, decide_eq_true_eq]
    constructor
    · rintro ⟨⟨hp, hq, hpq⟩, e⟩
      exact (jE7 o h0 h1 hq hp hpq).1 e
    · intro h
      exact ⟨⟨h.2.1, h.1, h.2.2.1⟩, (jE7 o h0 h1 h.1 h.2.1 h.2.2.1).2 h⟩
  have nd : ((prs n).filter fun x => decide (leftV n t x.1 x.2 = 0)).Nodup := List.Pairwise.filter _ (U.jE8 n)
  generalize (prs n).filter (fun x => decide (leftV n t x.1 x.2 = 0)) = F at mem nd
  have A : (F.map fun x => x.2).Nodup := by
    rw [List.Nodup, List.pairwise_map]
    refine List.Pairwise.imp_of_mem (R := (· ≠ ·)) (fun {x y} hx hy h e => h ?_) nd
    obtain ⟨p, q⟩ := x
    obtain ⟨p', q'⟩ := y
    simp only at e
    subst e
    rw [o.nx_uni ((mem _ _).1 hx) ((mem _ _).1 hy)]
  have l1 := jA3 (F.map fun x => x.2) (jPv n t) A fun x hx => by
    obtain ⟨⟨p, q⟩, hm, rfl⟩ := List.mem_map.1 hx
    exact (jHf ho h0 h1 q).2 (jL0 ho h0 h1 ((mem _ _).1 hm))
  have l2 := jA3 (jPv n t) (F.map fun x => x.2) (List.Pairwise.filter _ List.nodup_range) fun x hx => by
    obtain ⟨b, hb⟩ := o.nx_exists h0 ((jHf ho h0 h1 x).1 hx)
    exact List.mem_map.2 ⟨(b, x), (mem _ _).2 hb, rfl⟩
  rw [List.length_map] at l1 l2
  omega
end
/-! ### halving pairs -/
theorem jOj {p q : Nat → Bool} (l : List Nat) (h : ∀ z ∈ l, p z = true → q z = true) : (l.filter p).length ≤ (l.filter q).length := by
  induction l with
  | nil => exact Nat.le_refl _
  | cons x l ih =>
    have i := ih fun z hz => h z (List.mem_cons_of_mem _ hz)
    have hx := h x List.mem_cons_self
    rw [List.filter_cons, List.filter_cons]
    cases e : p x with
    | true => rw [hx e, if_pos rfl, if_pos rfl, List.length_cons, List.length_cons]; omega
    | false =>
      rw [if_neg (by decide)]
      split
      · rw [List.length_cons]; omega
      · exact i
theorem jO0 {p q : Nat → Bool} (l : List Nat) (h : ∀ z ∈ l, p z = true → q z = true) {y : Nat} (hy : y ∈ l) (hq : q y = true) (hp : p y = false) : (l.filter p).length < (l.filter q).length := by
  induction l with
  | nil => exact absurd hy (by simp)
  | cons x l ih =>
    have hx := h x List.mem_cons_self
    have hl : ∀ z ∈ l, p z = true → q z = true := fun z hz => h z (List.mem_cons_of_mem _ hz)
    rw [List.filter_cons, List.filter_cons]
    rcases List.mem_cons.1 hy with rfl | hy
    · rw [hp, hq, if_neg (by decide), if_pos rfl, List.length_cons]
      have := jOj l hl
      omega
    · have i := ih hl hy
      cases e : p x with
      | true => rw [hx e, if_pos rfl, if_pos rfl, List.length_cons, List.length_cons]; omega
      | false =>
        rw [if_neg (by decide)]
        split
        · rw [List.length_cons]; omega
        · exact i
theorem jIx : ∀ n, n ≤ 7 → ∀ a, a < n → ((List.range n).filter fun x => decide (x ≠ a)).length = n - 1 := by decide +kernel
section
variable {n : Nat} {t : ByteArray} (ho : Yi (n : Int) t = true) (h0 : 3 ≤ n) (h1 : n ≤ 7)
include ho h0 h1
theorem jLs {a : Nat} (ha : outer n (chi n t) a) {m : Nat} (hm : m < n - 1) : ∃ x, x < n ∧ x ≠ a ∧ leftV n t a x = m := by
  have o := Kh ho
  have han := ha.1
  have lt : ∀ x y, x < n → y < n → x ≠ a → y ≠ a → x ≠ y → chi n t a x y = 1 → leftV n t a y < leftV n t a x := by
    intro x y hx hy hxa hya hxy e
    refine jO0 _ (fun z hz hp => ?_) (y := y) (List.mem_range'_1.2 (by omega)) (decide_eq_true e) (decide_eq_false ?_)
    · rw [List.mem_range'_1] at hz
      rw [decide_eq_true_eq] at hp ⊢
      have z0 := Vq t h0 h1 (show a < 7 by omega) (show y < 7 by omega)
      have z1 := Vq t h0 h1 (show y < 7 by omega) (show a < 7 by omega)
      have za : z ≠ a := fun e => by rw [e, z0.2.1] at hp; exact absurd hp (by decide)
      have zy : z ≠ y := fun e => by rw [e, z1.2.2] at hp; exact absurd hp (by decide)
      have zx : z ≠ x := fun e' => by
        rw [e'] at hp
        have := o.s2 a x y ha.1 hx hy
        omega
      exact o.three ha hx hy (by omega) (Q6.2 ⟨Ne.symm hxa, Ne.symm hya, Ne.symm za, hxy, Ne.symm zx, Ne.symm zy⟩) e hp
    · rw [(Vq t h0 h1 (show y < 7 by omega) (show a < 7 by have := ha.1; omega)).2.2]
      decide
  have inj : ∀ x y, x < n → y < n → x ≠ a → y ≠ a → x ≠ y → leftV n t a x ≠ leftV n t a y := by
    intro x y hx hy hxa hya hxy e
    rcases o.pm a x y ha.1 hx hy (Ne.symm hxa) hxy (Ne.symm hya) with v | v
    · have := lt x y hx hy hxa hya hxy v
      omega
    · have w := o.s2 a x y ha.1 hx hy
      have := lt y x hy hx hya hxa (Ne.symm hxy) (by omega)
      omega
  refine Classical.byContradiction fun hn => ?_
  have nd : (m :: ((List.range n).filter fun x => decide (x ≠ a)).map (leftV n t a)).Nodup := by
    rw [List.nodup_cons]
    refine ⟨fun hm' => ?_, ?_⟩
    · obtain ⟨x, hx, e⟩ := List.mem_map.1 hm'
      rw [List.mem_filter, List.mem_range, decide_eq_true_eq] at hx
      exact hn ⟨x, hx.1, hx.2, e⟩
    · rw [List.Nodup, List.pairwise_map]
      refine List.Pairwise.imp_of_mem (R := (· ≠ ·)) (fun {x y} hx hy h e => ?_) (List.Pairwise.filter _ List.nodup_range)
      rw [List.mem_filter, List.mem_range, decide_eq_true_eq] at hx hy
      exact inj x y hx.1 hy.1 hx.2 hy.2 h e
  have l := jA3 _ (List.range (n - 1)) nd fun x hx => by
    rw [List.mem_range]
    rcases List.mem_cons.1 hx with rfl | hx
    · exact hm
    · obtain ⟨y, hy, rfl⟩ := List.mem_map.1 hx
      rw [List.mem_filter, List.mem_range, decide_eq_true_eq] at hy
      have := K4 t h0 h1 ha.1 hy.1 (Ne.symm hy.2)
      omega
  rw [List.length_cons, List.length_map, jIx n h1 a ha.1, List.length_range] at l
  omega
theorem jKx : (jAt n t).length ≠ 0 := by
  have ha := jGk ho h0 h1
  obtain ⟨x, hx, hxa, e⟩ := jLs ho h0 h1 ha (m := (n - 2) / 2) (by omega)
  have s := K4 t h0 h1 ha.1 hx (Ne.symm hxa)
  unfold jAt
  rw [if_pos ho, Int.toNat_natCast, List.length_map]
  have mem : ∃ q, q ∈ (Y2 n).filter (Wv n t) := by
    by_cases g : jDn n t < x
    · refine ⟨(jDn n t, x), List.mem_filter.2 ⟨Uk g hx, ?_⟩⟩
      unfold Wv
      simp only [Bool.and_eq_true, decide_eq_true_eq]
      omega
    · refine ⟨(x, jDn n t), List.mem_filter.2 ⟨Uk (by omega) ha.1, ?_⟩⟩
      unfold Wv
      simp only [Bool.and_eq_true, decide_eq_true_eq]
      omega
  obtain ⟨q, hq⟩ := mem
  intro h
  rw [List.length_eq_zero_iff] at h
  rw [h] at hq
  exact absurd hq (by simp)
end
/-! ### crossings -/
def gI (u v : Int) : Nat := if u = 1 ∧ v = 1 then 1 else 0
def g4 (n : Nat) (t : ByteArray) (q : Nat × Nat × Nat × Nat) : Nat := gI (chi n t q.1 q.2.1 q.2.2.1) (chi n t q.2.1 q.1 q.2.2.2)
def jPx (n : Nat) : List (Nat × Nat × Nat × Nat) := (Y2 n).flatMap fun x => (List.range' 0 n).flatMap fun k => (List.range' 0 n).map fun l => (x.1, x.2, k, l)
def okT (q : Nat × Nat × Nat × Nat) : Bool := decide (q.2.2.1 ≠ q.1) && decide (q.2.2.1 ≠ q.2.1) && decide (q.2.2.2 ≠ q.1) && decide (q.2.2.2 ≠ q.2.1) && decide (q.2.2.1 ≠ q.2.2.2)
def twelve (q : Nat × Nat × Nat × Nat) : List (Nat × Nat × Nat × Nat) :=
  [(q.1, q.2.1, q.2.2.1, q.2.2.2), (q.1, q.2.1, q.2.2.2, q.2.2.1), (q.1, q.2.2.1, q.2.1, q.2.2.2), (q.1, q.2.2.1, q.2.2.2, q.2.1), (q.1, q.2.2.2, q.2.1, q.2.2.1), (q.1, q.2.2.2, q.2.2.1, q.2.1),
   (q.2.1, q.2.2.1, q.1, q.2.2.2), (q.2.1, q.2.2.1, q.2.2.2, q.1), (q.2.1, q.2.2.2, q.1, q.2.2.1), (q.2.1, q.2.2.2, q.2.2.1, q.1), (q.2.2.1, q.2.2.2, q.1, q.2.1), (q.2.2.1, q.2.2.2, q.2.1, q.1)]
theorem jMw : ∀ n, n ≤ 7 → ((jPx n).filter okT).isPerm ((Z4 n).flatMap twelve) = true := by decide +kernel
theorem jD9 {α β : Type} (f : β → Nat) (g : α → List β) (l : List α) : ((l.flatMap g).map f).sum = (l.map fun x => ((g x).map f).sum).sum := by
  induction l with
  | nil => rfl
  | cons x l ih => rw [List.flatMap_cons, List.map_append, List.sum_append_nat, ih, List.map_cons, List.sum_cons]
theorem jNd {α : Type} (f : α → Nat) (p : α → Bool) (l : List α) (h : ∀ x ∈ l, p x = false → f x = 0) : ((l.filter p).map f).sum = (l.map f).sum := by
  induction l with
  | nil => rfl
  | cons x l ih =>
    have i := ih fun z hz => h z (List.mem_cons_of_mem _ hz)
    have hx := h x List.mem_cons_self
    rw [List.filter_cons, List.map_cons, List.sum_cons]
    cases e : p x with
    | true => rw [if_pos rfl, List.map_cons, List.sum_cons, i]
    | false => rw [if_neg (by decide), hx e, i]; omega
theorem jOt (p q : Nat → Bool) (l : List Nat) (k : Nat) : (l.map fun j => if p k = true ∧ q j = true then 1 else 0).sum = if p k = true then (l.filter q).length else 0 := by
  induction l with
  | nil => simp
  | cons x l ih =>
    rw [List.map_cons, List.sum_cons, ih, List.filter_cons]
    cases p k <;> cases q x <;> simp <;> omega
theorem jMs (p q : Nat → Bool) (l l' : List Nat) : (l.filter p).length * (l'.filter q).length = (l.map fun k => (l'.map fun j => if p k = true ∧ q j = true then 1 else 0).sum).sum := by
  induction l with
  | nil => simp
  | cons x l ih =>
    rw [List.map_cons, List.sum_cons, ← ih, jOt, List.filter_cons]
    cases p x
    · simp
    · rw [if_pos rfl, if_pos rfl, List.length_cons, Nat.add_mul]
      omega
theorem jM6 {X1 X2 X3 X4 : Int} (h1 : X1 = 1 ∨ X1 = -1) (h2 : X2 = 1 ∨ X2 = -1) (h3 : X3 = 1 ∨ X3 = -1) (h4 : X4 = 1 ∨ X4 = -1) (h : ¬ (X2 = -X1 ∧ X3 = X1 ∧ X4 = -X1)) :
    gI X4 (-X3) + (gI X3 (-X4) + (gI (-X4) (-X2) + (gI X2 X4 + (gI (-X3) X2 + (gI (-X2) X3 + (gI X4 (-X1) + (gI X1 (-X4) + (gI X3 X1 + (gI (-X1) (-X3) + (gI X2 (-X1) + (gI X1 (-X2) + 0))))))))))) + (if qP X1 X2 X3 X4 jQw = true then 1 else 0) = 3 := by
  rcases h1 with rfl | rfl <;> rcases h2 with rfl | rfl <;> rcases h3 with rfl | rfl <;> rcases h4 with rfl | rfl <;> first | decide | (exact absurd (by decide) h)
theorem jKk (n : Nat) (t : ByteArray) (l : List (Nat × Nat)) : ∀ s : Nat, (∀ q ∈ l, leftV n t q.1 q.2 ≤ 7 ∧ leftV n t q.2 q.1 ≤ 7) → s + 49 * l.length ≤ 100000 → l.foldl (jBw n t) (s : Int) = ((s + (l.map fun q => leftV n t q.1 q.2 * leftV n t q.2 q.1).sum : Nat) : Int) := by
  induction l with
  | nil => intro s _ _; simp
  | cons x l ih =>
    intro s hl hs
    have hx := hl x List.mem_cons_self
    have hp : leftV n t x.1 x.2 * leftV n t x.2 x.1 ≤ 49 := Nat.mul_le_mul hx.1 hx.2
    rw [List.length_cons] at hs
    rw [List.foldl_cons, List.map_cons, List.sum_cons]
    have e : jBw n t (s : Int) x = ((s + leftV n t x.1 x.2 * leftV n t x.2 x.1 : Nat) : Int) := by
      unfold jBw
      rw [← Int.natCast_mul]
      generalize leftV n t x.1 x.2 * leftV n t x.2 x.1 = P at hp
      rw [Qp (x := (P : Int)) (by omega) (by omega), Qp (by omega) (by omega)]
      omega
    rw [e, ih _ (fun q hq => hl q (List.mem_cons_of_mem _ hq)) (by omega)]
    congr 1
    omega
theorem jHb : ∀ n, n ≤ 7 → (Z4 n).length ≤ 35 := by decide +kernel
section
variable {n : Nat} {t : ByteArray} (ho : Yi (n : Int) t = true) (h0 : 3 ≤ n) (h1 : n ≤ 7)
include ho h0 h1
theorem jH3 {q : Nat × Nat × Nat × Nat} (hq : q ∈ Z4 n) : ((twelve q).map (g4 n t)).sum + (if Kw n t q = true then 1 else 0) = 3 := by
  have _ := h0
  have o := Kh ho
  obtain ⟨a, b, c, d⟩ := q
  obtain ⟨hab, hbc, hcd, hd⟩ := Wd hq
  have ha : a < n := by omega
  have hb : b < n := by omega
  have hc : c < n := by omega
  have hx : Yq a b c d = true := Q6.2 ⟨by omega, by omega, by omega, by omega, by omega, by omega⟩
  have e := (jGt o h1 ha hb hc hd hx).2.2.2.2.2.2.2.2.2
  have u := U9 o
  have c1 := u.cyc ha hb hc
  have c2 := u.cyc ha hb hd
  have c3 := u.cyc ha hc hd
  have c4 := u.cyc hb hc hd
  have s1 := o.s1 a b d ha hb hd
  have s2 := o.s1 a b c ha hb hc
  have s3 := o.s2 a b c ha hb hc
  have s4 := o.s1 a c d ha hc hd
  have s5 := o.s2 a b d ha hb hd
  have s6 := o.s2 a c d ha hc hd
  have s7 := o.s1 b c d hb hc hd
  have s8 := o.s2 b c d hb hc hd
  have c5 := u.cyc hc hb ha
  have c6 := u.cyc hd hb ha
  have c7 := u.cyc hd hc ha
  have c8 := u.cyc hd hc hb
  have k := jM6 (o.pm b c d hb hc hd (by omega) (by omega) (by omega)) (o.pm a c d ha hc hd (by omega) (by omega) (by omega)) (o.pm a b d ha hb hd (by omega) (by omega) (by omega)) (o.pm a b c ha hb hc (by omega) (by omega) (by omega)) (o.ac a b c d ha hb hc hd hx)
  have ni : Kw n t (a, b, c, d) = qP (chi n t b c d) (chi n t a c d) (chi n t a b d) (chi n t a b c) jQw := e
  rw [ni]
  simp only [twelve, List.map_cons, List.map_nil, List.sum_cons, List.sum_nil, g4]
  have r1 : chi n t b a d = -chi n t a b d := s1
  have r2 : chi n t b a c = -chi n t a b c := s2
  have r3 : chi n t a c b = -chi n t a b c := s3
  have r4 : chi n t c a d = -chi n t a c d := s4
  have r5 : chi n t c a b = chi n t a b c := c1.2
  have r6 : chi n t a d b = -chi n t a b d := s5
  have r7 : chi n t d a c = chi n t a c d := c3.2
  have r8 : chi n t a d c = -chi n t a c d := s6
  have r9 : chi n t d a b = chi n t a b d := c2.2
  have aA : chi n t b c a = chi n t a b c := c1.1
  have aC : chi n t c b d = -chi n t b c d := s7
  have aD : chi n t c b a = -chi n t a b c := by omega
  have aG : chi n t b d a = chi n t a b d := c2.1
  have aH : chi n t d b c = chi n t b c d := c4.2
  have aI : chi n t b d c = -chi n t b c d := s8
  have r16 : chi n t d b a = -chi n t a b d := by omega
  have aJ : chi n t c d a = chi n t a c d := c3.1
  have aK : chi n t d c b = -chi n t b c d := by omega
  have aM : chi n t c d b = chi n t b c d := c4.1
  have aN : chi n t d c a = -chi n t a c d := by omega
  rw [r1, r2, r3, r4, r5, r6, r7, r8, r9, aA, aC, aD, aG, aH, aI, r16, aJ, aK, aM, aN]
  exact k
theorem jGs : jBu n t + jEf n t = 3 * ((Z4 n).length : Int) := by
  have pl := jDu n h1
  have key : ((Y2 n).map fun q => leftV n t q.1 q.2 * leftV n t q.2 q.1).sum + ((Z4 n).filter (Kw n t)).length = 3 * (Z4 n).length := by
    have e1 : ((Y2 n).map fun q => leftV n t q.1 q.2 * leftV n t q.2 q.1).sum = ((jPx n).map (g4 n t)).sum := by
      unfold jPx
      rw [jD9]
      congr 1
      refine List.map_congr_left fun x hx => ?_
      rw [jD9]
      unfold leftV
      rw [jMs]
      congr 1
      refine List.map_congr_left fun k hk => ?_
      rw [List.map_map]
      congr 1
      refine List.map_congr_left fun l hl => ?_
      simp only [Function.comp_def, g4, gI, decide_eq_true_eq]
    have e2 : (((jPx n).filter okT).map (g4 n t)).sum = ((jPx n).map (g4 n t)).sum := by
      refine jNd _ _ _ fun q hq hp => ?_
      obtain ⟨i, j, k, l⟩ := q
      unfold jPx at hq
      rw [List.mem_flatMap] at hq
      obtain ⟨⟨x, y⟩, hx, hq⟩ := hq
      rw [List.mem_flatMap] at hq
      obtain ⟨z, hz, hq⟩ := hq
      rw [List.mem_map] at hq
      obtain ⟨w, hw, hq⟩ := hq
      cases hq
      obtain ⟨hij, hj⟩ := jCu hx
      rw [List.mem_range'_1] at hz hw
      have zi := Vq t h0 h1 (show x < 7 by omega) (show y < 7 by omega)
      have zj := Vq t h0 h1 (show y < 7 by omega) (show x < 7 by omega)
      unfold g4 gI
      simp only
      refine if_neg fun ⟨u, v⟩ => ?_
      have n1 : k ≠ x := fun e => by rw [e, zi.2.1] at u; exact absurd u (by decide)
      have n2 : k ≠ y := fun e => by rw [e, zj.2.2] at u; exact absurd u (by decide)
      have n3 : l ≠ x := fun e => by rw [e, zi.2.2] at v; exact absurd v (by decide)
      have n4 : l ≠ y := fun e => by rw [e, zj.2.1] at v; exact absurd v (by decide)
      have n5 : k ≠ l := fun e => by
        subst e
        have := Vl t h0 h1 (show x < 7 by omega) (show y < 7 by omega) (show k < 7 by omega)
        omega
      unfold okT at hp
      simp only [decide_eq_true n1, decide_eq_true n2, decide_eq_true n3, decide_eq_true n4, decide_eq_true n5, Bool.and_self] at hp
      cases hp
    rw [e1, ← e2, ((List.isPerm_iff.1 (jMw n h1)).map (g4 n t)).sum_nat, jD9]
    have all : ∀ q ∈ Z4 n, ((twelve q).map (g4 n t)).sum + (if Kw n t q = true then 1 else 0) = 3 := fun q hq => jH3 ho h0 h1 hq
    generalize Z4 n = L at all
    induction L with
    | nil => rfl
    | cons q L ih =>
      have i := ih fun q' hq' => all q' (List.mem_cons_of_mem _ hq')
      have a := all q List.mem_cons_self
      rw [List.map_cons, List.sum_cons, List.filter_cons, List.length_cons]
      cases e : Kw n t q with
      | true => rw [e, if_pos rfl] at a; rw [if_pos rfl, List.length_cons]; omega
      | false => rw [e, if_neg (by decide)] at a; rw [if_neg (by decide)]; omega
  unfold jBu jEf jE1 jHj
  rw [if_pos ho, if_pos ho, if_pos ho, Int.toNat_natCast, List.length_map]
  have c := jKk n t (Y2 n) 0 (fun q _ => ⟨Nat.le_trans (Wt _ _ _ _) h1, Nat.le_trans (Wt _ _ _ _) h1⟩) (by omega)
  rw [show ((0 : Nat) : Int) = 0 from rfl] at c
  rw [c]
  omega
end
/-! ### sets that can be cut off, counted -/
theorem jKz {n : Nat} {t : ByteArray} (ho : Yi (n : Int) t = true) (h0 : 3 ≤ n) (h1 : n ≤ 7) {q : Nat} (hq : 1 ≤ q) (hq' : q < n) : ((jGp n (jF7 n t) (q : Int)).length : Int) = rd (jBn n t) ((q - 1 : Nat) : Int) := by
  have o := Kh ho
  rw [(Ws ho h0 h1).2.1 (q - 1) (by omega)]
  have P := (U.jIc (U9 o) (jN9 o) (ab := jF7 n t) (fun s hs => jPf o h1 h0 hs)).filter fun s => decide (Wn s = q)
  have e1 : ((List.range' 0 (2 ^ n)).filter (jFp (jF7 n t) (q : Int))).length = (((List.range (2 ^ n)).filter fun s => jF7 n t s && decide (s ≠ 0) && decide (s ≠ 2 ^ n - 1)).filter fun s => decide (Wn s = q)).length := by
    rw [List.filter_filter, ← List.range_eq_range']
    congr 1
    refine List.filter_congr fun s hs => ?_
    rw [List.mem_range] at hs
    unfold jFp
    by_cases e : Wn s = q
    · have n0 : s ≠ 0 := fun h => by rw [h, show Wn 0 = 0 from rfl] at e; omega
      have n1 : s ≠ 2 ^ n - 1 := fun h => by rw [h, (jHs h1 hs).2] at e; omega
      rw [decide_eq_true e, decide_eq_true (show (Wn s : Int) = (q : Int) by omega), decide_eq_true n0, decide_eq_true n1, Bool.and_true, Bool.and_true]
    · rw [decide_eq_false e, decide_eq_false (show ¬ (Wn s : Int) = (q : Int) by omega), Bool.false_and, Bool.false_and]
  unfold jGp
  rw [List.length_map, e1, P.length_eq, List.filter_map, List.length_map]
  congr 2
  refine List.filter_congr fun ⟨a, b⟩ hx => ?_
  obtain ⟨ha, hb, hab⟩ := U.U0.1 hx
  simp only [Function.comp_def, decide_eq_decide]
  rw [(jHs h1 (U.jK8 n _)).1, U.jLy ha hb hab]
  have e : (List.range n).filter (fun k => decide (k ≠ a) && decide (k ≠ b) && decide (chi n t a b k = 1)) = (List.range' 0 n).filter fun k => decide (chi n t a b k = 1) := by
    rw [← List.range_eq_range']
    refine List.filter_congr fun k hk => ?_
    rw [List.mem_range] at hk
    by_cases g1 : k = a
    · subst g1
      rw [(Vq t h0 h1 (show k < 7 by omega) (show b < 7 by omega)).2.1]
      simp
    · by_cases g2 : k = b
      · subst g2
        rw [(Vq t h0 h1 (show k < 7 by omega) (show a < 7 by omega)).2.2]
        simp
      · rw [decide_eq_true g1, decide_eq_true g2]
        rfl
  rw [e]
  unfold leftV
  omega
end Go.Proofs.Ytckkfjdkaimmhaa.M
namespace Go.Proofs.Ytckkfjdkaimmhaa.Pure
open Go.RowKit Go.Proofs.YtckkfjdkaimmhaaW.PrintWords Go.Proofs.Ytckkfjdkaimmhaa.PX Go.Proofs.Ytckkfjdkaimmhaa.M Go.Proofs.Ytckkfjdkaimmhaa.G Go.Proofs.YtckkfjdkaimmhaaW.PrintMore
theorem jMk : ∀ N : Nat, N ≤ 7 → Kr.f (N : Int) = some ((Z4 N).length : Int) := by decide +kernel
theorem jL4 {n i j : Int} (h : (0 ≤ i ∧ i < n) ∧ (0 ≤ j ∧ j < n) ∧ i ≠ j) : jIa n [i, j] = true := by
 obtain ⟨hi, hj, hij⟩ := h
 simp [jIa, inR, List.range_succ, hi, hj, Ne.symm hij]
theorem jKb {n : Int} {t : ByteArray} {i j : Int} (h : jC7 n t i j ≥ 0) : jC7 n t i j + jC7 n t j i = n - 2 ∧ 3 ≤ n ∧ n ≤ 7 := by
 unfold jC7 at h ⊢
 by_cases g : Yi n t = true ∧ jIa n [i, j] = true
 ·obtain ⟨ha, hd⟩ := g
  obtain ⟨h1, h2, h3⟩ := jPl hd
  rw [if_pos ⟨ha, hd⟩, if_pos ⟨ha, jL4 ⟨h2, h1, Ne.symm h3⟩⟩]
  obtain ⟨N, rfl, _, h0, h7⟩ := Yu ha
  have := K4 t h0 h7 (show i.toNat < N by omega) (show j.toNat < N by omega) (by omega)
  rw [Int.toNat_natCast]
  omega
 ·rw [if_neg g] at h
  exact absurd h (by decide)
theorem jIz (n : Int) (t : ByteArray) : (jAt n t).length ≤ 10000 ∧ ∀ r ∈ jAt n t, r.length ≤ 10000 := by
 unfold jAt
 by_cases h : Yi n t = true
 ·rw [if_pos h]
  obtain ⟨N, rfl, _, h3, h7⟩ := Yu h
  have hl := jDu (N : Int).toNat (by omega)
  refine ⟨?_, fun r hr => ?_⟩
  ·rw [List.length_map]
   exact Nat.le_trans (Nat.le_trans (List.length_filter_le _ _) hl) (by omega)
  ·obtain ⟨q, _, rfl⟩ := List.mem_map.mp hr
   show 2 ≤ 10000
   omega
 ·rw [if_neg h]
  exact ⟨Nat.zero_le _, fun r hr => by cases hr⟩
theorem jGi (n : Int) (t : ByteArray) : (Ua n t).length ≤ 10000 ∧ ∀ r ∈ Ua n t, r.length ≤ 10000 := by
 unfold Ua
 by_cases h : Yi n t = true
 ·rw [if_pos h]
  obtain ⟨N, rfl, _, h3, h7⟩ := Yu h
  refine ⟨?_, fun r hr => ?_⟩
  ·rw [List.length_map, List.length_range']
   omega
  ·obtain ⟨q, _, rfl⟩ := List.mem_map.mp hr
   rw [Vn]
   omega
 ·rw [if_neg h]
  exact ⟨Nat.zero_le _, fun r hr => by cases hr⟩
section
variable (sn : Int) (st : ByteArray) (zs : st.size ≤ 9223372036854775807)
include zs
theorem jNg {N : Nat} (ha : Yi (N : Int) st = true) (h0 : 3 ≤ N) (h1 : N ≤ 7) (d : Nat) : ∀ m : Nat, m + d = N - 1 → Ev (fun k => Qd.l0 k (jBn (N : Int) st) (m : Int) (N : Int) st) true := by
 have rh := Ws ha h0 h1
 induction d with
 | zero =>
  intro m hm
  refine Ji ?_
  simp only [Qd.l0]
  rw [rh.1]
  refine Jn (by omega) (Zv (jMk N h1) (Ev.bind (jDp _ _ zs) (Ev.bind (jJ7 _ _ zs) (Y5 (Ev.now _) ?_))))
  have q := jGs ha h0 h1
  have qs := jHb N h1
  have c0 : 0 ≤ jEf (N : Int) st := by unfold jEf; rw [if_pos ha]; omega
  have c1 : jEf (N : Int) st ≤ 35 := by
   unfold jEf jE1 jHj
   rw [if_pos ha, if_pos ha, List.length_map, Int.toNat_natCast]
   have := List.length_filter_le (Kw N st) (Z4 N)
   omega
  rw [Qp (x := 3 * ((Z4 N).length : Int)) (by omega) (by omega), Qp (by omega) (by omega), show 3 * ((Z4 N).length : Int) - jBu (N : Int) st = jEf (N : Int) st by omega]
  exact beq_self_eq_true _
 | succ d ih =>
  intro m hm
  have nx := ih (m + 1) (by omega)
  have sy := jO5 ha h0 h1 (m := m) (by omega)
  refine Ji ?_
  simp only [Qd.l0]
  rw [rh.1, Qp (x := ((N - 1 : Nat) : Int) - 1) (by omega) (by omega), Qp (x := ((N - 1 : Nat) : Int) - 1 - (m : Int)) (by omega) (by omega), Qp (x := (m : Int) + 1) (by omega) (by omega), show ((N - 1 : Nat) : Int) - 1 - (m : Int) = ((N - 2 - m : Nat) : Int) by omega]
  exact Qm (by omega) (Qm (by omega) (Qm (by omega) (Qm (by omega) (Qm sy nx))))
theorem jMl : Ev (fun k => Qd.j2 k (jBn sn st) (Ua sn st) (jAt sn st) false sn st) true := by
 refine Ji ?_
 simp only [Qd.j2]
 refine Jn (by decide) (Ev.bind (V9 sn st zs) ?_)
 cases ha : Yi sn st with
 | false =>
  have e1 : jBn sn st = [] := by unfold jBn; rw [ha]; rfl
  have e2 : Ua sn st = [] := by unfold Ua; rw [ha]; rfl
  rw [e1, e2]
  exact Jn (by simp) (Qm rfl (Y5 (Ev.now _) rfl))
 | true =>
  obtain ⟨N, rfl, _, h0, h1⟩ := Yu ha
  have rh := Ws ha h0 h1
  have hs := jKx ha h0 h1
  have hb : ∀ x ∈ jBn (N : Int) st, 0 ≤ x ∧ x ≤ 1000 := by
   intro x hx
   obtain ⟨m, hm, rfl⟩ := List.mem_iff_getElem.1 hx
   have e := rh.2.1 m (by omega)
   unfold rd at e
   rw [Int.toNat_natCast, List.getD_eq_getElem?_getD, List.getElem?_eq_getElem hm, Option.getD_some] at e
   have l := List.length_filter_le (fun x => decide (leftV N st x.1 x.2 = m)) (U.prs N)
   rw [U.jDh h1] at l
   have : N * (N - 1) ≤ 42 := Nat.mul_le_mul h1 (show N - 1 ≤ 6 by omega)
   omega
  have tot := jMo (jBn (N : Int) st) (by omega) hb
  have np : (N : Int) * ((N : Int) - 1) ≤ 42 ∧ 0 ≤ (N : Int) * ((N : Int) - 1) := by
   have : N * (N - 1) ≤ 42 := Nat.mul_le_mul h1 (show N - 1 ≤ 6 by omega)
   have e : (N : Int) * ((N : Int) - 1) = ((N * (N - 1) : Nat) : Int) := by rw [Int.natCast_mul, Int.ofNat_sub (by omega)]; simp
   omega
  have hz := jEb (N : Int) st zs
  have he : jMu (N : Int) st = ((jPv N st).length : Int) := by
   unfold jMu
   rw [if_pos ha, Int.toNat_natCast]
   rfl
  rw [he] at hz
  have fin : Ev (fun k => Qd.j3 k (jBn (N : Int) st) (((jAt (N : Int) st).length : Int) == 0) (N : Int) st) true := by
   refine Ji ?_
   simp only [Qd.j3]
   refine Jn ?_ (jNg st zs ha h0 h1 (N - 1) 0 (by omega))
   rw [beq_iff_eq]
   omega
  rw [rh.1, Qp (x := (N : Int) - 1) (by omega) (by omega), Qp (x := (N : Int) * ((N : Int) - 1)) (by omega) (by omega)]
  exact Qm rfl (Qm (by omega) (Ev.bind tot (Qm rh.2.2 (Qm (by omega) (Ev.bind hz (Qm (row_zero ha h0 h1) fin))))))
variable (cn : Int) (ct : ByteArray) (zc : ct.size ≤ 9223372036854775807)
include zc
theorem jMy (q : Int) : Ev (fun k => Qd.j1 k (jBn sn st) (Ua sn st) q (jI3 cn ct q) (jAt sn st) false sn st cn ct) true := by
 have j2 := jMl sn st zs
 refine Ji ?_
 simp only [Qd.j1]
 refine Jn (by decide) (Ev.bind (V9 cn ct zc) ?_)
 cases ha : Yi cn ct with
 | false => exact Jn (by simp) j2
 | true =>
  refine Qm rfl ?_
  by_cases g1 : q ≥ 1
  ·refine Qm g1 ?_
   by_cases g2 : q < cn
   ·obtain ⟨N, rfl, _, h0, h1⟩ := Yu ha
    obtain ⟨Q, rfl⟩ := Int.eq_ofNat_of_zero_le (show 0 ≤ q by omega)
    have rh := Ws ha h0 h1
    have cc := jKz ha h0 h1 (q := Q) (by omega) (by omega)
    refine Qm g2 (Ev.bind (jFe (N : Int) ct zc) ?_)
    have e : jI3 (N : Int) ct (Q : Int) = jGp N (jF7 N ct) (Q : Int) := by
     unfold jI3
     rw [if_pos ⟨ha, by omega, by omega⟩, Int.toNat_natCast]
    rw [Qp (x := (Q : Int) - 1) (by omega) (by omega), show (Q : Int) - 1 = ((Q - 1 : Nat) : Int) by omega, rh.1, e, cc]
    refine Qm (by omega) (Qm (by omega) ?_)
    rw [bne_self_eq_false]
    exact j2
   ·exact Jn g2 j2
  ·exact Jn g1 j2
variable (an : Int) (at' : ByteArray) (za : at'.size ≤ 9223372036854775807)
include za
theorem jM8 (q i j : Int) : Ev (fun k => Qd.j0 k (jBn sn st) i j (Ua sn st) q (jI3 cn ct q) (jAt sn st) false sn st an at' cn ct) true := by
 have j1 := jMy sn st zs cn ct zc q
 refine Ji ?_
 simp only [Qd.j0]
 refine Jn (by decide) (Ev.bind (Wj an at' i j za) ?_)
 by_cases g : jC7 an at' i j ≥ 0
 ·have b := jKb g
  refine Qm g (Ev.bind (Wj an at' i j za) (Ev.bind (Wj an at' j i za) ?_))
  rw [b.1, bne_self_eq_false]
  exact j1
 ·exact Jn g j1
end
theorem jKi (l : List Int) (_ : l.length ≤ 9223372036854775807) (_ : ∀ x ∈ l, (Lit.int .u8 x).wf = true) :
  ∃ k, Qd.f k l = some true := by
 refine Ev.rounds (r := true) ?_
 unfold Qd.f Ur.f
 refine Zv rfl ?_
 by_cases hb : (l.length : Int) > 1048576
 ·exact Qm (decide_eq_true hb) (Ev.now _)
 refine Jn (by simpa using hb) ?_
 have hl : l.length ≤ 1048576 := by omega
 have drawR : ∃ (n : Int) (t : ByteArray), Ev (fun k => Yl.f k l) (n, t) ∧ jBv n t := by
  obtain ⟨h, n, t, i, h', hn, e, s, _⟩ := jHi hl
  exact ⟨n, t, by unfold Yl.f; exact Ev.bind hn (Ev.bind e (Ev.now _)), s⟩
 have drawC : ∃ (n : Int) (t : ByteArray) (i j : Int), Ev (fun k => Zg.f k l) (n, t, i, j) ∧ jBv n t := by
  obtain ⟨n, t, o, e, s, lo⟩ := jJ8 hl
  refine ⟨n, t, rd o 0, rd o 1, ?_, s⟩
  unfold Zg.f
  exact Ev.bind e (Qm (by simp only; omega) (Qm (by simp only; omega) (Ev.now _)))
 have drawK : ∃ (n : Int) (t : ByteArray) (q : Int), Ev (fun k => Ym.f k l) (n, t, q) ∧ jBv n t := by
  obtain ⟨h, n, t, i1, h1, hn, e1, m1, c1⟩ := jHi hl
  obtain ⟨x, i2, h2, e2, _, _, c2⟩ := Vu hl c1 h1 7
  obtain ⟨b, i3, h3, e3, c3⟩ := jB8 hl c2 h2 14
  refine ⟨n, t, wrap64 (x - (if b = true then 1 else 0)), ?_, m1⟩
  unfold Ym.f
  exact Ev.bind hn (Ev.bind e1 (Zv e2 (Zv e3 (Zv (jQb b) (Ev.now _)))))
 obtain ⟨sn, st, d1, ⟨_, ss⟩⟩ := drawR
 obtain ⟨an, at', i, j, d2, ⟨_, as'⟩⟩ := drawC
 obtain ⟨cn, ct, q, d3, ⟨_, cs⟩⟩ := drawK
 have z : ∀ {x : Nat}, x ≤ 101 → x ≤ 9223372036854775807 := fun h => by omega
 have zs := z ss
 have za := z as'
 have zc := z cs
 have j0 := jM8 sn st zs cn ct zc an at' za q i j
 have rl : (jBn sn st).length ≤ 10000000 := Nat.le_trans (jGo sn st) (by decide)
 have cl : (jI3 cn ct q).length ≤ 10000000 := Nat.le_trans (jGb cn ct q) (by decide)
 have tl := jGi sn st
 have hs := jIz sn st
 have r1 := jJh sn st zs
 have r2 := jFe sn st zs
 have t1 := jD0 sn st zs
 have t2 := jIg sn st zs
 have u1 := jFq cn ct q zc
 have u2 := jFr cn ct q zc
 have v1 := jJg sn st zs
 have v2 := jKy sn st zs
 have w1 := jDp sn st zs
 have w2 := jH0 sn st zs
 have y1 := Wj an at' i j za
 have y2 := jIy an at' i j za
 generalize jBn sn st = R at j0 rl r1 r2
 generalize Ua sn st = T at j0 tl t1 t2
 generalize jI3 cn ct q = C at j0 cl u1 u2
 generalize jAt sn st = H at j0 hs v1 v2
 generalize jBu sn st = X at w1 w2
 generalize jC7 an at' i j = Y at y1 y2
 have last : Ev (fun k => (Je.f k sn st).bind fun aA => ((Qv.f k sn st).bind fun aC => (Qd.j0 k R i j T q C H (aA != aC) sn st an at' cn ct))) true := by
  refine Ev.bind w1 (Ev.bind w2 ?_)
  rw [bne_self_eq_false]
  exact j0
 refine Ev.bind d1 (Ev.bind r1 (Ev.bind d2 (Ev.bind t1 (Ev.bind d3 (Ev.bind u1 (Ev.bind v1 (Ev.bind r2 (Ev.bind (Un R rl) (Qm rfl ?_)))))))))
 refine Ev.bind y1 (Ev.bind y2 (Qm rfl (Ev.bind t2 (Ev.bind (Wy T tl) (Qm rfl (Ev.bind u2 (Ev.bind (Un C cl) (Qm rfl ?_))))))))
 exact Ev.bind v2 (Ev.bind (Wy H hs) (Qm rfl last))
end Go.Proofs.Ytckkfjdkaimmhaa.Pure
namespace Go.Proofs.Ytckkfjdkaimmhaa.fnLefts
open Go.ChangeShapes Go.WideShapes Go.ChangeAt Go.RowKit Go.Joins
open Go.ChangeMaps (open_string shut_string)
set_option linter.unusedVariables false
theorem own : ownKnob Try.prog.godebug = none := by kernel_rfl
theorem jSh {H : Type} {enc : TypeId × Value → H} {P : Program} {w : World} {base : Nat} {spare : Nat → Bool} {held : Bool} {t : TypeId} {s : ByteArray} (ht : P.underlying t = some .string) (hs : s.size ≤ maxLen) : DataW.trod enc P w base spare held 1 t [.string s] = some (.lit (.string s.data.toList), []) := by
 simp [DataW.trod, ht, hs]
theorem laidOut : laidOutB Try.prog = true := by kernel_rfl
def jR0 (k : IntKind) (w : World) (a : Option Addr) (len cap : Nat) (zs : List Int) : Prop :=
 (a = none ∧ len = 0 ∧ cap = 0 ∧ zs = []) ∨
 ∃ x, a = some x ∧ len ≤ cap ∧ cap ≤ maxLen ∧ zs.length = cap ∧ (∀ i, i < zs.length → w.cell? (x.add i) = some (.int k (zs.getD i 0))) ∧ ∀ n ∈ zs, (Lit.int k n).wf = true
set_option maxRecDepth 100000 in
theorem lifted (os : Os) (started : os.Started) (H : Type) (enc : TypeId × Value → H) :
  ReturnsInHanded {} Try.checked os 6 .any (Rows.fnLeftsSpec.pre6 enc Try.prog Try.f6 Rows.fnLeftsRow.domain false) (Rows.fnLeftsSpec.post enc Try.prog Try.f6 false true false false) := by
 refine returnsInHanded_of_change_sized (C := Try.checked) own started (by kernel_rfl) Try.func6
  (ChangeSpec.witness6 (enc := enc) (C := Try.checked) false ⟨#[], #[.slice none 0 0], []⟩ 8 (by kernel_rfl) (by kernel_rfl) (by kernel_rfl) (by kernel_rfl)) ?_
 intro W base args ds gs before hval0 hW hcnd hsz0 _
 have hsz : (DataW.weightsEach Try.prog (Try.f6.params.toList ++ Rows.fnLeftsSpec.plain.varTypes Try.prog) (ds ++ gs)).all (· ≤ reachBytes) = true := hsz0
 have hval : ∀ (j : Nat) t v, Try.f6.params[j]? = some t → args[j]? = some v → Value.okWide Try.prog W .any base t v := hval0
 have hW' := hW
 obtain ⟨p, q, aC, hV, rfl, hfz, hnd⟩ := hW
 have hA : DataW.TrodAll enc Try.prog W 0 (fun _ => true) true Try.f6.params.toList args.toList ds p := aC
 rw [Try.params6] at hA hval hsz
 obtain ⟨v0, aG, d0, ds0, p0, q0, hargs, rfl, rfl, h0, r0⟩ := trodAll_cons hA
 obtain ⟨rfl, rfl, rfl⟩ := trodAll_nil r0
 obtain rfl : args = #[v0] := by cases args; simp_all
 obtain ⟨rfl, rfl⟩ := trodVars_none hV
 obtain ⟨a0, aA, cap0, rfl⟩ := okWide_slice Try.underlying22 (hval 0 22 v0 rfl rfl)
 have k0 := h0
 have aD : ∀ x ∈ p0, x.block < W.heap.size := by obtain ⟨m, hm⟩ := k0; exact DataW.trod_lt m _ _ _ hm
 obtain ⟨z0, w0⟩ : ∃ zs, jR0 .u8 W a0 aA cap0 zs := by
  obtain ⟨fuel, hf⟩ := h0
  rcases open_ints Try.underlying22 Try.underlying5 (by kernel_rfl) hf with ⟨hcs, _⟩ | ⟨x, l, c, zs, hcs, _, hl, hm, hz, _, hcell, hwz⟩
  ·simp [Value.cells] at hcs
   obtain ⟨rfl, rfl, rfl⟩ := hcs
   exact ⟨[], .inl ⟨rfl, rfl, rfl, rfl⟩⟩
  ·simp [Value.cells] at hcs
   obtain ⟨rfl, rfl, rfl⟩ := hcs
   exact ⟨zs, .inr ⟨_, rfl, hl, hm, by simpa using hz, hcell, hwz⟩⟩
 obtain ⟨l0, rfl, hr0, hm0, hw0, hc0⟩ := Go.Proofs.YtckkfjdkaimmhaaW.PrintWords.Yt.ofRowC w0
 clear aC hval0 hsz0 hsz
 obtain ⟨k, hP⟩ := Pure.jKi l0 (Nat.le_trans hm0 (by decide)) hw0
 refine (PX.Qd.calls k _ _ l0 true W (Go.Proofs.YtckkfjdkaimmhaaW.PrintWords.Kd.C_of_reads (d := (0 : Int)) (h1 := fun _ => rfl) hr0) hc0 hP rfl).mono fun e W' ⟨he, bel⟩ => ?_
 subst he
 exact ⟨_, rfl, _, _, _, [], _, [], hW', trodAll_mk1 (shut_bool Try.underlying4 _), (trodAll_cons_mk (Below.trod laidOut (by kernel_rfl) (of_decide_eq_true (by kernel_rfl)) k0 bel aD) trodAll_mk0), rfl, bel.frame _, fun h => by cases h⟩
theorem over : Rows.fnLeftsRow.holds Try.pinned (OpenSpec.ofChange Rows.fnLeftsSpec) :=
 OpenClaim.holds_of_wide 6 Try.f6 rfl rfl rfl rfl rfl rfl rfl ⟨rfl, rfl, rfl, rfl, rfl⟩ rfl rfl rfl rfl rfl (by kernel_rfl) Try.func6 (by kernel_rfl)
  (of_decide_eq_true (by kernel_rfl)) (by unfold Func.isWrapper; first | (rw [if_pos (by decide +kernel)]; kernel_rfl) | (rw [if_neg (by decide +kernel)]; exact ⟨rfl, rfl⟩))
  (fun os started H enc _ => lifted os started H enc)
theorem proved : Rows.FnLeftsSaid := over
#print axioms proved
end Go.Proofs.Ytckkfjdkaimmhaa.fnLefts
namespace Go.Proofs.Ytckkfjdkaimmhaa
theorem fnLefts_holds : Rows.FnLeftsSaid := fnLefts.proved
end Go.Proofs.Ytckkfjdkaimmhaa
