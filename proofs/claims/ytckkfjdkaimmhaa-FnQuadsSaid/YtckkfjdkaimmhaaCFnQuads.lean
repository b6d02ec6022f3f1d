/- FnQuads returns true for all arguments and leaves them as they were. No condition. -/
import Derived.Test.YtckkfjdkaimmhaaProg
import Derived.Test.YtckkfjdkaimmhaaRows
import Derived.WalkKit
import Derived.ProofKit
import Derived.OpenShut
import Derived.ShutString
import Derived.ChangeOld
import Derived.Below
import Derived.SizedLaws
import Derived.Lib.SmallJoins
import Derived.ChangeSame
import Derived.Test.YtckkfjdkaimmhaaV1
import Derived.Test.YtckkfjdkaimmhaaBgcxijk1
import Derived.Test.YtckkfjdkaimmhaaBgcxijk2
import Derived.Test.YtckkfjdkaimmhaaBgcxijk3
import Derived.Test.YtckkfjdkaimmhaaBgcxijk4
import Derived.Test.YtckkfjdkaimmhaaBgcxijk5
set_option linter.unusedVariables false
set_option linter.unusedSimpArgs false
namespace Go.Proofs.Ytckkfjdkaimmhaa.M
open Go.RowKit Go.Proofs.YtckkfjdkaimmhaaW.PrintWords Go.Proofs.Ytckkfjdkaimmhaa.PX Go.Proofs.Ytckkfjdkaimmhaa.G Go.Proofs.YtckkfjdkaimmhaaW.PrintMore
def oneB (p q r : Bool) : Bool := (p && !q && !r) || (!p && q && !r) || (!p && !q && r)
def nallB (p q r : Bool) : Bool := !(p && q && r)
def fourQ (p q r : Bool) (a b c d : Nat) : Bool :=
  decide ((splitN p q r a b c d).1 < 128) && decide ((splitN p q r a b c d).2 < 128) && decide (0 < (splitN p q r a b c d).1) && decide (Go.bits .and .i64 ((splitN p q r a b c d).1 : Int) ((splitN p q r a b c d).2 : Int) = 0) &&
  decide (popN (splitN p q r a b c d).1 + popN (splitN p q r a b c d).2 = 4) && decide (1 ≤ popN (splitN p q r a b c d).1) && (decide (popN (splitN p q r a b c d).1 ≤ 3) == nallB p q r) && (decide (popN (splitN p q r a b c d).1 = 2) == oneB p q r) &&
  (!nallB p q r || (decide (mx (onlyV (splitN p q r a b c d).1) (onlyV (splitN p q r a b c d).2) < 0) == oneB p q r)) && decide (-1 ≤ mx (onlyV (splitN p q r a b c d).1) (onlyV (splitN p q r a b c d).2)) &&
  decide (splitN p (if p then q else !q) (if p then r else !r) b a c d = if p then splitN p q r a b c d else ((splitN p q r a b c d).2, (splitN p q r a b c d).1))
def fourChk : Bool := (List.range 7).all fun a => (List.range 7).all fun b => (List.range 7).all fun c => (List.range 7).all fun d => !dist4 a b c d || twos.all fun p => twos.all fun q => twos.all fun r => fourQ p q r a b c d
theorem fourChk_ok : fourChk = true := by decide +kernel
theorem four_facts {a b c d : Nat} (ha : a < 7) (hb : b < 7) (hc : c < 7) (hd : d < 7) (h : dist4 a b c d = true) (p q r : Bool) : fourQ p q r a b c d = true := by
  have g := List.all_eq_true.1 fourChk_ok a (List.mem_range.2 ha)
  have g := List.all_eq_true.1 g b (List.mem_range.2 hb)
  have g := List.all_eq_true.1 g c (List.mem_range.2 hc)
  have g := List.all_eq_true.1 g d (List.mem_range.2 hd)
  rw [h, Bool.not_true, Bool.false_or] at g
  have g := List.all_eq_true.1 g p (by cases p <;> decide)
  have g := List.all_eq_true.1 g q (by cases q <;> decide)
  exact List.all_eq_true.1 g r (by cases r <;> decide)
def qP (X1 X2 X3 X4 : Int) (k : Bool → Bool → Bool → Bool) : Bool := k (decide (-X1 * X2 > 0)) (decide (X1 * X3 > 0)) (decide (-X1 * X4 > 0))
theorem nall_of {X1 X2 X3 X4 : Int} (h1 : X1 = 1 ∨ X1 = -1) (h2 : X2 = 1 ∨ X2 = -1) (h3 : X3 = 1 ∨ X3 = -1) (h4 : X4 = 1 ∨ X4 = -1) (h : ¬ (X2 = -X1 ∧ X3 = X1 ∧ X4 = -X1)) : qP X1 X2 X3 X4 nallB = true := by
  rcases h1 with rfl | rfl <;> rcases h2 with rfl | rfl <;> rcases h3 with rfl | rfl <;> rcases h4 with rfl | rfl <;> first | rfl | (exact absurd (by decide) h)
section
variable {n : Nat} {t : ByteArray} (o : Ord n (chi n t)) (h1 : n ≤ 7) {a b c d : Nat} (ha : a < n) (hb : b < n) (hc : c < n) (hd : d < n) (hx : dist4 a b c d = true)
include o h1 ha hb hc hd hx
theorem four_nall : qP (chi n t b c d) (chi n t a c d) (chi n t a b d) (chi n t a b c) nallB = true := by
  have _ := h1
  obtain ⟨e1, e2, e3, e4, e5, e6⟩ := dist4_iff.1 hx
  exact nall_of (o.pm b c d hb hc hd e4 e6 e5) (o.pm a c d ha hc hd e2 e6 e3) (o.pm a b d ha hb hd e1 e5 e3) (o.pm a b c ha hb hc e1 e4 e2) (o.ac a b c d ha hb hc hd hx)
theorem split_facts : (splitV n t a b c d).1 < 128 ∧ (splitV n t a b c d).2 < 128 ∧ 0 < (splitV n t a b c d).1 ∧ Go.bits .and .i64 ((splitV n t a b c d).1 : Int) ((splitV n t a b c d).2 : Int) = 0 ∧ popN (splitV n t a b c d).1 + popN (splitV n t a b c d).2 = 4 ∧
    1 ≤ popN (splitV n t a b c d).1 ∧ popN (splitV n t a b c d).1 ≤ 3 ∧ (innerV n t a b c d < 0 ↔ popN (splitV n t a b c d).1 = 2) ∧ -1 ≤ innerV n t a b c d ∧ (decide (innerV n t a b c d < 0) = qP (chi n t b c d) (chi n t a c d) (chi n t a b d) (chi n t a b c) oneB) := by
  have g := four_facts (show a < 7 by omega) (show b < 7 by omega) (show c < 7 by omega) (show d < 7 by omega) hx (decide (-(chi n t b c d) * chi n t a c d > 0)) (decide (chi n t b c d * chi n t a b d > 0)) (decide (-(chi n t b c d) * chi n t a b c > 0))
  have m : nallB (decide (-(chi n t b c d) * chi n t a c d > 0)) (decide (chi n t b c d * chi n t a b d > 0)) (decide (-(chi n t b c d) * chi n t a b c > 0)) = true := four_nall o h1 ha hb hc hd hx
  unfold fourQ at g
  rw [m] at g
  simp only [Bool.and_eq_true, decide_eq_true_eq, beq_iff_eq, Bool.not_true, Bool.false_or] at g
  obtain ⟨⟨⟨⟨⟨⟨⟨⟨⟨⟨g1, g2⟩, g3⟩, g4⟩, g5⟩, g6⟩, g7⟩, g8⟩, g9⟩, g10⟩, _⟩ := g
  refine ⟨g1, g2, g3, g4, g5, g6, g7, ?_, g10, g9⟩
  have e := g9.trans g8.symm
  exact decide_eq_decide.1 e
theorem split_swap : splitV n t b a c d = splitV n t a b c d ∨ splitV n t b a c d = ((splitV n t a b c d).2, (splitV n t a b c d).1) := by
  obtain ⟨e1, e2, e3, e4, e5, e6⟩ := dist4_iff.1 hx
  have g := four_facts (show a < 7 by omega) (show b < 7 by omega) (show c < 7 by omega) (show d < 7 by omega) hx (decide (-(chi n t b c d) * chi n t a c d > 0)) (decide (chi n t b c d * chi n t a b d > 0)) (decide (-(chi n t b c d) * chi n t a b c > 0))
  unfold fourQ at g
  have g := of_decide_eq_true ((Bool.and_eq_true _ _).mp g).2
  have s : splitV n t b a c d = splitN (decide (-(chi n t b c d) * chi n t a c d > 0)) (if decide (-(chi n t b c d) * chi n t a c d > 0) = true then decide (chi n t b c d * chi n t a b d > 0) else !decide (chi n t b c d * chi n t a b d > 0))
      (if decide (-(chi n t b c d) * chi n t a c d > 0) = true then decide (-(chi n t b c d) * chi n t a b c > 0) else !decide (-(chi n t b c d) * chi n t a b c > 0)) b a c d := by
    unfold splitV
    rw [o.s1 a b d ha hb hd, o.s1 a b c ha hb hc]
    rcases o.pm b c d hb hc hd e4 e6 e5 with x | x <;> rcases o.pm a c d ha hc hd e2 e6 e3 with y | y <;> rcases o.pm a b d ha hb hd e1 e5 e3 with z | z <;> rcases o.pm a b c ha hb hc e1 e4 e2 with w | w <;> rw [x, y, z, w] <;> rfl
  rw [s, g]
  by_cases k : decide (-(chi n t b c d) * chi n t a c d > 0) = true
  · rw [if_pos k]; exact Or.inl rfl
  · rw [if_neg k]; exact Or.inr rfl
theorem inner_swap : innerV n t b a c d = innerV n t a b c d := by
  unfold innerV
  rcases split_swap o h1 ha hb hc hd hx with e | e
  · rw [e]
  · rw [e]
    show mx (onlyV (splitV n t a b c d).2) (onlyV (splitV n t a b c d).1) = mx (onlyV (splitV n t a b c d).1) (onlyV (splitV n t a b c d).2)
    generalize onlyV (splitV n t a b c d).1 = x
    generalize onlyV (splitV n t a b c d).2 = y
    unfold mx
    split <;> split <;> omega
end
def gpc (ab cd ad bc ac bd : Int) : Bool := !(decide (ab * cd = ad * bc) && decide (ad * bc = -ac * bd))
def klein (a b c d e f g h i j : Int) : Bool :=
  !(gpc a f c d b e && gpc (-a) i (-c) g (-b) h && gpc a j (-e) (-g) (-d) (-h) && gpc b (-j) (-f) g d (-i) && gpc c j f h e i && qP g d b a nallB && qP h e c a nallB && qP i f c b nallB && qP j f e d nallB && qP j i h g nallB) ||
  qP g d b a oneB || qP h e c a oneB || qP i f c b oneB || qP j f e d oneB || qP j i h g oneB
def kleinChk : Bool := pm.all fun a => pm.all fun b => pm.all fun c => pm.all fun d => pm.all fun e => pm.all fun f => pm.all fun g => pm.all fun h => pm.all fun i => pm.all fun j => klein a b c d e f g h i j
theorem kleinChk_ok : kleinChk = true := by decide +kernel
theorem gpc_of {ab cd ad bc ac bd : Int} (h : ¬ (ab * cd = ad * bc ∧ ad * bc = -ac * bd)) : gpc ab cd ad bc ac bd = true := by
  unfold gpc
  rw [Bool.not_eq_true', Bool.and_eq_false_iff, decide_eq_false_iff_not, decide_eq_false_iff_not]
  by_cases k : ab * cd = ad * bc
  · exact Or.inr fun k' => h ⟨k, k'⟩
  · exact Or.inl k
theorem five_conv {n : Nat} {t : ByteArray} (o : Ord n (chi n t)) (h5 : 5 ≤ n) (h1 : n ≤ 7) : ∃ q ∈ quadsL n, noInner n t q = true := by
  have d : ∀ {a b c d : Nat}, a < b → b < c → c < d → dist4 a b c d = true := fun h1 h2 h3 => dist4_iff.2 (by omega)
  have P : ∀ {a b c : Nat}, a < b → b < c → c < 5 → chi n t a b c ∈ pm := fun h1 h2 h3 => pm_mem (o.pm _ _ _ (by omega) (by omega) (by omega) (by omega) (by omega) (by omega))
  have g := kleinChk_ok
  unfold kleinChk at g
  have g := List.all_eq_true.1 g _ (P (a := 0) (b := 1) (c := 2) (by omega) (by omega) (by omega))
  have g := List.all_eq_true.1 g _ (P (a := 0) (b := 1) (c := 3) (by omega) (by omega) (by omega))
  have g := List.all_eq_true.1 g _ (P (a := 0) (b := 1) (c := 4) (by omega) (by omega) (by omega))
  have g := List.all_eq_true.1 g _ (P (a := 0) (b := 2) (c := 3) (by omega) (by omega) (by omega))
  have g := List.all_eq_true.1 g _ (P (a := 0) (b := 2) (c := 4) (by omega) (by omega) (by omega))
  have g := List.all_eq_true.1 g _ (P (a := 0) (b := 3) (c := 4) (by omega) (by omega) (by omega))
  have g := List.all_eq_true.1 g _ (P (a := 1) (b := 2) (c := 3) (by omega) (by omega) (by omega))
  have g := List.all_eq_true.1 g _ (P (a := 1) (b := 2) (c := 4) (by omega) (by omega) (by omega))
  have g := List.all_eq_true.1 g _ (P (a := 1) (b := 3) (c := 4) (by omega) (by omega) (by omega))
  have g := List.all_eq_true.1 g _ (P (a := 2) (b := 3) (c := 4) (by omega) (by omega) (by omega))
  have s1 : ∀ {a b c : Nat}, a < 5 → b < 5 → c < 5 → chi n t b a c = -chi n t a b c := fun h1 h2 h3 => o.s1 _ _ _ (by omega) (by omega) (by omega)
  have s2 : ∀ {a b c : Nat}, a < 5 → b < 5 → c < 5 → chi n t a c b = -chi n t a b c := fun h1 h2 h3 => o.s2 _ _ _ (by omega) (by omega) (by omega)
  have r3 : ∀ {a b c : Nat}, a < 5 → b < 5 → c < 5 → chi n t c a b = chi n t a b c := fun h1 h2 h3 => by
    rw [s1 (a := _) (b := _) h1 h3 h2, s2 h1 h2 h3, Int.neg_neg]
  have G : ∀ x a b c d, x < 5 → a < b → b < c → c < d → d < 5 → x ≠ a → x ≠ b → x ≠ c → x ≠ d → gpc (chi n t x a b) (chi n t x c d) (chi n t x a d) (chi n t x b c) (chi n t x a c) (chi n t x b d) = true := fun x a b c d' hx hab hbc hcd hd k1 k2 k3 k4 =>
    gpc_of (o.gp x a b c d' (by omega) (by omega) (by omega) (by omega) (by omega) (d hab hbc hcd) k1 k2 k3 k4)
  have G0 := G 0 1 2 3 4 (by omega) (by omega) (by omega) (by omega) (by omega) (by omega) (by omega) (by omega) (by omega)
  have G1 := G 1 0 2 3 4 (by omega) (by omega) (by omega) (by omega) (by omega) (by omega) (by omega) (by omega) (by omega)
  have G2 := G 2 0 1 3 4 (by omega) (by omega) (by omega) (by omega) (by omega) (by omega) (by omega) (by omega) (by omega)
  have G3 := G 3 0 1 2 4 (by omega) (by omega) (by omega) (by omega) (by omega) (by omega) (by omega) (by omega) (by omega)
  have G4 := G 4 0 1 2 3 (by omega) (by omega) (by omega) (by omega) (by omega) (by omega) (by omega) (by omega) (by omega)
  rw [s1 (a := 0) (b := 1) (c := 2) (by omega) (by omega) (by omega), s1 (a := 0) (b := 1) (c := 4) (by omega) (by omega) (by omega), s1 (a := 0) (b := 1) (c := 3) (by omega) (by omega) (by omega)] at G1
  rw [r3 (a := 0) (b := 1) (c := 2) (by omega) (by omega) (by omega), s1 (a := 0) (b := 2) (c := 4) (by omega) (by omega) (by omega), s1 (a := 1) (b := 2) (c := 3) (by omega) (by omega) (by omega), s1 (a := 0) (b := 2) (c := 3) (by omega) (by omega) (by omega), s1 (a := 1) (b := 2) (c := 4) (by omega) (by omega) (by omega)] at G2
  rw [r3 (a := 0) (b := 1) (c := 3) (by omega) (by omega) (by omega), s1 (a := 2) (b := 3) (c := 4) (by omega) (by omega) (by omega), s1 (a := 0) (b := 3) (c := 4) (by omega) (by omega) (by omega), r3 (a := 1) (b := 2) (c := 3) (by omega) (by omega) (by omega), r3 (a := 0) (b := 2) (c := 3) (by omega) (by omega) (by omega), s1 (a := 1) (b := 3) (c := 4) (by omega) (by omega) (by omega)] at G3
  rw [r3 (a := 0) (b := 1) (c := 4) (by omega) (by omega) (by omega), r3 (a := 2) (b := 3) (c := 4) (by omega) (by omega) (by omega), r3 (a := 0) (b := 3) (c := 4) (by omega) (by omega) (by omega), r3 (a := 1) (b := 2) (c := 4) (by omega) (by omega) (by omega), r3 (a := 0) (b := 2) (c := 4) (by omega) (by omega) (by omega), r3 (a := 1) (b := 3) (c := 4) (by omega) (by omega) (by omega)] at G4
  have A : ∀ {a b c d' : Nat}, a < b → b < c → c < d' → d' < 5 → qP (chi n t b c d') (chi n t a c d') (chi n t a b d') (chi n t a b c) nallB = true := fun hab hbc hcd hd => four_nall o h1 (by omega) (by omega) (by omega) (by omega) (d hab hbc hcd)
  have Q : ∀ {a b c d' : Nat}, a < b → b < c → c < d' → d' < 5 → qP (chi n t b c d') (chi n t a c d') (chi n t a b d') (chi n t a b c) oneB = true → ∃ q ∈ quadsL n, noInner n t q = true := fun {a b c d'} hab hbc hcd hd k =>
    ⟨(a, b, c, d'), quads_mem hab hbc hcd (by omega), (split_facts o h1 (by omega) (by omega) (by omega) (by omega) (d hab hbc hcd)).2.2.2.2.2.2.2.2.2.trans k⟩
  unfold klein at g
  rw [G0, G1, G2, G3, G4, A (a := 0) (b := 1) (c := 2) (d' := 3) (by omega) (by omega) (by omega) (by omega), A (a := 0) (b := 1) (c := 2) (d' := 4) (by omega) (by omega) (by omega) (by omega), A (a := 0) (b := 1) (c := 3) (d' := 4) (by omega) (by omega) (by omega) (by omega),
    A (a := 0) (b := 2) (c := 3) (d' := 4) (by omega) (by omega) (by omega) (by omega), A (a := 1) (b := 2) (c := 3) (d' := 4) (by omega) (by omega) (by omega) (by omega)] at g
  simp only [Bool.and_self, Bool.not_true, Bool.false_or, Bool.or_eq_true] at g
  rcases g with (((g | g) | g) | g) | g
  · exact Q (by omega) (by omega) (by omega) (by omega) g
  · exact Q (by omega) (by omega) (by omega) (by omega) g
  · exact Q (by omega) (by omega) (by omega) (by omega) g
  · exact Q (by omega) (by omega) (by omega) (by omega) g
  · exact Q (by omega) (by omega) (by omega) (by omega) g
end Go.Proofs.Ytckkfjdkaimmhaa.M
namespace Go.Proofs.Ytckkfjdkaimmhaa.M
open Go.RowKit Go.Proofs.YtckkfjdkaimmhaaW.PrintWords Go.Proofs.Ytckkfjdkaimmhaa.PX Go.Proofs.Ytckkfjdkaimmhaa.G Go.Proofs.YtckkfjdkaimmhaaW.PrintMore
def splitA (n : Int) (t : ByteArray) (a b c d : Int) : Int × Int := if acyOk n t = true ∧ areD n [a, b, c, d] = true then (((splitV n.toNat t a.toNat b.toNat c.toNat d.toNat).1 : Int), ((splitV n.toNat t a.toNat b.toNat c.toNat d.toNat).2 : Int)) else (0, 0)
theorem impl_splitOf (n : Int) (t : ByteArray) (a b c d : Int) (hs : t.size ≤ 9223372036854775807) : Ev (fun k => impl_SplitOf.f k n t a b c d) (splitA n t a b c d) := by
  unfold impl_SplitOf.f splitA
  refine Ev.bind (order_ev n t hs) ?_
  by_cases h : acyOk n t = true
  · rw [if_pos h]
    obtain ⟨N, rfl, ho, h0, h1⟩ := acy_are h
    refine ev_pos rfl (Ev.bind (different_ev N [a, b, c, d] (by simp)) ?_)
    by_cases hd : areD N [a, b, c, d] = true
    · rw [if_pos ⟨h, hd⟩]
      obtain ⟨A, B, C, D, rfl, rfl, rfl, rfl, ha, hb, hc, hdd, hx⟩ := four_nat hd
      simp only [Int.toNat_natCast]
      exact ev_pos hd (ev_pos (tblL_length _ _) (Ev.bind (impl_split ho ha hb hc hdd hx) (Ev.now _)))
    · rw [if_neg (fun e => hd e.2)]
      exact ev_neg hd (Ev.now _)
  · rw [if_neg h, if_neg (fun e => h e.1)]
    exact ev_neg (by simp) (Ev.now _)
theorem spec_splitOf (n : Int) (t : ByteArray) (a b c d : Int) (hs : t.size ≤ 9223372036854775807) : Ev (fun k => spec_SplitOf.f k n t a b c d) (splitA n t a b c d) := by
  unfold spec_SplitOf.f splitA
  refine ev_call rfl (Ev.bind (spec_isA n t hs) ?_)
  by_cases h : acyOk n t = true
  · obtain ⟨N, rfl, ho, h0, h1⟩ := acy_are h
    refine ev_pos h (Ev.bind (dif5_ev (by omega) (by omega) [a, b, c, d] (by simp)) ?_)
    by_cases hd : areD N [a, b, c, d] = true
    · rw [if_pos ⟨h, hd⟩]
      obtain ⟨A, B, C, D, rfl, rfl, rfl, rfl, ha, hb, hc, hdd, hx⟩ := four_nat hd
      simp only [Int.toNat_natCast]
      exact ev_pos hd (Ev.bind (spec_split ho ha hb hc hdd hx) (Ev.now _))
    · rw [if_neg (fun e => hd e.2)]
      exact ev_neg hd (Ev.now _)
  · rw [if_neg (fun e => h e.1)]
    exact ev_neg h (Ev.now _)
end Go.Proofs.Ytckkfjdkaimmhaa.M
namespace Go.Proofs.Ytckkfjdkaimmhaa.M
open Go.RowKit Go.Proofs.YtckkfjdkaimmhaaW.PrintWords Go.Proofs.Ytckkfjdkaimmhaa.PX Go.Proofs.Ytckkfjdkaimmhaa.G Go.Proofs.YtckkfjdkaimmhaaW.PrintMore
def innerA (n : Int) (t : ByteArray) (a b c d : Int) : Int := if acyOk n t = true ∧ areD n [a, b, c, d] = true then innerV n.toNat t a.toNat b.toNat c.toNat d.toNat else -1
theorem impl_innerOf (n : Int) (t : ByteArray) (a b c d : Int) (hs : t.size ≤ 9223372036854775807) : Ev (fun k => impl_InnerOf.f k n t a b c d) (innerA n t a b c d) := by
  unfold impl_InnerOf.f innerA
  refine Ev.bind (order_ev n t hs) ?_
  by_cases h : acyOk n t = true
  · rw [if_pos h]
    obtain ⟨N, rfl, ho, h0, h1⟩ := acy_are h
    refine ev_pos rfl (Ev.bind (different_ev N [a, b, c, d] (by simp)) ?_)
    by_cases hd : areD N [a, b, c, d] = true
    · rw [if_pos ⟨h, hd⟩]
      obtain ⟨A, B, C, D, rfl, rfl, rfl, rfl, ha, hb, hc, hdd, hx⟩ := four_nat hd
      simp only [Int.toNat_natCast]
      exact ev_pos hd (ev_pos (tblL_length _ _) (Ev.bind (impl_inner ho ha hb hc hdd hx) (Ev.now _)))
    · rw [if_neg (fun e => hd e.2)]
      exact ev_neg hd (Ev.now _)
  · rw [if_neg h, if_neg (fun e => h e.1)]
    exact ev_neg (by simp) (Ev.now _)
theorem spec_innerOf (n : Int) (t : ByteArray) (a b c d : Int) (hs : t.size ≤ 9223372036854775807) : Ev (fun k => spec_InnerOf.f k n t a b c d) (innerA n t a b c d) := by
  unfold spec_InnerOf.f innerA
  refine Ev.bind (spec_splitOf n t a b c d hs) ?_
  unfold splitA
  by_cases h : acyOk n t = true ∧ areD n [a, b, c, d] = true
  · rw [if_pos h, if_pos h]
    obtain ⟨h, hd⟩ := h
    obtain ⟨N, rfl, ho, h0, h1⟩ := acy_are h
    obtain ⟨A, B, C, D, rfl, rfl, rfl, rfl, ha, hb, hc, hdd, hx⟩ := four_nat hd
    simp only [Int.toNat_natCast]
    obtain ⟨l1, l2⟩ := splitV_lt t (a := A) (b := B) (c := C) (d := D) (n := N) (by omega) (by omega) (by omega) (by omega) hx
    exact Ev.bind (only_ev l1) (Ev.bind (only_ev l2) (ev_call (spec_max _ _) (Ev.now _)))
  · rw [if_neg h, if_neg h]
    exact Ev.bind (only_ev (s := 0) (by omega)) (Ev.bind (only_ev (s := 0) (by omega)) (ev_call (spec_max _ _) (ev_cast (Ev.now _) (by decide))))
end Go.Proofs.Ytckkfjdkaimmhaa.M
namespace Go.Proofs.Ytckkfjdkaimmhaa.M
open Go.RowKit Go.Proofs.YtckkfjdkaimmhaaW.PrintWords Go.Proofs.Ytckkfjdkaimmhaa.PX Go.Proofs.Ytckkfjdkaimmhaa.G Go.Proofs.YtckkfjdkaimmhaaW.PrintMore
def insideA (n : Int) (t : ByteArray) (a b c d : Int) : Bool := if acyOk n t = true ∧ areD n [a, b, c, d] = true then innerV n.toNat t a.toNat b.toNat c.toNat d.toNat == a else false
theorem impl_isInside (n : Int) (t : ByteArray) (a b c d : Int) (hs : t.size ≤ 9223372036854775807) : Ev (fun k => impl_IsInside.f k n t a b c d) (insideA n t a b c d) := by
  unfold impl_IsInside.f insideA
  refine Ev.bind (order_ev n t hs) ?_
  by_cases h : acyOk n t = true
  · rw [if_pos h]
    obtain ⟨N, rfl, ho, h0, h1⟩ := acy_are h
    refine ev_pos rfl (Ev.bind (different_ev N [a, b, c, d] (by simp)) ?_)
    by_cases hd : areD N [a, b, c, d] = true
    · rw [if_pos ⟨h, hd⟩]
      obtain ⟨A, B, C, D, rfl, rfl, rfl, rfl, ha, hb, hc, hdd, hx⟩ := four_nat hd
      simp only [Int.toNat_natCast]
      exact ev_pos hd (ev_pos (tblL_length _ _) (Ev.bind (impl_inside ho ha hb hc hdd hx) (Ev.now _)))
    · rw [if_neg (fun e => hd e.2)]
      exact ev_neg hd (Ev.now _)
  · rw [if_neg h, if_neg (fun e => h e.1)]
    exact ev_neg (by simp) (Ev.now _)
theorem spec_isInside (n : Int) (t : ByteArray) (a b c d : Int) (hs : t.size ≤ 9223372036854775807) : Ev (fun k => spec_IsInside.f k n t a b c d) (insideA n t a b c d) := by
  unfold spec_IsInside.f insideA
  refine Ev.bind (spec_isA n t hs) ?_
  by_cases h : acyOk n t = true
  · obtain ⟨N, rfl, ho, h0, h1⟩ := acy_are h
    refine ev_pos h (Ev.bind (dif5_ev (by omega) (by omega) [a, b, c, d] (by simp)) ?_)
    by_cases hd : areD N [a, b, c, d] = true
    · rw [if_pos ⟨h, hd⟩]
      obtain ⟨A, B, C, D, rfl, rfl, rfl, rfl, ha, hb, hc, hdd, hx⟩ := four_nat hd
      simp only [Int.toNat_natCast]
      exact ev_pos hd (Ev.bind (spec_inner ho ha hb hc hdd hx) (Ev.now _))
    · rw [if_neg (fun e => hd e.2)]
      exact ev_neg hd (Ev.now _)
  · rw [if_neg (fun e => h e.1)]
    exact ev_neg h (Ev.now _)
end Go.Proofs.Ytckkfjdkaimmhaa.M
namespace Go.Proofs.Ytckkfjdkaimmhaa.Pure
open Go.RowKit Go.Proofs.YtckkfjdkaimmhaaW.PrintWords Go.Proofs.Ytckkfjdkaimmhaa.PX Go.Proofs.Ytckkfjdkaimmhaa.M Go.Proofs.Ytckkfjdkaimmhaa.G Go.Proofs.YtckkfjdkaimmhaaW.PrintMore
theorem quads_small (n : Int) (t : ByteArray) : (quadsA n t).length ≤ 10000 ∧ ∀ r ∈ quadsA n t, r.length ≤ 10000 := by
  unfold quadsA
  by_cases h : acyOk n t = true
  · rw [if_pos h]
    obtain ⟨N, rfl, ho, h0, h1⟩ := acy_are h
    rw [Int.toNat_natCast]
    unfold quadsV
    refine ⟨?_, fun r hr => ?_⟩
    · rw [List.length_map]
      exact Nat.le_trans (List.length_filter_le _ _) (Nat.le_trans (quadQ_L h0 h1).2 (by decide))
    · obtain ⟨q, _, rfl⟩ := List.mem_map.1 hr
      exact (show 4 ≤ 10000 by decide)
  · rw [if_neg h]
    exact ⟨by decide, fun r hr => by cases hr⟩
theorem quad_at {n : Int} {t : ByteArray} {r : List Int} (h : r ∈ quadsA n t) : r.length = 4 ∧ innerA n t (rd r 0) (rd r 1) (rd r 2) (rd r 3) = -1 := by
  unfold quadsA at h
  by_cases ha : acyOk n t = true
  · rw [if_pos ha] at h
    obtain ⟨N, rfl, ho, h0, h1⟩ := acy_are ha
    have o := order_ord ha
    rw [Int.toNat_natCast] at h
    unfold quadsV at h
    obtain ⟨⟨a, b, c, d⟩, hq, rfl⟩ := List.mem_map.1 h
    obtain ⟨hm, hn⟩ := List.mem_filter.1 hq
    obtain ⟨m1, m2, m3, m4⟩ := mem_quads hm
    have hd : areD (N : Int) [(a : Int), (b : Int), (c : Int), (d : Int)] = true := (areD_4 _ _ _ _ _).2 (by omega)
    refine ⟨rfl, ?_⟩
    show innerA (N : Int) t (a : Int) (b : Int) (c : Int) (d : Int) = -1
    unfold innerA
    rw [if_pos ⟨ha, hd⟩]
    simp only [Int.toNat_natCast]
    have f := split_facts o h1 (show a < N by omega) (show b < N by omega) (show c < N by omega) m4 (dist4_iff.2 (by omega))
    have f := f.2.2.2.2.2.2.2.2.1
    have g : innerV N t a b c d < 0 := of_decide_eq_true hn
    omega
  · rw [if_neg ha] at h
    cases h
theorem FnQuads (l : List Int) (_ : l.length ≤ 9223372036854775807) (_ : ∀ x ∈ l, (Lit.int .u8 x).wf = true) :
    ∃ k, laws_FnQuads.f k l = some true := by
  refine Ev.rounds (r := true) ?_
  unfold laws_FnQuads.f laws_big.f
  refine ev_call rfl ?_
  by_cases hb : (l.length : Int) > 1048576
  · exact ev_pos (decide_eq_true hb) (Ev.now _)
  refine ev_neg (by simpa using hb) ?_
  have hl : l.length ≤ 1048576 := by omega
  have drawSplit : ∃ (n : Int) (t : ByteArray) (a b c d : Int), Ev (fun k => spec_DrawSplitOf.f k l) (n, t, a, b, c, d) ∧ SmallS n t := by
    obtain ⟨n, t, o, e, s, lo⟩ := l5Four_ok hl
    refine ⟨n, t, rd o 0, rd o 1, rd o 2, rd o 3, ?_, s⟩
    unfold spec_DrawSplitOf.f
    exact Ev.bind e (ev_pos (by simp only; omega) (ev_pos (by simp only; omega) (ev_pos (by simp only; omega) (ev_pos (by simp only; omega) (Ev.now _)))))
  have drawIn : ∃ (n : Int) (t : ByteArray) (a b c d : Int), Ev (fun k => spec_DrawIsInside.f k l) (n, t, a, b, c, d) ∧ SmallS n t := by
    obtain ⟨n, t, o, e, s, lo⟩ := l5Four_ok hl
    refine ⟨n, t, rd o 0, rd o 1, rd o 2, rd o 3, ?_, s⟩
    unfold spec_DrawIsInside.f
    exact Ev.bind e (ev_pos (by simp only; omega) (ev_pos (by simp only; omega) (ev_pos (by simp only; omega) (ev_pos (by simp only; omega) (Ev.now _)))))
  have drawQ : ∃ (n : Int) (t : ByteArray), Ev (fun k => spec_DrawQuadsOf.f k l) (n, t) ∧ SmallS n t := by
    obtain ⟨h, n, t, i, h', hn, e, s, _⟩ := l5New_ok hl
    exact ⟨n, t, by unfold spec_DrawQuadsOf.f; exact Ev.bind hn (Ev.bind e (Ev.now _)), s⟩
  obtain ⟨sn, st, a, b, c, d, d1, ⟨_, ss⟩⟩ := drawSplit
  obtain ⟨qn, qt, d2, ⟨⟨q0, q8⟩, qs⟩⟩ := drawQ
  obtain ⟨tn, tt, p, i, j, m, d3, ⟨_, ts⟩⟩ := drawIn
  have z : ∀ {x : Nat}, x ≤ 101 → x ≤ 9223372036854775807 := fun h => by omega
  have qsm := quads_small qn qt
  have hend : Ev (fun k => (impl_IsInside.f k tn tt p i j m).bind fun t977 => (if t977 = true then ((impl_IsInside.f k tn tt i p j m).bind fun t978 => (if t978 = true then (some false) else ((impl_CountInside.f k tn tt i j m).bind fun t979 => (some (decide (t979 ≥ 1)))))) else (some true))) true := by
    refine Ev.bind (impl_isInside tn tt p i j m (z ts)) ?_
    cases g : insideA tn tt p i j m with
    | false => exact ev_neg (by simp) (Ev.now _)
    | true =>
      unfold insideA at g
      by_cases ha : acyOk tn tt = true ∧ areD tn [p, i, j, m] = true
      · rw [if_pos ha] at g
        obtain ⟨ha, hd⟩ := ha
        obtain ⟨N, rfl, ho, h0, h1⟩ := acy_are ha
        have o := order_ord ha
        rw [Int.toNat_natCast] at g
        obtain ⟨P, I, J, M, rfl, rfl, rfl, rfl, hp, hi, hj, hm, hx⟩ := four_nat hd
        simp only [Int.toNat_natCast, beq_iff_eq] at g
        obtain ⟨e1, e2, e3, e4, e5, e6⟩ := dist4_iff.1 hx
        have sw := inner_swap o h1 hp hi hj hm hx
        have r2 : insideA (N : Int) tt (I : Int) (P : Int) (J : Int) (M : Int) = false := by
          unfold insideA
          rw [if_pos ⟨ha, (areD_4 _ _ _ _ _).2 (by omega)⟩]
          simp only [Int.toNat_natCast, sw, g, beq_eq_false_iff_ne]
          omega
        have r3 : cntA (N : Int) tt (I : Int) (J : Int) (M : Int) = (cntV N tt I J M : Int) := by
          unfold cntA
          have : areD (N : Int) [(I : Int), (J : Int), (M : Int)] = true := by
            unfold areD at hd ⊢
            simp only [List.all_eq_true, List.mem_range, Bool.and_eq_true] at hd ⊢
            intro k hk
            have q := hd (k + 1) (by simp only [List.length_cons, List.length_nil] at hk ⊢; omega)
            have k3 : k = 0 ∨ k = 1 ∨ k = 2 := by simp only [List.length_cons, List.length_nil] at hk; omega
            rcases k3 with rfl | rfl | rfl
            · exact ⟨q.1, rfl⟩
            · refine ⟨q.1, ?_⟩
              simp
              omega
            · refine ⟨q.1, ?_⟩
              simp
              omega
          rw [if_pos ⟨ha, this⟩]
          simp only [Int.toNat_natCast]
        have r4 : 1 ≤ cntV N tt I J M := by
          unfold cntV
          refine List.length_pos_of_mem (List.mem_filter.2 ⟨List.mem_range.2 hp, ?_⟩ : P ∈ _)
          rw [insB_dist e1 e2 e3, g]
          simp
        refine ev_pos rfl (Ev.bind (impl_isInside _ tt _ _ _ _ (z ts)) ?_)
        rw [r2]
        refine ev_neg (by simp) (Ev.bind (impl_countInside _ tt _ _ _ (z ts)) (ev_cast (Ev.now _) ?_))
        rw [r3]
        exact decide_eq_true (by omega)
      · rw [if_neg ha] at g
        cases g
  have hl0 : ∀ (d y : Nat), y + d = (quadsA qn qt).length → Ev (fun k => laws_FnQuads.l0 k (quadsA qn qt) p i j m (y : Int) qn qt tn tt) true := by
    intro d
    induction d with
    | zero =>
      intro y hy
      refine ev_step ?_
      simp only [laws_FnQuads.l0]
      exact ev_neg (by omega) hend
    | succ d ih =>
      intro y hy
      have hy' : y < (quadsA qn qt).length := by omega
      have hmem := List.getElem_mem hy'
      obtain ⟨r1, r2⟩ := quad_at hmem
      refine ev_step ?_
      simp only [laws_FnQuads.l0]
      rw [wrap_id (by omega) (by omega), rdLL hy']
      have r3 : ((quadsA qn qt)[y].length : Int) = 4 := congrArg Int.ofNat r1
      refine ev_pos (by omega) (ev_pos (by omega) (ev_pos (by rw [r3]; decide) (ev_pos (by rw [r3]; decide) (ev_pos (by rw [r3]; decide) (ev_pos (by rw [r3]; decide) (Ev.bind (impl_innerOf qn qt _ _ _ _ (z qs)) ?_))))))
      rw [r2]
      exact ev_pos rfl (ih (y + 1) (by omega))
  have hj3 : Ev (fun k => laws_FnQuads.j3 k (quadsA qn qt) p i j m false qn qt tn tt) true := by
    refine ev_step ?_
    simp only [laws_FnQuads.j3]
    exact ev_neg (by decide) (hl0 (quadsA qn qt).length 0 (Nat.zero_add _))
  have hac : Ev (fun k => (spec_IsAcyclic.f k qn qt).bind fun t966 => (if t966 = true then (if qn ≥ 5 then (laws_FnQuads.j3 k (quadsA qn qt) p i j m (((quadsA qn qt).length : Int) == 0) qn qt tn tt) else (laws_FnQuads.j3 k (quadsA qn qt) p i j m false qn qt tn tt)) else (laws_FnQuads.j3 k (quadsA qn qt) p i j m false qn qt tn tt))) true := by
    refine Ev.bind (spec_isA qn qt (z qs)) ?_
    cases g : acyOk qn qt with
    | false => exact ev_neg (by simp) hj3
    | true =>
      refine ev_pos rfl ?_
      by_cases h5 : qn ≥ 5
      · have e : (((quadsA qn qt).length : Int) == 0) = false := by
          unfold quadsA
          rw [if_pos g]
          obtain ⟨N, rfl, ho, h0, h1⟩ := acy_are g
          have o := order_ord g
          rw [Int.toNat_natCast]
          obtain ⟨q, hm, hq⟩ := five_conv o (by omega) h1
          have := List.length_pos_of_mem (List.mem_map_of_mem (f := listQ) (List.mem_filter.2 ⟨hm, hq⟩))
          unfold quadsV
          rw [beq_eq_false_iff_ne]
          omega
        rw [e]
        exact ev_pos h5 hj3
      · exact ev_neg h5 hj3
  have hj2 : Ev (fun k => laws_FnQuads.j2 k (quadsA qn qt) p i j m qn qt tn tt) true := by
    refine ev_step ?_
    simp only [laws_FnQuads.j2]
    refine Ev.bind (impl_cntQ qn qt (z qs)) ?_
    by_cases g : cntQA qn qt ≥ 0
    · refine ev_pos g (Ev.bind (impl_cntQ qn qt (z qs)) (ev_pos ?_ hac))
      unfold cntQA at g ⊢
      by_cases h : acyOk qn qt = true
      · rw [if_pos h]
      · rw [if_neg h] at g
        omega
    · exact ev_neg g hac
  have hj0 : Ev (fun k => laws_FnQuads.j0 k a b c d (splitA sn st a b c d).1 (splitA sn st a b c d).2 (quadsA qn qt) p i j m false sn st qn qt tn tt) true := by
    refine ev_step ?_
    simp only [laws_FnQuads.j0]
    refine ev_neg (by decide) ?_
    by_cases ha : acyOk sn st = true ∧ areD sn [a, b, c, d] = true
    · obtain ⟨ha, hd⟩ := ha
      obtain ⟨N, rfl, ho, h0, h1⟩ := acy_are ha
      have o := order_ord ha
      obtain ⟨A, B, C, D, rfl, rfl, rfl, rfl, hA, hB, hC, hD, hx⟩ := four_nat hd
      have hd' : areD (N : Int) [(B : Int), (A : Int), (C : Int), (D : Int)] = true := (areD_4 _ _ _ _ _).2 (by have := (areD_4 _ _ _ _ _).1 hd; omega)
      have eI : innerA (N : Int) st (A : Int) (B : Int) (C : Int) (D : Int) = innerV N st A B C D := by
        unfold innerA
        rw [if_pos ⟨ha, hd⟩]
        simp only [Int.toNat_natCast]
      have eL : splitA (N : Int) st (A : Int) (B : Int) (C : Int) (D : Int) = (((splitV N st A B C D).1 : Int), ((splitV N st A B C D).2 : Int)) := by
        unfold splitA
        rw [if_pos ⟨ha, hd⟩]
        simp only [Int.toNat_natCast]
      have eS : splitA (N : Int) st (B : Int) (A : Int) (C : Int) (D : Int) = (((splitV N st B A C D).1 : Int), ((splitV N st B A C D).2 : Int)) := by
        unfold splitA
        rw [if_pos ⟨ha, hd'⟩]
        simp only [Int.toNat_natCast]
      have hsp := impl_splitOf (N : Int) st (B : Int) (A : Int) (C : Int) (D : Int) (z ss)
      rw [eS] at hsp
      have hin := impl_innerOf (N : Int) st (A : Int) (B : Int) (C : Int) (D : Int) (z ss)
      rw [eI] at hin
      rw [eL]
      obtain ⟨f1, f2, f3, f4, f5, f6, f7, f8, _, _⟩ := split_facts o h1 hA hB hC hD hx
      have sw := split_swap o h1 hA hB hC hD hx
      generalize splitV N st B A C D = S' at hsp sw
      generalize splitV N st A B C D = S at *
      obtain ⟨L, R⟩ := S
      obtain ⟨U, V⟩ := S'
      simp only at *
      have hj1 : Ev (fun k => laws_FnQuads.j1 k (A : Int) (B : Int) (C : Int) (D : Int) (L : Int) (R : Int) (quadsA qn qt) p i j m false (N : Int) st qn qt tn tt) true := by
        refine ev_step ?_
        simp only [laws_FnQuads.j1]
        refine ev_neg (by decide) (Ev.bind hsp ?_)
        rcases sw with e | e
        · cases e
          exact ev_pos rfl (ev_pos rfl hj2)
        · cases e
          by_cases g : (R : Int) = (L : Int)
          · exact ev_pos g (ev_pos (show (L : Int) = (R : Int) from g.symm) hj2)
          · exact ev_neg g (ev_pos rfl (ev_pos rfl hj2))
      refine ev_pos (by omega) (ev_pos f4 (Ev.bind (size_ev f1) (Ev.bind (size_ev f2) ?_)))
      rw [wrap_id (by omega) (by omega)]
      refine ev_pos (by omega) (Ev.bind (size_ev f1) (ev_neg (by omega) (Ev.bind (size_ev f1) (ev_neg (by omega) (Ev.bind hin (Ev.bind (size_ev f1) ?_))))))
      have e : ((decide (innerV N st A B C D < 0)) != ((popN L : Int) == 2)) = false := by
        by_cases g : popN L = 2
        · rw [decide_eq_true (f8.2 g), g]; rfl
        · rw [decide_eq_false (fun h => g (f8.1 h))]
          have : ((popN L : Int) == 2) = false := by rw [beq_eq_false_iff_ne]; omega
          rw [this]; rfl
      rw [e]
      exact hj1
    · have eL : splitA sn st a b c d = (0, 0) := by
        unfold splitA
        rw [if_neg ha]
      rw [eL]
      exact ev_neg (by decide) hj2
  refine Ev.bind d1 (Ev.bind (impl_splitOf sn st a b c d (z ss)) (Ev.bind (spec_splitOf sn st a b c d (z ss)) (Ev.bind d2 (Ev.bind (impl_quads qn qt (z qs)) (Ev.bind d3 (ev_pos rfl (ev_pos rfl (Ev.bind (impl_innerOf sn st a b c d (z ss)) (Ev.bind (spec_innerOf sn st a b c d (z ss)) (ev_pos rfl (Ev.bind (spec_quads qn qt (z qs)) (Ev.bind (sameLists_self _ qsm) (ev_pos rfl (Ev.bind (impl_cntQ qn qt (z qs)) (Ev.bind (spec_cntQ qn qt (z qs)) (ev_pos rfl (Ev.bind (impl_isInside tn tt p i j m (z ts)) (Ev.bind (spec_isInside tn tt p i j m (z ts)) (ev_neg (by simp) (Ev.bind (impl_countInside sn st a b c (z ss)) (Ev.bind (spec_countInside sn st a b c (z ss)) (ev_pos rfl (Ev.bind (impl_empt qn qt (z qs)) (Ev.bind (spec_empt qn qt (z qs)) ?_))))))))))))))))))))))))
  simpa using hj0
end Go.Proofs.Ytckkfjdkaimmhaa.Pure
namespace Go.Proofs.Ytckkfjdkaimmhaa.fnQuads
open Go.ChangeShapes Go.WideShapes Go.ChangeAt Go.RowKit Go.Joins
open Go.ChangeMaps (open_string shut_string)
set_option linter.unusedVariables false
theorem own : ownKnob Try.prog.godebug = none := by kernel_rfl
theorem str_mk {H : Type} {enc : TypeId × Value → H} {P : Program} {w : World} {base : Nat} {spare : Nat → Bool} {held : Bool} {t : TypeId} {s : ByteArray} (ht : P.underlying t = some .string) (hs : s.size ≤ maxLen) : DataW.trod enc P w base spare held 1 t [.string s] = some (.lit (.string s.data.toList), []) := by
  simp [DataW.trod, ht, hs]
theorem laidOut : laidOutB Try.prog = true := by kernel_rfl
def IsRow (k : IntKind) (w : World) (a : Option Addr) (len cap : Nat) (zs : List Int) : Prop :=
  (a = none ∧ len = 0 ∧ cap = 0 ∧ zs = []) ∨
  ∃ x, a = some x ∧ len ≤ cap ∧ cap ≤ maxLen ∧ zs.length = cap ∧ (∀ i, i < zs.length → w.cell? (x.add i) = some (.int k (zs.getD i 0))) ∧ ∀ n ∈ zs, (Lit.int k n).wf = true
set_option maxRecDepth 100000 in
theorem lifted (os : Os) (started : os.Started) (H : Type) (enc : TypeId × Value → H) :
    ReturnsInHanded {} Try.checked os 4 .any (Rows.fnQuadsSpec.pre6 enc Try.prog Try.f4 Rows.fnQuadsRow.domain false) (Rows.fnQuadsSpec.post enc Try.prog Try.f4 false true false false) := by
  refine returnsInHanded_of_change_sized (C := Try.checked) own started (by kernel_rfl) Try.func4
    (ChangeSpec.witness6 (enc := enc) (C := Try.checked) false ⟨#[], #[.slice none 0 0], []⟩ 8 (by kernel_rfl) (by kernel_rfl) (by kernel_rfl) (by kernel_rfl)) ?_
  intro W base args ds gs before hval0 hW hcnd hsz0 _
  have hsz : (DataW.weightsEach Try.prog (Try.f4.params.toList ++ Rows.fnQuadsSpec.plain.varTypes Try.prog) (ds ++ gs)).all (· ≤ reachBytes) = true := hsz0
  have hval : ∀ (j : Nat) t v, Try.f4.params[j]? = some t → args[j]? = some v → Value.okWide Try.prog W .any base t v := hval0
  have hW' := hW
  obtain ⟨p, q, hA0, hV, rfl, hfz, hnd⟩ := hW
  have hA : DataW.TrodAll enc Try.prog W 0 (fun _ => true) true Try.f4.params.toList args.toList ds p := hA0
  rw [Try.params4] at hA hval hsz
  obtain ⟨v0, vs0, d0, ds0, p0, q0, hargs, rfl, rfl, h0, r0⟩ := trodAll_cons hA
  obtain ⟨rfl, rfl, rfl⟩ := trodAll_nil r0
  obtain rfl : args = #[v0] := by cases args; simp_all
  obtain ⟨rfl, rfl⟩ := trodVars_none hV
  obtain ⟨a0, len0, cap0, rfl⟩ := okWide_slice Try.underlying22 (hval 0 22 v0 rfl rfl)
  have k0 := h0
  have lt0 : ∀ x ∈ p0, x.block < W.heap.size := by obtain ⟨m, hm⟩ := k0; exact DataW.trod_lt m _ _ _ hm
  obtain ⟨z0, w0⟩ : ∃ zs, IsRow .u8 W a0 len0 cap0 zs := by
    obtain ⟨fuel, hf⟩ := h0
    rcases open_ints Try.underlying22 Try.underlying5 (by kernel_rfl) hf with ⟨hcs, _⟩ | ⟨x, l, c, zs, hcs, _, hl, hm, hz, _, hcell, hwz⟩
    · simp [Value.cells] at hcs
      obtain ⟨rfl, rfl, rfl⟩ := hcs
      exact ⟨[], .inl ⟨rfl, rfl, rfl, rfl⟩⟩
    · simp [Value.cells] at hcs
      obtain ⟨rfl, rfl, rfl⟩ := hcs
      exact ⟨zs, .inr ⟨_, rfl, hl, hm, by simpa using hz, hcell, hwz⟩⟩
  obtain ⟨l0, rfl, hr0, hm0, hw0, hc0⟩ := Go.Proofs.YtckkfjdkaimmhaaW.PrintWords.ReadsInt.ofRowC w0
  clear hA0 hval0 hsz0 hsz
  obtain ⟨k, hP⟩ := Pure.FnQuads l0 (Nat.le_trans hm0 (by decide)) hw0
  refine (PX.laws_FnQuads.calls k _ _ l0 true W (Go.Proofs.YtckkfjdkaimmhaaW.PrintWords.Kd.C_of_reads (d := (0 : Int)) (h1 := fun _ => rfl) hr0) hc0 hP rfl).mono fun e W' ⟨he, bel⟩ => ?_
  subst he
  exact ⟨_, rfl, _, _, _, [], _, [], hW', trodAll_mk1 (shut_bool Try.underlying4 _), (trodAll_cons_mk (Below.trod laidOut (by kernel_rfl) (of_decide_eq_true (by kernel_rfl)) k0 bel lt0) trodAll_mk0), rfl, bel.frame _, fun h => by cases h⟩
theorem over : Rows.fnQuadsRow.holds Try.pinned (OpenSpec.ofChange Rows.fnQuadsSpec) :=
  OpenClaim.holds_of_wide 4 Try.f4 rfl rfl rfl rfl rfl rfl rfl ⟨rfl, rfl, rfl, rfl, rfl⟩ rfl rfl rfl rfl rfl (by kernel_rfl) Try.func4 (by kernel_rfl)
    (of_decide_eq_true (by kernel_rfl)) (by unfold Func.isWrapper; first | (rw [if_pos (by decide +kernel)]; kernel_rfl) | (rw [if_neg (by decide +kernel)]; exact ⟨rfl, rfl⟩))
    (fun os started H enc _ => lifted os started H enc)
theorem proved : Rows.FnQuadsSaid := over
#print axioms proved
end Go.Proofs.Ytckkfjdkaimmhaa.fnQuads
namespace Go.Proofs.Ytckkfjdkaimmhaa
theorem fnQuads_holds : Rows.FnQuadsSaid := fnQuads.proved
end Go.Proofs.Ytckkfjdkaimmhaa
