/- FnRule returns true for all arguments and leaves them as they were. No condition. -/
import Derived.Test.YtckkfjdkaimmhaaProg
import Derived.Test.YtckkfjdkaimmhaaRows
import Derived.WalkKit
import Derived.ProofKit
import Derived.OpenShut
import Derived.ShutString
import Derived.ChangeOld
import Derived.Below
import Derived.SizedLaws
import Derived.Lib.SmallJoins
import Derived.ChangeSame
import Derived.Test.YtckkfjdkaimmhaaV1
import Derived.Test.YtckkfjdkaimmhaaBzwlise1
import Derived.Test.YtckkfjdkaimmhaaBzwlise2
import Derived.Test.YtckkfjdkaimmhaaBzwlise3
import Derived.Test.YtckkfjdkaimmhaaBzwlise4
import Derived.Test.YtckkfjdkaimmhaaBzwlise5
set_option linter.unusedVariables false
set_option linter.unusedSimpArgs false
namespace Go.Proofs.Ytckkfjdkaimmhaa.U
structure Uni (n : Nat) (f : Nat → Nat → Nat → Int) : Prop where
  pm : ∀ a b c, a < n → b < n → c < n → a ≠ b → b ≠ c → a ≠ c → f a b c = 1 ∨ f a b c = -1
  s1 : ∀ a b c, a < n → b < n → c < n → f b a c = -f a b c
  s2 : ∀ a b c, a < n → b < n → c < n → f a c b = -f a b c
  gp : ∀ x a b c d, x < n → a < n → b < n → c < n → d < n → a ≠ b → a ≠ c → a ≠ d → b ≠ c → b ≠ d → c ≠ d → x ≠ a → x ≠ b → x ≠ c → x ≠ d → ¬ (f x a b * f x c d = f x a d * f x b c ∧ f x a d * f x b c = -(f x a c) * f x b d)
def Pos (f : Nat → Nat → Nat → Int) (a b c d : Nat) : Prop := f a c d = -(f b c d) ∧ f a b d = f b c d ∧ f a b c = -(f b c d)
def D4 (a b c d : Nat) : Prop := a ≠ b ∧ a ≠ c ∧ a ≠ d ∧ b ≠ c ∧ b ≠ d ∧ c ≠ d
def Acy (n : Nat) (f : Nat → Nat → Nat → Int) : Prop := ∀ a b c d, a < n → b < n → c < n → d < n → D4 a b c d → ¬ Pos f a b c d
section
variable {n : Nat} {f : Nat → Nat → Nat → Int} (o : Uni n f)
include o
theorem Uni.cyc {a b c : Nat} (ha : a < n) (hb : b < n) (hc : c < n) : f b c a = f a b c ∧ f c a b = f a b c := by
  have e1 := o.s1 a b c ha hb hc
  have e2 := o.s2 b a c hb ha hc
  have e3 := o.s2 a b c ha hb hc
  have e4 := o.s1 a c b ha hc hb
  omega
theorem Uni.sw1 {a b c d : Nat} (ha : a < n) (hb : b < n) (hc : c < n) (hd : d < n) (h : Pos f a b c d) : Pos f b a c d := by
  obtain ⟨h1, h2, h3⟩ := h
  have e1 := o.s1 a b d ha hb hd
  have e2 := o.s1 a b c ha hb hc
  exact ⟨by omega, by omega, by omega⟩
theorem Uni.sw2 {a b c d : Nat} (ha : a < n) (hb : b < n) (hc : c < n) (hd : d < n) (h : Pos f a b c d) : Pos f a c b d := by
  obtain ⟨h1, h2, h3⟩ := h
  have e1 := o.s1 b c d hb hc hd
  have e2 := o.s2 a b c ha hb hc
  exact ⟨by omega, by omega, by omega⟩
theorem Uni.sw3 {a b c d : Nat} (ha : a < n) (hb : b < n) (hc : c < n) (hd : d < n) (h : Pos f a b c d) : Pos f a b d c := by
  obtain ⟨h1, h2, h3⟩ := h
  have e1 := o.s2 b c d hb hc hd
  have e2 := o.s2 a c d ha hc hd
  exact ⟨by omega, by omega, by omega⟩
theorem Uni.trans {t s p q r : Nat} (ht : t < n) (hs : s < n) (hp : p < n) (hq : q < n) (hr : r < n) (hd : D4 s p q r) (k1 : t ≠ s) (k2 : t ≠ p) (k3 : t ≠ q) (k4 : t ≠ r)
    (h1 : f t s p = 1) (h2 : f t s q = 1) (h3 : f t s r = 1) (c1 : f t p q = 1) (c2 : f t q r = 1) : f t p r = 1 := by
  obtain ⟨d1, d2, d3, d4, d5, d6⟩ := hd
  rcases o.pm t p r ht hp hr k2 d5 k4 with v | v
  · exact v
  · refine absurd ?_ (o.gp t s p q r ht hs hp hq hr d1 d2 d3 d4 d5 d6 k1 k2 k3 k4)
    rw [h1, h2, h3, c1, c2, v]
    decide
theorem Uni.trans' {t s p q r : Nat} (ht : t < n) (hs : s < n) (hp : p < n) (hq : q < n) (hr : r < n) (hd : D4 s p q r) (k1 : t ≠ s) (k2 : t ≠ p) (k3 : t ≠ q) (k4 : t ≠ r)
    (h1 : f t s p = -1) (h2 : f t s q = -1) (h3 : f t s r = -1) (c1 : f t p q = 1) (c2 : f t q r = 1) : f t p r = 1 := by
  obtain ⟨d1, d2, d3, d4, d5, d6⟩ := hd
  rcases o.pm t p r ht hp hr k2 d5 k4 with v | v
  · exact v
  · refine absurd ?_ (o.gp t s p q r ht hs hp hq hr d1 d2 d3 d4 d5 d6 k1 k2 k3 k4)
    rw [h1, h2, h3, c1, c2, v]
    decide
theorem Uni.first {p q a b c d : Nat} (hp : p < n) (hq : q < n) (ha : a < n) (hb : b < n) (hc : c < n) (hd : d < n) (x : D4 a b c d) (k : p ≠ q) (ka : p ≠ a) (kb : p ≠ b) (kc : p ≠ c) (kd : p ≠ d) (ja : q ≠ a) (jb : q ≠ b) (jc : q ≠ c) (jd : q ≠ d)
    (h1 : f p q a = 1) (h2 : f p q b = 1) (h3 : f p q c = 1) (h4 : f p q d = 1) :
    (f p a b = 1 ∧ f p a c = 1 ∧ f p a d = 1) ∨ (f p b a = 1 ∧ f p b c = 1 ∧ f p b d = 1) ∨ (f p c a = 1 ∧ f p c b = 1 ∧ f p c d = 1) ∨ (f p d a = 1 ∧ f p d b = 1 ∧ f p d c = 1) := by
  obtain ⟨d1, d2, d3, d4, d5, d6⟩ := x
  have T := fun {x y z : Nat} (hx : x < n) (hy : y < n) (hz : z < n) (e1 : q ≠ x) (e2 : q ≠ y) (e3 : q ≠ z) (e4 : x ≠ y) (e5 : x ≠ z) (e6 : y ≠ z) => o.trans hp hq hx hy hz ⟨e1, e2, e3, e4, e5, e6⟩ k
  have tab := o.s2 p a b hp ha hb
  have tac := o.s2 p a c hp ha hc
  have tad := o.s2 p a d hp ha hd
  have tbc := o.s2 p b c hp hb hc
  have tbd := o.s2 p b d hp hb hd
  have tcd := o.s2 p c d hp hc hd
  have vab := o.pm p a b hp ha hb ka d1 kb
  have vac := o.pm p a c hp ha hc ka d2 kc
  have vad := o.pm p a d hp ha hd ka d3 kd
  have vbc := o.pm p b c hp hb hc kb d4 kc
  have vbd := o.pm p b d hp hb hd kb d5 kd
  have vcd := o.pm p c d hp hc hd kc d6 kd
  have abc := T ha hb hc ja jb jc d1 d2 d4 ka kb kc h1 h2 h3
  have abd := T ha hb hd ja jb jd d1 d3 d5 ka kb kd h1 h2 h4
  have acb := T ha hc hb ja jc jb d2 d1 d4.symm ka kc kb h1 h3 h2
  have acd := T ha hc hd ja jc jd d2 d3 d6 ka kc kd h1 h3 h4
  have bac := T hb ha hc jb ja jc d1.symm d4 d2 kb ka kc h2 h1 h3
  have bad := T hb ha hd jb ja jd d1.symm d5 d3 kb ka kd h2 h1 h4
  have bcd := T hb hc hd jb jc jd d4 d5 d6 kb kc kd h2 h3 h4
  have cad := T hc ha hd jc ja jd d2.symm d6 d3 kc ka kd h3 h1 h4
  have cbd := T hc hb hd jc jb jd d4.symm d6 d5 kc kb kd h3 h2 h4
  have cab := T hc ha hb jc ja jb d2.symm d4.symm d1 kc ka kb h3 h1 h2
  have dca := T hd hc ha jd jc ja d6.symm d3.symm d2.symm kd kc ka h4 h3 h1
  have dcb := T hd hc hb jd jc jb d6.symm d5.symm d4.symm kd kc kb h4 h3 h2
  have dab := T hd ha hb jd ja jb d3.symm d5.symm d1 kd ka kb h4 h1 h2
  have dac := T hd ha hc jd ja jc d3.symm d6.symm d2 kd ka kc h4 h1 h3
  have dba := T hd hb ha jd jb ja d5.symm d3.symm d1.symm kd kb ka h4 h2 h1
  have dbc := T hd hb hc jd jb jc d5.symm d6.symm d4 kd kb kc h4 h2 h3
  clear T
  rcases vab with g1 | g1
  · rcases vac with g2 | g2
    · rcases vad with g3 | g3
      · exact Or.inl ⟨g1, g2, g3⟩
      · have i1 : f p d a = 1 := by omega
        exact Or.inr (Or.inr (Or.inr ⟨i1, dab i1 g1, dac i1 g2⟩))
    · have i1 : f p c a = 1 := by omega
      have i2 := cab i1 g1
      rcases vcd with g3 | g3
      · exact Or.inr (Or.inr (Or.inl ⟨i1, i2, g3⟩))
      · have i3 : f p d c = 1 := by omega
        exact Or.inr (Or.inr (Or.inr ⟨dca i3 i1, dcb i3 i2, i3⟩))
  · have i0 : f p b a = 1 := by omega
    rcases vbc with g2 | g2
    · rcases vbd with g3 | g3
      · exact Or.inr (Or.inl ⟨i0, g2, g3⟩)
      · have i1 : f p d b = 1 := by omega
        exact Or.inr (Or.inr (Or.inr ⟨dba i1 i0, i1, dbc i1 g2⟩))
    · have i1 : f p c b = 1 := by omega
      have cba := o.trans hp hq hc hb ha ⟨jc, jb, ja, d4.symm, d2.symm, d1.symm⟩ k kc kb ka h3 h2 h1 i1 i0
      rcases vcd with g3 | g3
      · exact Or.inr (Or.inr (Or.inl ⟨cba, i1, g3⟩))
      · have i3 : f p d c = 1 := by omega
        exact Or.inr (Or.inr (Or.inr ⟨dca i3 cba, dcb i3 i1, i3⟩))
theorem Uni.edge_ac {p q : Nat} (hp : p < n) (hq : q < n) (k : p ≠ q) (h : ∀ x, x < n → x ≠ p → x ≠ q → f p q x = 1) : Acy n f := by
  have P1 : ∀ b c d, b < n → c < n → d < n → D4 p b c d → b = q → ¬ Pos f p b c d := by
    rintro b c d hb hc hd ⟨d1, d2, d3, d4, d5, d6⟩ rfl ⟨g1, g2, g3⟩
    have u := h c hc (by omega) (by omega)
    have v := h d hd (by omega) (by omega)
    omega
  have P2 : ∀ b c d, b < n → c < n → d < n → D4 p b c d → ¬ Pos f p b c d := by
    intro b c d hb hc hd hx hP
    have hx' := hx
    obtain ⟨d1, d2, d3, d4, d5, d6⟩ := hx'
    by_cases e1 : b = q
    · exact P1 b c d hb hc hd hx e1 hP
    by_cases e2 : c = q
    · exact P1 c b d hc hb hd ⟨d2, d1, d3, d4.symm, d6, d5⟩ e2 (o.sw2 hp hb hc hd hP)
    by_cases e3 : d = q
    · exact P1 d b c hd hb hc ⟨d3, d1, d2, d5.symm, d6.symm, d4⟩ e3 (o.sw2 hp hb hd hc (o.sw3 hp hb hc hd hP))
    have u := h b hb (Ne.symm d1) e1
    have v := h c hc (Ne.symm d2) e2
    have w := h d hd (Ne.symm d3) e3
    obtain ⟨g1, g2, g3⟩ := hP
    rcases o.pm b c d hb hc hd d4 d6 d5 with e | e
    · have t := o.trans hp hq hd hc hb ⟨Ne.symm e3, Ne.symm e2, Ne.symm e1, d6.symm, d5.symm, d4.symm⟩ k d3 d2 d1 w v u (by have := o.s2 p c d hp hc hd; omega) (by have := o.s2 p b c hp hb hc; omega)
      have := o.s2 p b d hp hb hd
      omega
    · have t := o.trans hp hq hb hc hd ⟨Ne.symm e1, Ne.symm e2, Ne.symm e3, d4, d5, d6⟩ k d1 d2 d3 u v w (by omega) (by omega)
      omega
  have Q2 : ∀ b c d, b < n → c < n → d < n → D4 q b c d → p ≠ b → p ≠ c → p ≠ d → ¬ Pos f q b c d := by
    rintro b c d hb hc hd ⟨d1, d2, d3, d4, d5, d6⟩ e1 e2 e3 ⟨g1, g2, g3⟩
    have u := h b hb (Ne.symm e1) (Ne.symm d1)
    have v := h c hc (Ne.symm e2) (Ne.symm d2)
    have w := h d hd (Ne.symm e3) (Ne.symm d3)
    have u' := o.s1 p q b hp hq hb
    have v' := o.s1 p q c hp hq hc
    have w' := o.s1 p q d hp hq hd
    rcases o.pm b c d hb hc hd d4 d6 d5 with e | e
    · have t := o.trans' hq hp hd hc hb ⟨e3, e2, e1, d6.symm, d5.symm, d4.symm⟩ (Ne.symm k) d3 d2 d1 (by omega) (by omega) (by omega) (by have := o.s2 q c d hq hc hd; omega) (by have := o.s2 q b c hq hb hc; omega)
      have := o.s2 q b d hq hb hd
      omega
    · have t := o.trans' hq hp hb hc hd ⟨e1, e2, e3, d4, d5, d6⟩ (Ne.symm k) d1 d2 d3 (by omega) (by omega) (by omega) (by omega) (by omega)
      omega
  have N0 : ∀ a b c d, a < n → b < n → c < n → d < n → D4 a b c d → p ≠ a → p ≠ b → p ≠ c → p ≠ d → f p a b = 1 → f p a c = 1 → f p a d = 1 → ¬ Pos f a b c d := by
    rintro a b c d ha hb hc hd ⟨d1, d2, d3, d4, d5, d6⟩ e1 e2 e3 e4 m1 m2 m3 ⟨g1, g2, g3⟩
    have x1 := o.s1 p a b hp ha hb
    have x2 := o.s1 p a c hp ha hc
    have x3 := o.s1 p a d hp ha hd
    rw [m1] at x1
    rw [m2] at x2
    rw [m3] at x3
    refine o.gp a p b c d ha hp hb hc hd e2 e3 e4 d4 d5 d6 (Ne.symm e1) d1 d2 d3 ?_
    rw [x1, x2, x3]
    omega
  intro a b c d ha hb hc hd hx hP
  have hx' := hx
  obtain ⟨d1, d2, d3, d4, d5, d6⟩ := hx'
  have s2 := o.sw1 ha hb hc hd hP
  have s3 := o.sw1 ha hc hb hd (o.sw2 ha hb hc hd hP)
  have s4 := o.sw1 ha hd hb hc (o.sw2 ha hb hd hc (o.sw3 ha hb hc hd hP))
  have y2 : D4 b a c d := ⟨d1.symm, d4, d5, d2, d3, d6⟩
  have y3 : D4 c a b d := ⟨d2.symm, d4.symm, d6, d1, d3, d5⟩
  have y4 : D4 d a b c := ⟨d3.symm, d5.symm, d6.symm, d1, d2, d4⟩
  by_cases p1 : p = a
  · subst p1; exact P2 b c d hb hc hd hx hP
  by_cases p2 : p = b
  · subst p2; exact P2 a c d ha hc hd y2 s2
  by_cases p3 : p = c
  · subst p3; exact P2 a b d ha hb hd y3 s3
  by_cases p4 : p = d
  · subst p4; exact P2 a b c ha hb hc y4 s4
  by_cases q1 : q = a
  · subst q1; exact Q2 b c d hb hc hd hx p2 p3 p4 hP
  by_cases q2 : q = b
  · subst q2; exact Q2 a c d ha hc hd y2 p1 p3 p4 s2
  by_cases q3 : q = c
  · subst q3; exact Q2 a b d ha hb hd y3 p1 p2 p4 s3
  by_cases q4 : q = d
  · subst q4; exact Q2 a b c ha hb hc y4 p1 p2 p3 s4
  rcases o.first hp hq ha hb hc hd hx k p1 p2 p3 p4 q1 q2 q3 q4 (h a ha (Ne.symm p1) (Ne.symm q1)) (h b hb (Ne.symm p2) (Ne.symm q2)) (h c hc (Ne.symm p3) (Ne.symm q3)) (h d hd (Ne.symm p4) (Ne.symm q4)) with ⟨m1, m2, m3⟩ | ⟨m1, m2, m3⟩ | ⟨m1, m2, m3⟩ | ⟨m1, m2, m3⟩
  · exact N0 a b c d ha hb hc hd hx p1 p2 p3 p4 m1 m2 m3 hP
  · exact N0 b a c d hb ha hc hd y2 p2 p1 p3 p4 m1 m2 m3 s2
  · exact N0 c a b d hc ha hb hd y3 p3 p1 p2 p4 m1 m2 m3 s3
  · exact N0 d a b c hd ha hb hc y4 p4 p1 p2 p3 m1 m2 m3 s4
end
def sg (b : Bool) : Int := if b then -1 else 1
def rv (S : Nat → Bool) (f : Nat → Nat → Nat → Int) (a b c : Nat) : Int := sg (S a) * sg (S b) * sg (S c) * f a b c
theorem sg_pm (b : Bool) : sg b = 1 ∨ sg b = -1 := by cases b <;> simp [sg]
theorem sg_sq (b : Bool) : sg b * sg b = 1 := by cases b <;> rfl
theorem sg_not (b : Bool) : sg (!b) = -sg b := by cases b <;> rfl
section
variable {n : Nat} {f : Nat → Nat → Nat → Int} (o : Uni n f)
include o
theorem Uni.rv (S : Nat → Bool) : Uni n (rv S f) := by
  refine ⟨fun a b c ha hb hc d1 d2 d3 => ?_, fun a b c ha hb hc => ?_, fun a b c ha hb hc => ?_, fun x a b c d hx ha hb hc hd d1 d2 d3 d4 d5 d6 k1 k2 k3 k4 => ?_⟩
  · unfold U.rv
    rcases o.pm a b c ha hb hc d1 d2 d3 with v | v <;> rcases sg_pm (S a) with x | x <;> rcases sg_pm (S b) with y | y <;> rcases sg_pm (S c) with z | z <;> rw [v, x, y, z] <;> decide
  · unfold U.rv
    rw [o.s1 a b c ha hb hc, Int.mul_comm (sg (S b)), Int.mul_neg]
  · unfold U.rv
    rw [o.s2 a b c ha hb hc, Int.mul_assoc (sg (S a)), Int.mul_comm (sg (S c)), ← Int.mul_assoc (sg (S a)), Int.mul_neg]
  · have g := o.gp x a b c d hx ha hb hc hd d1 d2 d3 d4 d5 d6 k1 k2 k3 k4
    have q := sg_sq (S x)
    intro h
    refine g ?_
    unfold U.rv at h
    have e1 : sg (S x) * sg (S a) * sg (S b) * f x a b * (sg (S x) * sg (S c) * sg (S d) * f x c d) = (sg (S a) * sg (S b) * sg (S c) * sg (S d)) * (f x a b * f x c d) := by grind
    have e2 : sg (S x) * sg (S a) * sg (S d) * f x a d * (sg (S x) * sg (S b) * sg (S c) * f x b c) = (sg (S a) * sg (S b) * sg (S c) * sg (S d)) * (f x a d * f x b c) := by grind
    have e3 : -(sg (S x) * sg (S a) * sg (S c) * f x a c) * (sg (S x) * sg (S b) * sg (S d) * f x b d) = (sg (S a) * sg (S b) * sg (S c) * sg (S d)) * (-(f x a c) * f x b d) := by grind
    rw [e1, e2, e3] at h
    have K : sg (S a) * sg (S b) * sg (S c) * sg (S d) ≠ 0 := by
      rcases sg_pm (S a) with x | x <;> rcases sg_pm (S b) with y | y <;> rcases sg_pm (S c) with z | z <;> rcases sg_pm (S d) with w | w <;> rw [x, y, z, w] <;> decide
    exact ⟨Int.eq_of_mul_eq_mul_left K h.1, Int.eq_of_mul_eq_mul_left K h.2⟩
end
theorem rv_not (S : Nat → Bool) (f : Nat → Nat → Nat → Int) (a b c : Nat) : rv (fun k => !S k) f a b c = -rv S f a b c := by
  unfold rv
  rw [sg_not, sg_not, sg_not]
  grind
theorem Acy.not {n : Nat} {S : Nat → Bool} {f : Nat → Nat → Nat → Int} (h : Acy n (rv S f)) : Acy n (rv (fun k => !S k) f) := by
  rintro a b c d ha hb hc hd x ⟨h1, h2, h3⟩
  refine h a b c d ha hb hc hd x ⟨?_, ?_, ?_⟩
  · rw [rv_not, rv_not] at h1; omega
  · rw [rv_not, rv_not] at h2; omega
  · rw [rv_not, rv_not] at h3; omega
section
variable {n : Nat} {f : Nat → Nat → Nat → Int} (o : Uni n f) (ac : Acy n f)
include o ac
theorem noring {S : Nat → Bool} (aS : Acy n (rv S f)) {q s p r : Nat} (hq : q < n) (hs : s < n) (hp : p < n) (hr : r < n) (x : D4 q s p r) (e1 : S p = S s) (e2 : S r = S s) (e3 : S q = !S s)
    (h1 : f q s p = 1) (h2 : f q p r = 1) (h3 : f q s r = -1) : False := by
  have x' := x
  obtain ⟨d1, d2, d3, d4, d5, d6⟩ := x'
  rcases o.pm s p r hs hp hr d4 d6 d5 with v | v
  · refine aS q s p r hq hs hp hr x ⟨?_, ?_, ?_⟩ <;> unfold rv <;> rw [e1, e3] <;> (try rw [e2]) <;> simp only [h1, h2, h3, v, sg_not] <;> cases S s <;> decide
  · exact ac q s p r hq hs hp hr x ⟨by omega, by omega, by omega⟩
omit o ac in
theorem nocross {S : Nat → Bool} (aS : Acy n (rv S f)) {p q r t : Nat} (hp : p < n) (hq : q < n) (hr : r < n) (ht : t < n) (x : D4 p q r t) (e1 : S r = S p) (e2 : S q = !S p) (e3 : S t = !S p)
    (h1 : f q r t = -1) (h2 : f p r t = -1) (h3 : f p q t = -1) (h4 : f p q r = -1) : False := by
  refine aS p q r t hp hq hr ht x ⟨?_, ?_, ?_⟩ <;> unfold rv <;> (try rw [e1]) <;> (try rw [e2]) <;> (try rw [e3]) <;> simp only [h1, h2, h3, h4, sg_not] <;> cases S p <;> decide
theorem tangent {S : Nat → Bool} (aS : Acy n (rv S f)) {r : Nat} (hr : r < n) (e : S r = true) (m : Nat) : m ≤ r → (∃ t, t < m ∧ S t = false) → ∃ q, q < m ∧ S q = false ∧ ∀ t, t < m → S t = false → t ≠ q → f r q t = -1 := by
  induction m with
  | zero => rintro _ ⟨t, h, _⟩; omega
  | succ m ih =>
    rintro hm ⟨t0, h0, e0⟩
    by_cases em : S m = false
    · by_cases g : ∃ t, t < m ∧ S t = false
      · obtain ⟨q, hq, eq, hall⟩ := ih (by omega) g
        have hqn : q < n := by omega
        have hmn : m < n := by omega
        rcases o.pm r q m hr hqn hmn (by omega) (by omega) (by omega) with v | v
        · refine ⟨m, by omega, em, fun t ht et hne => ?_⟩
          by_cases hq' : t = q
          · subst hq'
            rw [o.s2 r t m hr hqn hmn, v]
          · have htn : t < n := by omega
            have w := hall t (by omega) et hq'
            rcases o.pm r m t hr hmn htn (by omega) (by omega) (by omega) with u | u
            · exfalso
              exact noring o ac aS hr hqn hmn htn ⟨by omega, by omega, by omega, by omega, by omega, by omega⟩ (by rw [em, eq]) (by rw [et, eq]) (by rw [e, eq]; rfl) v u w
            · exact u
        · refine ⟨q, by omega, eq, fun t ht et hne => ?_⟩
          by_cases e' : t = m
          · subst e'; exact v
          · exact hall t (by omega) et hne
      · refine ⟨m, by omega, em, fun t ht et hne => absurd ⟨t, by omega, et⟩ g⟩
    · have hb : ∃ t, t < m ∧ S t = false := ⟨t0, by
        have : t0 ≠ m := fun h => em (h ▸ e0)
        omega, e0⟩
      obtain ⟨q, hq, eq, hall⟩ := ih (by omega) hb
      refine ⟨q, by omega, eq, fun t ht et hne => hall t ?_ et hne⟩
      have : t ≠ m := fun h => em (h ▸ et)
      omega
def Cuts (m : Nat) (S : Nat → Bool) (f : Nat → Nat → Nat → Int) (p q : Nat) : Prop := S p = true ∧ S q = false ∧ ∀ k, k < m → k ≠ p → k ≠ q → f p q k = if S k then 1 else -1
omit o ac in
theorem Cuts.left {m : Nat} {S : Nat → Bool} {p q k : Nat} (h : Cuts m S f p q) (hk : k < m) (h1 : k ≠ p) (e : S k = true) : f p q k = 1 := by
  have := h.2.2 k hk h1 (fun e' => by rw [e', h.2.1] at e; cases e)
  rw [e] at this
  exact this
omit o ac in
theorem Cuts.right {m : Nat} {S : Nat → Bool} {p q k : Nat} (h : Cuts m S f p q) (hk : k < m) (h1 : k ≠ q) (e : S k = false) : f p q k = -1 := by
  have := h.2.2 k hk (fun e' => by rw [e', h.1] at e; cases e) h1
  rw [e] at this
  exact this
theorem cuts_step {S : Nat → Bool} (aS : Acy n (rv S f)) {r : Nat} (hr : r < n) (e : S r = true) (hT : ∃ t, t < r ∧ S t = false) (ih : (∃ s, s < r ∧ S s = true) → ∃ p q, p < r ∧ q < r ∧ Cuts r S f p q) : ∃ p q, p < r + 1 ∧ q < r + 1 ∧ Cuts (r + 1) S f p q := by
  obtain ⟨q', hq', eq', hall⟩ := tangent o ac aS hr e r (Nat.le_refl _) hT
  have hq'n : q' < n := by omega
  -- it is enough that the set lies to the left of r and q'
  have fin : (∀ s, s < r → S s = true → f r q' s = 1) → ∃ p q, p < r + 1 ∧ q < r + 1 ∧ Cuts (r + 1) S f p q := by
    intro hs
    refine ⟨r, q', by omega, by omega, e, eq', fun k hk h1 h2 => ?_⟩
    cases ek : S k with
    | true => exact hs k (by omega) ek
    | false => exact hall k (by omega) ek h2
  by_cases g : ∃ s, s < r ∧ S s = true
  · obtain ⟨p, q, hp, hq, hc⟩ := ih g
    have hpn : p < n := by omega
    have hqn : q < n := by omega
    have ep := hc.1
    have eq := hc.2.1
    have hpq : p ≠ q := fun h => by rw [h, eq] at ep; cases ep
    rcases o.pm p q r hpn hqn hr hpq (by omega) (by omega) with v | v
    · refine ⟨p, q, by omega, by omega, ep, eq, fun k hk h1 h2 => ?_⟩
      by_cases ek : k = r
      · subst ek; rw [e]; exact v
      · exact hc.2.2 k (by omega) h1 h2
    · refine fin fun s hs es => ?_
      have hsn : s < n := by omega
      have c1 := o.cyc hpn hqn hr
      have sq : s ≠ q := fun h => by rw [h, eq] at es; cases es
      have sq' : s ≠ q' := fun h => by rw [h, eq'] at es; cases es
      have pq' : p ≠ q' := fun h => by rw [h, eq'] at ep; cases ep
      -- around q
      have R : s ≠ p → f q s r = 1 := by
        intro sp
        have u := hc.left hs sp es
        have c2 := o.cyc hpn hqn hsn
        have c3 := o.s2 q r p hqn hr hpn
        rcases o.pm q s r hqn hsn hr (Ne.symm sq) (by omega) (by omega) with w | w
        · exact w
        · exact (noring o ac aS hqn hsn hpn hr ⟨by omega, by omega, by omega, by omega, by omega, by omega⟩ (by rw [ep, es]) (by rw [e, es]) (by rw [eq, es]; rfl) (by omega) (by omega) w).elim
      by_cases eqq : q' = q
      · subst eqq
        by_cases sp : s = p
        · subst sp
          have := o.s1 r q' s hr hqn hsn
          have := o.cyc hqn hr hsn
          have := o.cyc hsn hqn hr
          have := o.s2 q' r s hqn hr hsn
          omega
        · have := R sp
          have := o.cyc hr hqn hsn
          have := o.cyc hqn hsn hr
          omega
      · have v1 := hall q hq eq (Ne.symm eqq)
        have w1 := hc.right hq' eqq eq'
        have cr := o.cyc hr hq'n hqn
        have cq := o.cyc hqn hr hq'n
        have P0 : f r q' p = 1 := by
          rcases o.pm r q' p hr hq'n hpn (by omega) (by omega) (by omega) with w | w
          · exact w
          · have z1 := o.cyc hr hq'n hpn
            exact (nocross aS hpn hqn hr hq'n ⟨by omega, by omega, by omega, by omega, by omega, by omega⟩ (by rw [e, ep]) (by rw [eq, ep]; rfl) (by rw [eq', ep]; rfl) (by omega) (by omega) w1 v).elim
        by_cases sp : s = p
        · subst sp; exact P0
        · have w2 := R sp
          have w3 := hc.left hs sp es
          rcases o.pm r q' s hr hq'n hsn (by omega) (by omega) (by omega) with w | w
          · exact w
          · exfalso
            have z1 := o.cyc hr hq'n hsn
            have z2 := o.cyc hqn hsn hr
            have z3 := o.s2 s q r hsn hqn hr
            have z4 := o.s1 s q r hsn hqn hr
            have z5 := o.cyc hqn hr hsn
            have z6 := o.s2 q s r hqn hsn hr
            rcases o.pm s q q' hsn hqn hq'n sq (Ne.symm eqq) sq' with y | y
            · have y1 := o.cyc hr hq'n hpn
              have y2 := o.s2 q' s r hq'n hsn hr
              rcases o.pm q' p s hq'n hpn hsn (Ne.symm pq') (Ne.symm sp) (Ne.symm sq') with u | u
              · have y3 := o.cyc hq'n hpn hsn
                have y4 := o.s1 s q q' hsn hqn hq'n
                exact ac p q s q' hpn hqn hsn hq'n ⟨by omega, by omega, by omega, by omega, by omega, by omega⟩ ⟨by omega, by omega, by omega⟩
              · exact noring o ac aS hq'n hpn hr hsn ⟨by omega, by omega, by omega, by omega, by omega, by omega⟩ (by rw [e, ep]) (by rw [es, ep]) (by rw [eq', ep]; rfl) (by omega) (by omega) u
            · exact nocross aS hsn hqn hr hq'n ⟨by omega, by omega, by omega, by omega, by omega, by omega⟩ (by rw [e, es]) (by rw [eq, es]; rfl) (by rw [eq', es]; rfl) (by omega) (by omega) y (by omega)
  · exact fin fun s hs es => absurd ⟨s, hs, es⟩ g
omit ac in
theorem cuts_not {m : Nat} {S : Nat → Bool} {p q : Nat} (hm : m ≤ n) (hp : p < m) (hq : q < m) (h : Cuts m (fun k => !S k) f p q) : Cuts m S f q p := by
  obtain ⟨h1, h2, h3⟩ := h
  refine ⟨by simpa using h2, by simpa using h1, fun k hk k1 k2 => ?_⟩
  have := h3 k hk k2 k1
  rw [o.s1 p q k (by omega) (by omega) (by omega), this]
  cases e : S k <;> simp [e]
theorem cuts_exist (m : Nat) : ∀ {S : Nat → Bool}, Acy n (rv S f) → m ≤ n → (∃ s, s < m ∧ S s = true) → (∃ t, t < m ∧ S t = false) → ∃ p q, p < m ∧ q < m ∧ Cuts m S f p q := by
  induction m with
  | zero => rintro S _ _ ⟨s, h, _⟩; omega
  | succ m ih =>
    intro S aS hm hS hT
    cases e : S m with
    | true =>
      obtain ⟨t, ht, et⟩ := hT
      have htm : t < m := by
        have : t ≠ m := fun h => by rw [h, e] at et; cases et
        omega
      exact cuts_step o ac aS (by omega) e ⟨t, htm, et⟩ fun g => ih aS (by omega) g ⟨t, htm, et⟩
    | false =>
      obtain ⟨s, hs, es⟩ := hS
      have hsm : s < m := by
        have : s ≠ m := fun h => by rw [h, e] at es; cases es
        omega
      obtain ⟨p, q, hp, hq, hc⟩ := cuts_step o ac (S := fun k => !S k) aS.not (r := m) (by omega) (by rw [e]; rfl) ⟨s, hsm, by rw [es]; rfl⟩ fun g => ih aS.not (by omega) g ⟨s, hsm, by rw [es]; rfl⟩
      exact ⟨q, p, hq, hp, cuts_not o hm hp hq hc⟩
theorem cuts_one {S : Nat → Bool} {p q p' q' : Nat} (hp : p < n) (hq : q < n) (hp' : p' < n) (hq' : q' < n) (h : Cuts n S f p q) (h' : Cuts n S f p' q') : p = p' ∧ q = q' := by
  have n1 : ∀ {a b : Nat}, S a = true → S b = false → a ≠ b := fun ha hb e => by rw [e, hb] at ha; cases ha
  have e1 := n1 h.1 h.2.1
  have e2 := n1 h.1 h'.2.1
  have e3 := n1 h'.1 h.2.1
  have e4 := n1 h'.1 h'.2.1
  by_cases a : p = p'
  · subst a
    refine ⟨rfl, Classical.byContradiction fun b => ?_⟩
    have u := h.right hq' (Ne.symm b) h'.2.1
    have v := h'.right hq b h.2.1
    have := o.s2 p q q' hp hq hq'
    omega
  · exfalso
    by_cases b : q = q'
    · subst b
      have u := h.left hp' (Ne.symm a) h'.1
      have v := h'.left hp a h.1
      have := o.cyc hp hq hp'
      have := o.s2 q p p' hq hp hp'
      have := o.s1 p' q p hp' hq hp
      omega
    · have u := h.left hp' (Ne.symm a) h'.1
      have v := h.right hq' (Ne.symm b) h'.2.1
      have u' := h'.left hp a h.1
      have v' := h'.right hq b h.2.1
      have c1 := o.cyc hp' hq' hp
      have c2 := o.cyc hp' hq' hq
      exact ac p q p' q' hp hq hp' hq' ⟨e1, a, e2, e3.symm, b, e4⟩ ⟨by omega, by omega, by omega⟩
end
section
variable {n : Nat} {f : Nat → Nat → Nat → Int} (o : Uni n f)
include o
def cutS (f : Nat → Nat → Nat → Int) (p q k : Nat) : Bool := decide (k = p) || (decide (k ≠ q) && decide (f p q k = 1))
theorem cutS_cuts {p q : Nat} (hp : p < n) (hq : q < n) (hpq : p ≠ q) : Cuts n (cutS f p q) f p q := by
  refine ⟨by simp [cutS], by simp [cutS, Ne.symm hpq], fun k hk h1 h2 => ?_⟩
  rcases o.pm p q k hp hq hk hpq (Ne.symm h2) (Ne.symm h1) with v | v
  · simp [cutS, h1, h2, v]
  · simp [cutS, h1, v]
theorem cuts_acy {S : Nat → Bool} {p q : Nat} (hp : p < n) (hq : q < n) (hpq : p ≠ q) (h : Cuts n S f p q) : Acy n (rv S f) := by
  refine (o.rv S).edge_ac hp hq hpq fun k hk h1 h2 => ?_
  have := h.2.2 k hk h1 h2
  unfold U.rv
  rw [this, h.1, h.2.1]
  cases S k <;> rfl
omit o in
theorem cuts_eq {S : Nat → Bool} {p q k : Nat} (hp : p < n) (hq : q < n) (hk : k < n) (hpq : p ≠ q) (h : Cuts n S f p q) : cutS f p q k = S k := by
  by_cases e1 : k = p
  · subst e1; rw [h.1]; simp [cutS]
  by_cases e2 : k = q
  · subst e2; rw [h.2.1]; simp [cutS, e1]
  have := h.2.2 k hk e1 e2
  cases e : S k with
  | true => rw [e] at this; simp [cutS, e2, this]
  | false => rw [e] at this; simp [cutS, e1, this]
theorem acy_some {p q : Nat} (hp : p < n) (hq : q < n) (hpq : p ≠ q) : ∃ S, Acy n (rv S f) := ⟨_, cuts_acy o hp hq hpq (cutS_cuts o hp hq hpq)⟩
end
/-! ### Sets as numbers -/
def num : Nat → (Nat → Bool) → Nat
  | 0, _ => 0
  | m + 1, P => num m P + if P m then 2 ^ m else 0
theorem num_lt (m : Nat) (P : Nat → Bool) : num m P < 2 ^ m := by
  induction m with
  | zero => exact Nat.one_pos
  | succ m ih =>
    rw [num, Nat.pow_succ]
    split <;> omega
theorem num_bit (m : Nat) (P : Nat → Bool) (k : Nat) : (num m P).testBit k = (decide (k < m) && P k) := by
  induction m with
  | zero => simp [num]
  | succ m ih =>
    rw [num]
    have hl := num_lt m P
    cases e : P m with
    | true =>
      rw [if_pos rfl, Nat.add_comm]
      by_cases h : k = m
      · subst h
        rw [Nat.testBit_two_pow_add_eq, Nat.testBit_lt_two_pow hl]
        simp [e]
      · by_cases h' : k < m
        · rw [Nat.testBit_two_pow_add_gt h', ih]
          simp [h', Nat.lt_succ_of_lt h']
        · rw [Nat.testBit_lt_two_pow]
          · simp; omega
          · have : 2 ^ (m + 1) ≤ 2 ^ k := Nat.pow_le_pow_right (by omega) (by omega)
            rw [Nat.pow_succ] at this
            omega
    | false =>
      rw [if_neg (by decide), Nat.add_zero, ih]
      by_cases h : k = m
      · subst h; simp [e]
      · by_cases h' : k < m
        · simp [h', Nat.lt_succ_of_lt h']
        · simp [h']; omega
theorem num_congr {m : Nat} {P Q : Nat → Bool} (h : ∀ k, k < m → P k = Q k) : num m P = num m Q := by
  induction m with
  | zero => rfl
  | succ m ih => rw [num, num, ih fun k hk => h k (by omega), h m (by omega)]
theorem num_of {m s : Nat} (h : s < 2 ^ m) : num m s.testBit = s := by
  refine Nat.eq_of_testBit_eq fun k => ?_
  rw [num_bit]
  by_cases hk : k < m
  · simp [hk]
  · have : s < 2 ^ k := Nat.lt_of_lt_of_le h (Nat.pow_le_pow_right (by omega) (by omega))
    rw [Nat.testBit_lt_two_pow this, Bool.and_false]
def bits (m s : Nat) : Nat := ((List.range m).filter s.testBit).length
def prs (n : Nat) : List (Nat × Nat) := (List.range n).flatMap fun p => ((List.range n).filter (fun q => decide (q ≠ p))).map fun q => (p, q)
theorem mem_prs {n p q : Nat} : (p, q) ∈ prs n ↔ p < n ∧ q < n ∧ q ≠ p := by
  simp only [prs, List.mem_flatMap, List.mem_map, List.mem_filter, List.mem_range, decide_eq_true_eq, Prod.mk.injEq]
  constructor
  · rintro ⟨a, ha, b, ⟨hb, hne⟩, rfl, rfl⟩
    exact ⟨ha, hb, hne⟩
  · rintro ⟨hp, hq, hne⟩
    exact ⟨p, hp, q, ⟨hq, hne⟩, rfl, rfl⟩
theorem prs_nodup (n : Nat) : (prs n).Nodup := by
  unfold prs
  rw [List.Nodup, List.pairwise_flatMap]
  refine ⟨fun p hp => ?_, ?_⟩
  · rw [List.pairwise_map]
    have hn : List.Pairwise (· ≠ ·) ((List.range n).filter fun q => decide (q ≠ p)) := List.Pairwise.filter _ List.nodup_range
    exact hn.imp fun {a b} h e => h (Prod.mk.inj e).2
  · refine List.Pairwise.imp (R := (· ≠ ·)) (fun h x hx y hy e => ?_) List.nodup_range
    subst e
    simp only [List.mem_map] at hx hy
    obtain ⟨u, _, rfl⟩ := hx
    obtain ⟨v, _, e⟩ := hy
    cases e
    exact h rfl
theorem count_perm {n : Nat} {f : Nat → Nat → Nat → Int} (o : Uni n f) (ac : Acy n f) {ab : Nat → Bool} (hab : ∀ s, s < 2 ^ n → (ab s = true ↔ Acy n (rv s.testBit f))) :
    ((List.range (2 ^ n)).filter fun s => ab s && decide (s ≠ 0) && decide (s ≠ 2 ^ n - 1)).Perm ((prs n).map fun x => num n (cutS f x.1 x.2)) := by
  refine (List.perm_ext_iff_of_nodup (List.Pairwise.filter _ List.nodup_range) ?_).2 fun s => ?_
  · rw [List.Nodup, List.pairwise_map]
    refine List.Pairwise.imp_of_mem (R := (· ≠ ·)) (fun {x y} hx hy h e => h ?_) (prs_nodup n)
    obtain ⟨p, q⟩ := x
    obtain ⟨p', q'⟩ := y
    obtain ⟨hp, hq, hpq⟩ := mem_prs.1 hx
    obtain ⟨hp', hq', hpq'⟩ := mem_prs.1 hy
    have c := cutS_cuts o hp hq (Ne.symm hpq)
    have c' := cutS_cuts o hp' hq' (Ne.symm hpq')
    have same : ∀ k, k < n → cutS f p q k = cutS f p' q' k := by
      intro k hk
      have := congrArg (fun s => Nat.testBit s k) e
      simpa [num_bit, hk] using this
    have c2 : Cuts n (cutS f p q) f p' q' := ⟨by rw [same p' hp']; exact c'.1, by rw [same q' hq']; exact c'.2.1, fun k hk h1 h2 => by rw [same k hk]; exact c'.2.2 k hk h1 h2⟩
    obtain ⟨rfl, rfl⟩ := cuts_one o ac hp hq hp' hq' c c2
    rfl
  · simp only [List.mem_filter, List.mem_range, Bool.and_eq_true, decide_eq_true_eq, List.mem_map]
    constructor
    · rintro ⟨hs, ⟨h, h0⟩, h1⟩
      have aS := (hab s hs).1 h
      have hS : ∃ k, k < n ∧ s.testBit k = true := by
        refine Classical.byContradiction fun hn => h0 ?_
        rw [← num_of hs]
        have : ∀ m, m ≤ n → num m s.testBit = 0 := by
          intro m
          induction m with
          | zero => intro _; rfl
          | succ m ih =>
            intro hm
            rw [num, ih (by omega), if_neg fun hb => hn ⟨m, by omega, hb⟩]
        exact this n (Nat.le_refl _)
      have hT : ∃ k, k < n ∧ s.testBit k = false := by
        refine Classical.byContradiction fun hn => h1 ?_
        rw [← num_of hs]
        have : ∀ m, m ≤ n → num m s.testBit = 2 ^ m - 1 := by
          intro m
          induction m with
          | zero => intro _; rfl
          | succ m ih =>
            intro hm
            have hb : s.testBit m = true := by
              cases e : s.testBit m with
              | true => rfl
              | false => exact absurd ⟨m, by omega, e⟩ hn
            have := Nat.one_le_two_pow (n := m)
            rw [num, ih (by omega), if_pos hb, Nat.pow_succ]
            omega
        exact this n (Nat.le_refl _)
      obtain ⟨p, q, hp, hq, hc⟩ := cuts_exist o ac n aS (Nat.le_refl _) hS hT
      have hpq : q ≠ p := fun e => by
        have := hc.1
        rw [← e, hc.2.1] at this
        cases this
      refine ⟨(p, q), mem_prs.2 ⟨hp, hq, hpq⟩, ?_⟩
      rw [← num_of hs]
      exact num_congr fun k hk => cuts_eq hp hq hk (Ne.symm hpq) hc
    · rintro ⟨⟨p, q⟩, hx, rfl⟩
      obtain ⟨hp, hq, hpq⟩ := mem_prs.1 hx
      have c := cutS_cuts o hp hq (Ne.symm hpq)
      have hl := num_lt n (cutS f p q)
      have bp : (num n (cutS f p q)).testBit p = true := by rw [num_bit, c.1]; simp [hp]
      have bq : (num n (cutS f p q)).testBit q = false := by rw [num_bit, c.2.1]; simp
      refine ⟨hl, ⟨(hab _ hl).2 ?_, fun e => ?_⟩, fun e => ?_⟩
      · refine cuts_acy o hp hq (Ne.symm hpq) ⟨bp, bq, fun k hk h1 h2 => ?_⟩
        rw [num_bit, decide_eq_true hk, Bool.true_and]
        exact c.2.2 k hk h1 h2
      · have e' : num n (cutS f p q) = 0 := e
        rw [e', Nat.zero_testBit] at bp
        cases bp
      · have e' : num n (cutS f p q) = 2 ^ n - 1 := e
        rw [e', Nat.testBit_two_pow_sub_one, decide_eq_true hq] at bq
        cases bq
theorem rv_zero {S : Nat → Bool} {f : Nat → Nat → Nat → Int} {n a b c : Nat} (h : ∀ k, k < n → S k = false) (ha : a < n) (hb : b < n) (hc : c < n) : rv S f a b c = f a b c := by
  unfold rv
  rw [h a ha, h b hb, h c hc]
  simp [sg]
theorem rv_one {S : Nat → Bool} {f : Nat → Nat → Nat → Int} {n a b c : Nat} (h : ∀ k, k < n → S k = true) (ha : a < n) (hb : b < n) (hc : c < n) : rv S f a b c = -f a b c := by
  unfold rv
  rw [h a ha, h b hb, h c hc]
  simp [sg]
theorem count_all {n : Nat} {f : Nat → Nat → Nat → Int} (o : Uni n f) (ac : Acy n f) (h0 : 1 ≤ n) {ab : Nat → Bool} (hab : ∀ s, s < 2 ^ n → (ab s = true ↔ Acy n (rv s.testBit f))) :
    ((List.range (2 ^ n)).filter ab).length = (prs n).length + 2 := by
  have hp := (count_perm o ac hab).length_eq
  rw [List.length_map] at hp
  rw [← hp]
  have two : 2 ≤ 2 ^ n := by
    have := Nat.pow_le_pow_right (n := 2) (by omega) h0
    omega
  have a0 : ab 0 = true := (hab 0 (by omega)).2 (by
    rintro a b c d ha hb hc hd x ⟨h1, h2, h3⟩
    have e := fun {a b c : Nat} => rv_zero (S := (0 : Nat).testBit) (f := f) (n := n) (a := a) (b := b) (c := c) fun k _ => Nat.zero_testBit k
    rw [e ha hc hd, e hb hc hd] at h1
    rw [e ha hb hd, e hb hc hd] at h2
    rw [e ha hb hc, e hb hc hd] at h3
    exact ac a b c d ha hb hc hd x ⟨h1, h2, h3⟩)
  have a1 : ab (2 ^ n - 1) = true := (hab _ (by omega)).2 (by
    rintro a b c d ha hb hc hd x ⟨h1, h2, h3⟩
    have e := fun {a b c : Nat} => rv_one (S := (2 ^ n - 1).testBit) (f := f) (n := n) (a := a) (b := b) (c := c) fun k hk => by rw [Nat.testBit_two_pow_sub_one]; exact decide_eq_true hk
    rw [e ha hc hd, e hb hc hd] at h1
    rw [e ha hb hd, e hb hc hd] at h2
    rw [e ha hb hc, e hb hc hd] at h3
    exact ac a b c d ha hb hc hd x ⟨by omega, by omega, by omega⟩)
  have key : ∀ m, m ≤ 2 ^ n → ((List.range m).filter ab).length = ((List.range m).filter fun s => ab s && decide (s ≠ 0) && decide (s ≠ 2 ^ n - 1)).length + (if 0 < m then 1 else 0) + if 2 ^ n - 1 < m then 1 else 0 := by
    intro m
    induction m with
    | zero => intro _; simp
    | succ m ih =>
      intro hm
      rw [List.range_succ, List.filter_append, List.filter_append, List.length_append, List.length_append, ih (by omega)]
      by_cases e0 : m = 0
      · subst e0
        have : ¬ 2 ^ n - 1 < 1 := by omega
        simp [a0, this]
      · by_cases e1 : m = 2 ^ n - 1
        · rw [e1, if_pos (by omega), if_neg (by omega), if_pos (by omega), if_pos (by omega)]
          simp [a1]
        · rw [if_pos (by omega), if_neg (by omega), if_pos (by omega), if_neg (by omega)]
          cases g : ab m <;> simp [g, e0, e1] <;> omega
  rw [key _ (Nat.le_refl _), if_pos (by omega), if_pos (by omega)]
theorem count_any {n : Nat} {f : Nat → Nat → Nat → Int} (o : Uni n f) (h0 : 2 ≤ n) {ab : Nat → Bool} (hab : ∀ s, s < 2 ^ n → (ab s = true ↔ Acy n (rv s.testBit f))) :
    ((List.range (2 ^ n)).filter ab).length = (prs n).length + 2 := by
  obtain ⟨R, aR⟩ := acy_some o (p := 0) (q := 1) (by omega) (by omega) (by omega)
  have hr := num_lt n R
  have br := num_bit n R
  have aR' : Acy n (rv (num n R).testBit f) := by
    have e : ∀ {a b c : Nat}, a < n → b < n → c < n → rv (num n R).testBit f a b c = rv R f a b c := by
      intro a b c ha hb hc
      unfold rv
      rw [br, br, br]
      simp [ha, hb, hc]
    rintro a b c d ha hb hc hd x ⟨h1, h2, h3⟩
    rw [e ha hc hd, e hb hc hd] at h1
    rw [e ha hb hd, e hb hc hd] at h2
    rw [e ha hb hc, e hb hc hd] at h3
    exact aR a b c d ha hb hc hd x ⟨h1, h2, h3⟩
  generalize num n R = r at hr aR'
  have xl : ∀ s, s < 2 ^ n → s ^^^ r < 2 ^ n := fun s hs => Nat.xor_lt_two_pow hs hr
  have xx : ∀ s, (s ^^^ r) ^^^ r = s := fun s => by rw [Nat.xor_assoc, Nat.xor_self, Nat.xor_zero]
  have comp : ∀ s a b c, rv s.testBit (rv r.testBit f) a b c = rv (s ^^^ r).testBit f a b c := by
    intro s a b c
    have : ∀ k, sg ((s ^^^ r).testBit k) = sg (s.testBit k) * sg (r.testBit k) := by
      intro k
      rw [Nat.testBit_xor]
      cases s.testBit k <;> cases r.testBit k <;> rfl
    unfold rv
    rw [this, this, this]
    grind
  have hab' : ∀ s, s < 2 ^ n → (ab (s ^^^ r) = true ↔ Acy n (rv s.testBit (rv r.testBit f))) := by
    intro s hs
    rw [hab _ (xl s hs)]
    have : rv s.testBit (rv r.testBit f) = rv (s ^^^ r).testBit f := funext fun a => funext fun b => funext fun c => comp s a b c
    rw [this]
  rw [← count_all (o.rv _) aR' (by omega) hab']
  refine List.Perm.length_eq (l₁ := (List.range (2 ^ n)).filter ab) (l₂ := ((List.range (2 ^ n)).filter fun s => ab (s ^^^ r)).map (· ^^^ r)) ?_ |>.trans (List.length_map _)
  refine (List.perm_ext_iff_of_nodup (List.Pairwise.filter _ List.nodup_range) ?_).2 fun s => ?_
  · rw [List.Nodup, List.pairwise_map]
    have hn : List.Pairwise (· ≠ ·) ((List.range (2 ^ n)).filter fun s => ab (s ^^^ r)) := List.Pairwise.filter _ List.nodup_range
    exact hn.imp fun {x y} h e => h (by rw [← xx x, e, xx])
  · simp only [List.mem_filter, List.mem_range, List.mem_map]
    constructor
    · rintro ⟨h1, h2⟩
      exact ⟨s ^^^ r, ⟨xl s h1, by rw [xx]; exact h2⟩, xx s⟩
    · rintro ⟨t, ⟨h1, h2⟩, rfl⟩
      exact ⟨xl t h1, h2⟩
theorem prs_length {n : Nat} (h : n ≤ 7) : (prs n).length = n * (n - 1) := by
  have : ∀ i : Fin 8, (prs i.val).length = i.val * (i.val - 1) := by decide +kernel
  exact this ⟨n, by omega⟩
end Go.Proofs.Ytckkfjdkaimmhaa.U
namespace Go.Proofs.Ytckkfjdkaimmhaa.M
open Go.RowKit Go.Proofs.YtckkfjdkaimmhaaW.PrintWords Go.Proofs.Ytckkfjdkaimmhaa.PX Go.Proofs.Ytckkfjdkaimmhaa.G
theorem four_sort {n : Nat} {P : Nat → Nat → Nat → Nat → Prop} (h1 : ∀ a b c d, a < n → b < n → c < n → d < n → P b a c d → P a b c d) (h2 : ∀ a b c d, a < n → b < n → c < n → d < n → P a c b d → P a b c d) (h3 : ∀ a b c d, a < n → b < n → c < n → d < n → P a b d c → P a b c d)
    (base : ∀ a b c d, a < b → b < c → c < d → d < n → P a b c d) {a b c d : Nat} (ha : a < n) (hb : b < n) (hc : c < n) (hd : d < n) (hx : dist4 a b c d = true) : P a b c d := by
  obtain ⟨e1, e2, e3, e4, e5, e6⟩ := dist4_iff.1 hx
  have A : ∀ a b c d : Nat, a < b → b < c → c < n → d < n → d ≠ a → d ≠ b → d ≠ c → P a b c d := by
    intro a b c d hab hbc hc hd k1 k2 k3
    rcases Nat.lt_or_gt_of_ne k3 with g | g
    · refine h3 _ _ _ _ (by omega) (by omega) hc hd ?_
      rcases Nat.lt_or_gt_of_ne k2 with g' | g'
      · refine h2 _ _ _ _ (by omega) (by omega) hd hc ?_
        rcases Nat.lt_or_gt_of_ne k1 with g'' | g''
        · exact h1 _ _ _ _ (by omega) hd (by omega) hc (base _ _ _ _ g'' hab hbc hc)
        · exact base _ _ _ _ g'' g' hbc hc
      · exact base _ _ _ _ hab g' g hc
    · exact base _ _ _ _ hab hbc g hd
  have B : ∀ a b c d : Nat, a < b → b < n → c < n → d < n → dist4 a b c d = true → P a b c d := by
    intro a b c d hab hb hc hd hx
    obtain ⟨e1, e2, e3, e4, e5, e6⟩ := dist4_iff.1 hx
    rcases Nat.lt_or_gt_of_ne e4 with g | g
    · exact A _ _ _ _ hab g hc hd (by omega) (by omega) (by omega)
    · refine h2 _ _ _ _ (by omega) hb hc hd ?_
      rcases Nat.lt_or_gt_of_ne e2 with g' | g'
      · exact A _ _ _ _ g' g hb hd (by omega) (by omega) (by omega)
      · exact h1 _ _ _ _ (by omega) hc hb hd (A _ _ _ _ g' hab hb hd (by omega) (by omega) (by omega))
  rcases Nat.lt_or_gt_of_ne e1 with g | g
  · exact B _ _ _ _ g hb hc hd hx
  · exact h1 _ _ _ _ ha hb hc hd (B _ _ _ _ g ha hc hd (dist4_iff.2 (by omega)))
structure Ord (n : Nat) (f : Nat → Nat → Nat → Int) : Prop where
  pm : ∀ a b c, a < n → b < n → c < n → a ≠ b → b ≠ c → a ≠ c → f a b c = 1 ∨ f a b c = -1
  s1 : ∀ a b c, a < n → b < n → c < n → f b a c = -f a b c
  s2 : ∀ a b c, a < n → b < n → c < n → f a c b = -f a b c
  gp : ∀ x a b c d, x < n → a < n → b < n → c < n → d < n → dist4 a b c d = true → x ≠ a → x ≠ b → x ≠ c → x ≠ d → ¬ (f x a b * f x c d = f x a d * f x b c ∧ f x a d * f x b c = -(f x a c) * f x b d)
  ac : ∀ a b c d, a < n → b < n → c < n → d < n → dist4 a b c d = true → ¬ (f a c d = -(f b c d) ∧ f a b d = f b c d ∧ f a b c = -(f b c d))
theorem brkFrom_nil {n : Nat} {t : ByteArray} : ∀ (d x : Nat), brkFrom n t x d = [] → ∀ y, x ≤ y → y < x + d → srch n t y (qs1 (othersN n y) 0 (othersN n y).length) = none := by
  intro d
  induction d with
  | zero => intro x _ y h1 h2; omega
  | succ d ih =>
    intro x h y h1 h2
    rw [brkFrom] at h
    cases hs : srch n t x (qs1 (othersN n x) 0 (othersN n x).length) with
    | some v =>
      rw [hs] at h
      obtain ⟨q, _, hq⟩ := List.exists_of_findSome?_eq_some hs
      unfold brkQ at hq
      split at hq
      · cases hq; cases h
      · cases hq
    | none =>
      rw [hs] at h
      by_cases e : y = x
      · subst e; exact hs
      · exact ih (x + 1) h y (by omega) (by omega)
theorem mat_gp {n : Nat} {t : ByteArray} (ho : areOk (n : Int) t = true) (hb0 : brkA n t = []) (h0 : 3 ≤ n) (h1 : n ≤ 7) : ∀ x a b c d, x < n → a < n → b < n → c < n → d < n → dist4 a b c d = true → x ≠ a → x ≠ b → x ≠ c → x ≠ d → ¬ (chi n t x a b * chi n t x c d = chi n t x a d * chi n t x b c ∧ chi n t x a d * chi n t x b c = -(chi n t x a c) * chi n t x b d) := by
  have s1 : ∀ a b c, a < n → b < n → c < n → chi n t b a c = -chi n t a b c := fun a b c ha hb hc => chi_swap1 t h0 h1 (by omega) (by omega) (by omega)
  have s2 : ∀ a b c, a < n → b < n → c < n → chi n t a c b = -chi n t a b c := fun a b c ha hb hc => chi_swap2 t h0 h1 (by omega) (by omega) (by omega)
  intro x a b c d hx ha hb hc hd hq k1 k2 k3 k4
  refine four_sort (n := n) (P := fun a b c d => x ≠ a → x ≠ b → x ≠ c → x ≠ d → ¬ (chi n t x a b * chi n t x c d = chi n t x a d * chi n t x b c ∧ chi n t x a d * chi n t x b c = -(chi n t x a c) * chi n t x b d)) ?_ ?_ ?_ ?_ ha hb hc hd hq k1 k2 k3 k4
  · intro a b c d ha hb hc hd hP k1 k2 k3 k4 hh
    refine hP k2 k1 k3 k4 ?_
    rw [s2 x a b hx ha hb]
    have e1 := hh.1
    have e2 := hh.2
    constructor
    · rw [Int.neg_mul, e1, e2, Int.neg_mul, Int.neg_neg, Int.mul_comm]
    · rw [Int.mul_comm (chi n t x b d), Int.neg_mul, Int.mul_comm (chi n t x b c)]
      rw [Int.neg_mul] at e2
      omega
  · intro a b c d ha hb hc hd hP k1 k2 k3 k4 hh
    refine hP k1 k3 k2 k4 ?_
    have e1 := hh.1
    have e2 := hh.2
    have e3 : chi n t x c b = -chi n t x b c := s2 x b c hx hb hc
    rw [e3]
    rw [Int.neg_mul] at e2
    constructor
    · rw [Int.mul_neg]; omega
    · rw [Int.mul_neg, Int.neg_mul]; omega
  · intro a b c d ha hb hc hd hP k1 k2 k3 k4 hh
    refine hP k1 k2 k4 k3 ?_
    have e1 := hh.1
    have e2 := hh.2
    have e3 : chi n t x d c = -chi n t x c d := s2 x c d hx hc hd
    rw [e3]
    rw [Int.neg_mul] at e2
    constructor
    · rw [Int.mul_neg]; omega
    · rw [Int.neg_mul]; omega
  · intro a b c d hab hbc hcd hd k1 k2 k3 k4 hh
    have hA : areOk (n : Int) t = true := ho
    have hb := hb0
    unfold brkA at hb
    rw [if_pos hA, Int.toNat_natCast] at hb
    have hs := brkFrom_nil n 0 hb x (by omega) (by omega)
    have hcq := chkQ_ok h0 h1
    simp only [chkQ, Bool.and_eq_true, List.all_eq_true, List.mem_range, decide_eq_true_eq] at hcq
    rw [← hcq.1.1 x hx, (quadQ_L h0 h1).1] at hs
    unfold srch at hs
    have hq := List.findSome?_eq_none_iff.1 hs (a, b, c, d) (List.mem_filter.2 ⟨quads_mem hab hbc hcd hd, by simp only [noX, Bool.and_eq_true, decide_eq_true_eq]; omega⟩)
    unfold brkQ at hq
    split at hq
    · cases hq
    · rename_i hbk
      refine hbk ?_
      unfold brk
      rw [Bool.and_eq_true, decide_eq_true_eq, decide_eq_true_eq]
      exact hh
theorem acyc_ac {n : Nat} {t : ByteArray} (hac0 : acyc n t = true) (h0 : 3 ≤ n) (h1 : n ≤ 7) : ∀ a b c d, a < n → b < n → c < n → d < n → dist4 a b c d = true → ¬ (chi n t a c d = -(chi n t b c d) ∧ chi n t a b d = chi n t b c d ∧ chi n t a b c = -(chi n t b c d)) := by
  have s1 : ∀ a b c, a < n → b < n → c < n → chi n t b a c = -chi n t a b c := fun a b c ha hb hc => chi_swap1 t h0 h1 (by omega) (by omega) (by omega)
  have s2 : ∀ a b c, a < n → b < n → c < n → chi n t a c b = -chi n t a b c := fun a b c ha hb hc => chi_swap2 t h0 h1 (by omega) (by omega) (by omega)
  intro a b c d ha hb hc hd hq
  refine four_sort (n := n) (P := fun a b c d => dist4 a b c d = true → ¬ (chi n t a c d = -(chi n t b c d) ∧ chi n t a b d = chi n t b c d ∧ chi n t a b c = -(chi n t b c d))) ?_ ?_ ?_ ?_ ha hb hc hd hq hq
  · intro a b c d ha hb hc hd hP hx hh
    refine hP (dist4_iff.2 (by have := dist4_iff.1 hx; omega)) ?_
    have e1 := s1 a b d ha hb hd
    have e2 := s1 a b c ha hb hc
    omega
  · intro a b c d ha hb hc hd hP hx hh
    refine hP (dist4_iff.2 (by have := dist4_iff.1 hx; omega)) ?_
    have e1 := s1 b c d hb hc hd
    have e2 := s2 a b c ha hb hc
    omega
  · intro a b c d ha hb hc hd hP hx hh
    refine hP (dist4_iff.2 (by have := dist4_iff.1 hx; omega)) ?_
    have e1 := s2 b c d hb hc hd
    have e2 := s2 a c d ha hc hd
    omega
  · intro a b c d hab hbc hcd hd hx hh
    have hac := hac0
    unfold acyc at hac
    rw [Bool.not_eq_true', List.any_eq_false] at hac
    refine hac (a, b, c, d) (quads_mem hab hbc hcd hd) ?_
    obtain ⟨e1, e2, e3⟩ := hh
    unfold allPlus
    simp only [e1, e2, e3, decide_eq_true_eq]
    rcases chi_pm (n := n) (a := b) (b := c) (c := d) t h0 h1 (by omega) (by omega) hd (by omega) (by omega) (by omega) with e | e <;> rw [e] <;> decide +kernel
end Go.Proofs.Ytckkfjdkaimmhaa.M
namespace Go.Proofs.Ytckkfjdkaimmhaa.M
open Go.RowKit Go.Proofs.YtckkfjdkaimmhaaW.PrintWords Go.Proofs.Ytckkfjdkaimmhaa.PX Go.Proofs.Ytckkfjdkaimmhaa.G
def sgI (x : Int) : Int := if x > 0 then 43 else 45
theorem sgI_byte (x : Int) : UInt8.ofNat (sgI x).toNat = sgC x := by unfold sgI sgC; split <;> rfl
theorem signs_ev {n : Nat} (s : Nat → Int) (h0 : 3 ≤ n) (h1 : n ≤ 7) : Ev (fun k => impl_chi_signs.f k (tblS n s)) ((n : Int), txtS n s) := by
  unfold impl_chi_signs.f
  rw [tblS_n]
  refine Ev.bind (triples_ev h0 h1) ?_
  have hl := trip_len h0 h1
  have h := loop_up' (K := fun x _ => some ((n : Int), strOfNums x)) (L := fun i x k => impl_chi_signs.l0 k (tblS n s) x (tripN n) ((tripN n).length : Int) i) (lo := 0) (n := (tripN n).length)
    (fun i x => x.length = i) (fun x i => .ok (x ++ [sgI (s i)])) (fun x hx => ?_) (fun i _ hi x hx => ?_) (fun i _ hi x hx x' e => ?_) (by omega) [] rfl
  · rw [foldlM_ok, foldl_snoc, List.nil_append] at h
    refine ev_cast (h _ (Ev.now _)) ?_
    refine Prod.ext rfl ?_
    show strOfNums _ = txtS n s
    unfold strOfNums txtS mkB
    rw [List.map_map, Nat.sub_zero, ← List.range_eq_range']
    congr 2
    exact List.map_congr_left fun p _ => sgI_byte _
  · refine Goes.step ?_
    simp only [impl_chi_signs.l0]
    refine Goes.neg (by omega) ?_
    rw [tblS_n]
    exact Goes.ok (K := fun x _ => some ((n : Int), strOfNums x)) x
  · obtain ⟨a, b, c, e, hab, hbc, hc, hlk⟩ := trip_at h0 h1 hi
    refine Goes.step ?_
    simp only [impl_chi_signs.l0, rd_trip hi, e]
    refine Goes.pos (by omega) (Goes.pos (by omega) (Goes.pos (by omega) (Goes.pos (by omega) (Goes.pos (by omega) (Goes.pos (by omega) (Goes.pos (by omega) (Goes.pos (by omega) (Goes.pos (by omega) ?_))))))))
    rw [tblS_rd n s (by omega) (by omega) (by omega), chiS_at s hlk, wrap_id (by omega) (by omega)]
    by_cases g : sgv false (s i) > 0
    · refine Goes.pos g (Goes.pos (by omega) ?_)
      rw [show sgI (s i) = 43 from if_pos g]
      exact Goes.ok (K := fun x k => impl_chi_signs.l0 k (tblS n s) x (tripN n) ((tripN n).length : Int) ((i + 1 : Nat) : Int)) _
    · refine Goes.neg g (Goes.pos (by omega) ?_)
      rw [show sgI (s i) = 45 from if_neg g]
      exact Goes.ok (K := fun x k => impl_chi_signs.l0 k (tblS n s) x (tripN n) ((tripN n).length : Int) ((i + 1 : Nat) : Int)) _
  · cases e
    rw [List.length_append, hx]; rfl
end Go.Proofs.Ytckkfjdkaimmhaa.M
namespace Go.Proofs.Ytckkfjdkaimmhaa.M
open Go.RowKit Go.Proofs.YtckkfjdkaimmhaaW.PrintWords Go.Proofs.Ytckkfjdkaimmhaa.PX Go.Proofs.Ytckkfjdkaimmhaa.G Go.Proofs.YtckkfjdkaimmhaaW.PrintMore
def revA (n : Int) (t : ByteArray) (i : Int) : Int × ByteArray × Bool := if areOk n t = true ∧ 0 ≤ i ∧ i < n then (n, txtS n.toNat (revS n.toNat i.toNat (sgB t)), true) else (0, ⟨#[]⟩, false)
def oneChk (n : Nat) : Bool := (List.range n).all fun i => (List.range (tripN n).length).all fun p => par (shl .i64 1 (IntKind.u64.wrap (i : Int))) (tripAt n p).f0.toNat (tripAt n p).f1.toNat (tripAt n p).f2.toNat == hasP n i p
theorem oneChk_ok {n : Nat} (h0 : 3 ≤ n) (h1 : n ≤ 7) : oneChk n = true := by
  refine five (p := fun n => oneChk n = true) h0 h1 ?_ ?_ ?_ ?_ ?_ <;> decide +kernel
theorem rev_one {n i : Nat} (s : Nat → Int) (h0 : 3 ≤ n) (h1 : n ≤ 7) (hi : i < n) : txtS n (revB n (shl .i64 1 (IntKind.u64.wrap (i : Int))) s) = txtS n (revS n i s) := by
  refine txtS_congr fun p hp => ?_
  have h := List.all_eq_true.1 (oneChk_ok h0 h1) i (List.mem_range.2 hi)
  have h := beq_iff_eq.1 (List.all_eq_true.1 h p (List.mem_range.2 hp))
  unfold revB revS
  rw [h]
theorem pmS_sgB (n : Nat) (t : ByteArray) : pmS n (sgB t) := fun p _ => sgB_cases t p
theorem impl_rev (n : Int) (t : ByteArray) (i : Int) (hs : t.size ≤ 9223372036854775807) : Ev (fun k => impl_ReverseElement.f k n t i) (revA n t i) := by
  unfold impl_ReverseElement.f revA
  have hj : Ev (fun k => impl_ReverseElement.j0 k i true n t) (0, (⟨#[]⟩ : ByteArray), false) := by
    refine ev_step ?_
    simp only [impl_ReverseElement.j0]
    exact ev_pos (by trivial) (Ev.now _)
  refine Ev.bind (impl_are n t hs) ?_
  by_cases h : areOk n t = true
  · obtain ⟨⟨h0, h1⟩, _, _⟩ := (areOk_iff _ _).1 h
    refine ev_pos h (ev_call (isElement_f n i) ?_)
    by_cases hi : 0 ≤ i ∧ i < n
    · rw [if_pos ⟨h, hi⟩, show inR n i = true by simp only [inR, Bool.and_eq_true, decide_eq_true_eq]; omega]
      refine ev_step ?_
      simp only [impl_ReverseElement.j0]
      refine ev_neg (by decide) ?_
      obtain ⟨N, rfl⟩ : ∃ N : Nat, n = (N : Int) := Int.eq_ofNat_of_zero_le (by omega)
      obtain ⟨I, rfl⟩ : ∃ I : Nat, i = (I : Int) := Int.eq_ofNat_of_zero_le hi.1
      simp only [Int.toNat_natCast]
      refine Ev.bind (tableOf_ev h) (ev_pos (tblL_length _ _) ?_)
      rw [tblL_S]
      exact Ev.bind (reverse_ev (by omega) (by omega) (pmS_sgB N t)) (ev_pos (tblS_length _ _) (Ev.bind (signs_ev _ (by omega) (by omega)) (Ev.now _)))
    · rw [if_neg (fun e => hi e.2), show inR n i = false by rw [Bool.eq_false_iff]; simp only [inR, ne_eq, Bool.and_eq_true, decide_eq_true_eq]; omega]
      exact hj
  · rw [if_neg (fun e => h e.1)]
    exact ev_neg h hj
theorem spec_rev (n : Int) (t : ByteArray) (i : Int) (hs : t.size ≤ 9223372036854775807) : Ev (fun k => spec_ReverseElement.f k n t i) (revA n t i) := by
  unfold spec_ReverseElement.f revA
  refine Ev.bind (spec_are n t hs) ?_
  by_cases h : areOk n t = true
  · obtain ⟨⟨h0, h1⟩, _, _⟩ := (areOk_iff _ _).1 h
    refine ev_pos h (ev_call (spec_in i 0 _) ?_)
    rw [wrap_id (by omega) (by omega)]
    by_cases hi : 0 ≤ i ∧ i < n
    · rw [if_pos ⟨h, hi⟩]
      refine ev_pos (by simp only [Bool.and_eq_true, decide_eq_true_eq]; omega) ?_
      obtain ⟨N, rfl⟩ : ∃ N : Nat, n = (N : Int) := Int.eq_ofNat_of_zero_le (by omega)
      obtain ⟨I, rfl⟩ : ∃ I : Nat, i = (I : Int) := Int.eq_ofNat_of_zero_le hi.1
      simp only [Int.toNat_natCast]
      refine ev_pos (u64_nat (by omega)) (Ev.bind (l4Reverse_ev h _) (ev_cast (Ev.now _) ?_))
      rw [rev_one _ (by omega) (by omega) (by omega)]
    · rw [if_neg (fun e => hi e.2)]
      exact ev_neg (by simp only [Bool.and_eq_true, decide_eq_true_eq]; omega) (Ev.now _)
  · rw [if_neg (fun e => h e.1)]
    exact ev_neg h (Ev.now _)
end Go.Proofs.Ytckkfjdkaimmhaa.M
namespace Go.Proofs.Ytckkfjdkaimmhaa.M
open Go.RowKit Go.Proofs.YtckkfjdkaimmhaaW.PrintWords Go.Proofs.Ytckkfjdkaimmhaa.PX Go.Proofs.Ytckkfjdkaimmhaa.G Go.Proofs.YtckkfjdkaimmhaaW.PrintMore
open Go.Proofs.Ytckkfjdkaimmhaa.U (Uni Acy Pos D4 rv sg)
def Gp (n : Nat) (f : Nat → Nat → Nat → Int) : Prop := ∀ x a b c d, x < n → a < n → b < n → c < n → d < n → dist4 a b c d = true → x ≠ a → x ≠ b → x ≠ c → x ≠ d → ¬ (f x a b * f x c d = f x a d * f x b c ∧ f x a d * f x b c = -(f x a c) * f x b d)
theorem uni_of {n : Nat} {t : ByteArray} (h0 : 3 ≤ n) (h1 : n ≤ 7) (g : Gp n (chi n t)) : Uni n (chi n t) :=
  ⟨fun a b c ha hb hc hab hbc hac => chi_pm t h0 h1 ha hb hc hab hbc hac, fun a b c ha hb hc => chi_swap1 t h0 h1 (by omega) (by omega) (by omega), fun a b c ha hb hc => chi_swap2 t h0 h1 (by omega) (by omega) (by omega),
    fun x a b c d hx ha hb hc hd d1 d2 d3 d4 d5 d6 => g x a b c d hx ha hb hc hd (dist4_iff.2 ⟨d1, d2, d3, d4, d5, d6⟩)⟩
theorem gp_same {n : Nat} {f g : Nat → Nat → Nat → Int} (h : Gp n f) (e : ∀ a b c, a < n → b < n → c < n → a ≠ b → b ≠ c → a ≠ c → g a b c = f a b c) : Gp n g := by
  intro x a b c d hx ha hb hc hd hq k1 k2 k3 k4
  obtain ⟨d1, d2, d3, d4, d5, d6⟩ := dist4_iff.1 hq
  rw [e x a b hx ha hb k1 d1 k2, e x c d hx hc hd k3 d6 k4, e x a d hx ha hd k1 d3 k4, e x b c hx hb hc k2 d4 k3, e x a c hx ha hc k1 d2 k3, e x b d hx hb hd k2 d5 k4]
  exact h x a b c d hx ha hb hc hd hq k1 k2 k3 k4
theorem uni_gp {n : Nat} {f : Nat → Nat → Nat → Int} (o : Uni n f) : Gp n f := fun x a b c d hx ha hb hc hd hq => by
  obtain ⟨d1, d2, d3, d4, d5, d6⟩ := dist4_iff.1 hq
  exact o.gp x a b c d hx ha hb hc hd d1 d2 d3 d4 d5 d6
theorem brk_nil {n : Nat} {t : ByteArray} (ho : areOk (n : Int) t = true) (g : Gp n (chi n t)) : brkA n t = [] := by
  obtain ⟨⟨h0, h1⟩, _, _⟩ := (areOk_iff _ _).1 ho
  have h0 : 3 ≤ n := by omega
  have h1 : n ≤ 7 := by omega
  unfold brkA
  rw [if_pos ho, Int.toNat_natCast]
  have key : ∀ d x, x + d = n → brkFrom n t x d = [] := by
    intro d
    induction d with
    | zero => intro x _; rfl
    | succ d ih =>
      intro x hx
      rw [brkFrom]
      have hs : srch n t x (qs1 (othersN n x) 0 (othersN n x).length) = none := by
        have hcq := chkQ_ok h0 h1
        simp only [chkQ, Bool.and_eq_true, List.all_eq_true, List.mem_range, decide_eq_true_eq] at hcq
        rw [← hcq.1.1 x (by omega), (quadQ_L h0 h1).1]
        unfold srch
        refine List.findSome?_eq_none_iff.2 fun ⟨a, b, c, d'⟩ hq => ?_
        obtain ⟨hm, hn⟩ := List.mem_filter.1 hq
        obtain ⟨m1, m2, m3, m4⟩ := mem_quads hm
        simp only [noX, Bool.and_eq_true, decide_eq_true_eq] at hn
        unfold brkQ
        rw [if_neg]
        intro hb
        unfold brk at hb
        rw [Bool.and_eq_true, decide_eq_true_eq, decide_eq_true_eq] at hb
        exact g x a b c d' (by omega) (by omega) (by omega) (by omega) m4 (dist4_iff.2 (by omega)) (by omega) (by omega) (by omega) (by omega) hb
      rw [hs]
      exact ih (x + 1) (by omega)
  exact key n 0 (by omega)
theorem mat_iff {n : Nat} {t : ByteArray} (ho : areOk (n : Int) t = true) : matOk (n : Int) t = true ↔ Gp n (chi n t) := by
  obtain ⟨⟨h0, h1⟩, _, _⟩ := (areOk_iff _ _).1 ho
  unfold matOk
  rw [ho, Bool.true_and, List.isEmpty_iff]
  exact ⟨fun h => mat_gp ho h (by omega) (by omega), fun g => brk_nil ho g⟩
theorem acyc_iff {n : Nat} {t : ByteArray} (h0 : 3 ≤ n) (h1 : n ≤ 7) : acyc n t = true ↔ Acy n (chi n t) := by
  constructor
  · intro h a b c d ha hb hc hd ⟨d1, d2, d3, d4, d5, d6⟩
    exact acyc_ac h h0 h1 a b c d ha hb hc hd (dist4_iff.2 ⟨d1, d2, d3, d4, d5, d6⟩)
  · intro h
    unfold acyc
    rw [Bool.not_eq_true', List.any_eq_false]
    rintro ⟨a, b, c, d⟩ hq hp
    obtain ⟨hab, hbc, hcd, hd⟩ := mem_quads hq
    refine h a b c d (by omega) (by omega) (by omega) hd ⟨by omega, by omega, by omega, by omega, by omega, by omega⟩ ?_
    unfold allPlus at hp
    simp only [decide_eq_true_eq] at hp
    have v1 := chi_pm (n := n) (a := b) (b := c) (c := d) t h0 h1 (by omega) (by omega) hd (by omega) (by omega) (by omega)
    have v2 := chi_pm (n := n) (a := a) (b := c) (c := d) t h0 h1 (by omega) (by omega) hd (by omega) (by omega) (by omega)
    have v3 := chi_pm (n := n) (a := a) (b := b) (c := d) t h0 h1 (by omega) (by omega) hd (by omega) (by omega) (by omega)
    have v4 := chi_pm (n := n) (a := a) (b := b) (c := c) t h0 h1 (by omega) (by omega) (by omega) (by omega) (by omega) (by omega)
    unfold Pos
    generalize chi n t b c d = A at hp v1 ⊢
    generalize chi n t a c d = B at hp v2 ⊢
    generalize chi n t a b d = C at hp v3 ⊢
    generalize chi n t a b c = D at hp v4 ⊢
    rcases v1 with rfl | rfl <;> rcases v2 with rfl | rfl <;> rcases v3 with rfl | rfl <;> rcases v4 with rfl | rfl <;> first | decide | exact absurd hp (by decide +kernel)
/-! ### turning sets -/
def parChk : Bool := (List.range 128).all fun s => (List.range 7).all fun a => (List.range 7).all fun b => (List.range 7).all fun c => !(decide (a < b) && decide (b < c)) || (par (s : Int) a b c == (s.testBit a ^^ (s.testBit b ^^ s.testBit c)))
set_option maxRecDepth 100000 in
theorem parChk_ok : parChk = true := by decide +kernel
theorem par_bits {s a b c : Nat} (hs : s < 128) (hab : a < b) (hbc : b < c) (hc : c < 7) : par (s : Int) a b c = (s.testBit a ^^ (s.testBit b ^^ s.testBit c)) := by
  have h := parChk_ok
  unfold parChk at h
  simp only [List.all_eq_true, List.mem_range] at h
  have := h s hs a (by omega) b (by omega) c hc
  simpa [hab, hbc] using this
theorem sg_xor (x y z : Bool) (v : Int) : (if (x ^^ (y ^^ z)) = true then -v else v) = sg x * sg y * sg z * v := by
  cases x <;> cases y <;> cases z <;> simp [sg]
theorem chi_turn {n : Nat} {t : ByteArray} (ho : areOk (n : Int) t = true) {s : Nat} (hs : s < 2 ^ n) {a b c : Nat} (ha : a < n) (hb : b < n) (hc : c < n) (hab : a ≠ b) (hbc : b ≠ c) (hac : a ≠ c) : chi n (txtS n (revB n (s : Int) (sgB t))) a b c = rv s.testBit (chi n t) a b c := by
  obtain ⟨⟨h0, h1⟩, _, _⟩ := (areOk_iff _ _).1 ho
  have h0 : 3 ≤ n := by omega
  have h1 : n ≤ 7 := by omega
  have hs' : s < 128 := Nat.lt_of_lt_of_le hs (Nat.pow_le_pow_right (n := 2) (by omega) h1)
  rw [chi_txtS (revB_pm (pmS_sgB n t))]
  have asc : ∀ a b c : Nat, a < b → b < c → c < n → chiS n (revB n (s : Int) (sgB t)) a b c = rv s.testBit (chi n t) a b c := by
    intro a b c hab hbc hc
    obtain ⟨neg, p, e0, hp, e1, _⟩ := look_of h0 h1 (show a < n by omega) (show b < n by omega) hc (by omega) (by omega) (by omega)
    obtain ⟨p', hp', q0, q1, _⟩ := place_of h0 h1 hab hbc hc
    have : neg = false ∧ p = p' := by rw [e0] at q1; cases q1; exact ⟨rfl, rfl⟩
    obtain ⟨rfl, rfl⟩ := this
    rw [chiS_at _ e0]
    unfold rv
    rw [chi_chiS, chiS_at _ e0]
    unfold revB
    rw [tripAt_eq hp', q0]
    simp only [Int.toNat_natCast]
    have hpb := par_bits hs' hab hbc (Nat.lt_of_lt_of_le hc h1)
    have hx := sg_xor (s.testBit a) (s.testBit b) (s.testBit c) (sgB t p)
    rw [← hpb] at hx
    have sf : ∀ x, sgv false x = x := fun x => if_neg (by decide)
    rw [sf, sf]
    exact hx
  have s1 : ∀ a b c, a < n → b < n → c < n → chiS n (revB n (s : Int) (sgB t)) b a c = -chiS n (revB n (s : Int) (sgB t)) a b c := fun a b c ha hb hc => by
    have := chi_swap1 (txtS n (revB n (s : Int) (sgB t))) h0 h1 (a := a) (b := b) (c := c) (by omega) (by omega) (by omega)
    rwa [chi_txtS (revB_pm (pmS_sgB n t)), chi_txtS (revB_pm (pmS_sgB n t))] at this
  have s2 : ∀ a b c, a < n → b < n → c < n → chiS n (revB n (s : Int) (sgB t)) a c b = -chiS n (revB n (s : Int) (sgB t)) a b c := fun a b c ha hb hc => by
    have := chi_swap2 (txtS n (revB n (s : Int) (sgB t))) h0 h1 (a := a) (b := b) (c := c) (by omega) (by omega) (by omega)
    rwa [chi_txtS (revB_pm (pmS_sgB n t)), chi_txtS (revB_pm (pmS_sgB n t))] at this
  have r1 : ∀ a b c, a < n → b < n → c < n → rv s.testBit (chi n t) b a c = -rv s.testBit (chi n t) a b c := fun a b c ha hb hc => by
    unfold rv
    rw [chi_swap1 t h0 h1 (a := a) (b := b) (c := c) (by omega) (by omega) (by omega), Int.mul_comm (sg (s.testBit b)), Int.mul_neg]
  have r2 : ∀ a b c, a < n → b < n → c < n → rv s.testBit (chi n t) a c b = -rv s.testBit (chi n t) a b c := fun a b c ha hb hc => by
    unfold rv
    rw [chi_swap2 t h0 h1 (a := a) (b := b) (c := c) (by omega) (by omega) (by omega), Int.mul_assoc (sg (s.testBit a)), Int.mul_comm (sg (s.testBit c)), ← Int.mul_assoc (sg (s.testBit a)), Int.mul_neg]
  rcases Nat.lt_or_gt_of_ne hab with g1 | g1 <;> rcases Nat.lt_or_gt_of_ne hbc with g2 | g2 <;> rcases Nat.lt_or_gt_of_ne hac with g3 | g3
  · exact asc a b c g1 g2 hc
  · omega
  · rw [s2 a c b ha hc hb, r2 a c b ha hc hb, asc a c b g3 g2 hb]
  · rw [s2 a c b ha hc hb, r2 a c b ha hc hb, s1 c a b hc ha hb, r1 c a b hc ha hb, asc c a b g3 g1 hb]
  · rw [s1 b a c hb ha hc, r1 b a c hb ha hc, asc b a c g1 g3 hc]
  · rw [s1 b a c hb ha hc, r1 b a c hb ha hc, s2 b c a hb hc ha, r2 b c a hb hc ha, asc b c a g2 g3 ha]
  · omega
  · rw [s1 b a c hb ha hc, r1 b a c hb ha hc, s2 b c a hb hc ha, r2 b c a hb hc ha, s1 c b a hc hb ha, r1 c b a hc hb ha, asc c b a g2 g1 ha]
theorem turn_acy {n : Nat} {t : ByteArray} (ho : areOk (n : Int) t = true) {s : Nat} (hs : s < 2 ^ n) : acyc n (txtS n (revB n (s : Int) (sgB t))) = true ↔ Acy n (rv s.testBit (chi n t)) := by
  obtain ⟨⟨h0, h1⟩, _, _⟩ := (areOk_iff _ _).1 ho
  rw [acyc_iff (by omega) (by omega)]
  have e := fun {a b c : Nat} => chi_turn ho hs (a := a) (b := b) (c := c)
  constructor
  · rintro h a b c d ha hb hc hd ⟨d1, d2, d3, d4, d5, d6⟩ ⟨h1, h2, h3⟩
    exact h a b c d ha hb hc hd ⟨d1, d2, d3, d4, d5, d6⟩ ⟨by rw [e ha hc hd d2 d6 d3, e hb hc hd d4 d6 d5]; exact h1, by rw [e ha hb hd d1 d5 d3, e hb hc hd d4 d6 d5]; exact h2, by rw [e ha hb hc d1 d4 d2, e hb hc hd d4 d6 d5]; exact h3⟩
  · rintro h a b c d ha hb hc hd ⟨d1, d2, d3, d4, d5, d6⟩ ⟨h1, h2, h3⟩
    exact h a b c d ha hb hc hd ⟨d1, d2, d3, d4, d5, d6⟩ ⟨by rw [← e ha hc hd d2 d6 d3, ← e hb hc hd d4 d6 d5]; exact h1, by rw [← e ha hb hd d1 d5 d3, ← e hb hc hd d4 d6 d5]; exact h2, by rw [← e ha hb hc d1 d4 d2, ← e hb hc hd d4 d6 d5]; exact h3⟩
theorem turn_mat {n : Nat} {t : ByteArray} (ho : areOk (n : Int) t = true) {s : Nat} (hs : s < 2 ^ n) (hm : matOk (n : Int) t = true) : matOk (n : Int) (txtS n (revB n (s : Int) (sgB t))) = true := by
  obtain ⟨⟨h0, h1⟩, _, _⟩ := (areOk_iff _ _).1 ho
  have ho' : areOk (n : Int) (txtS n (revB n (s : Int) (sgB t))) = true := txtS_ok _ (by omega) (by omega)
  have g := (mat_iff ho).1 hm
  refine (mat_iff ho').2 (gp_same (uni_gp ((uni_of (by omega) (by omega) g).rv s.testBit)) fun a b c ha hb hc hab hbc hac => chi_turn ho hs ha hb hc hab hbc hac)
end Go.Proofs.Ytckkfjdkaimmhaa.M
namespace Go.Proofs.Ytckkfjdkaimmhaa.M
open Go.RowKit Go.Proofs.YtckkfjdkaimmhaaW.PrintWords Go.Proofs.Ytckkfjdkaimmhaa.PX Go.Proofs.Ytckkfjdkaimmhaa.G Go.Proofs.YtckkfjdkaimmhaaW.PrintMore
open Go.Proofs.Ytckkfjdkaimmhaa.U (Uni Acy Pos D4)
theorem area_s1 (a b c : IP) : areaP b a c = -areaP a b c := by unfold areaP; grind
theorem area_s2 (a b c : IP) : areaP a c b = -areaP a b c := by unfold areaP; grind
theorem area_gp (x a b c d : IP) : areaP x a b * areaP x c d + areaP x a d * areaP x b c = areaP x a c * areaP x b d := by unfold areaP; grind
theorem area_ac (a b c d : IP) : areaP b c d - areaP a c d + areaP a b d - areaP a b c = 0 := by unfold areaP; grind
theorem sgnI_neg (x : Int) : sgnI (-x) = -sgnI x := by
  unfold sgnI
  by_cases h : x < 0
  · rw [if_neg (by omega), if_pos (by omega), if_pos h]; rfl
  · by_cases h' : x > 0
    · rw [if_pos (by omega), if_neg h, if_pos h']
    · rw [if_neg (by omega), if_neg (by omega), if_neg h, if_neg h']; rfl
theorem sgnI_eq1 {x : Int} (h : sgnI x = 1) : x > 0 := (sgnI_pos x).1 (by omega)
theorem sgnI_eqm {x : Int} (h : sgnI x = -1) : x < 0 := by
  have := sgnI_neg x
  have := sgnI_eq1 (x := -x) (by omega)
  omega
theorem sgnI_mul (x y : Int) : sgnI (x * y) = sgnI x * sgnI y := by
  rcases Int.lt_trichotomy x 0 with hx | hx | hx <;> rcases Int.lt_trichotomy y 0 with hy | hy | hy
  · have := Int.mul_pos_of_neg_of_neg hx hy
    unfold sgnI
    rw [if_neg (by omega), if_pos this, if_pos hx, if_pos hy]; rfl
  · subst hy; rw [Int.mul_zero]; simp [sgnI]
  · have := Int.mul_neg_of_neg_of_pos hx hy
    unfold sgnI
    rw [if_pos this, if_pos hx, if_neg (by omega), if_pos hy]; rfl
  · subst hx; rw [Int.zero_mul]; simp [sgnI]
  · subst hx; rw [Int.zero_mul]; simp [sgnI]
  · subst hx; rw [Int.zero_mul]; simp [sgnI]
  · have := Int.mul_neg_of_pos_of_neg hx hy
    unfold sgnI
    rw [if_pos this, if_neg (show ¬ x < 0 by omega), if_pos hx, if_pos hy]; rfl
  · subst hy; rw [Int.mul_zero]; simp [sgnI]
  · have := Int.mul_pos hx hy
    unfold sgnI
    rw [if_neg (by omega), if_pos this, if_neg (by omega), if_pos hx, if_neg (by omega), if_pos hy]; rfl
def sgA (l : List IP) (a b c : Nat) : Int := sgnI (areaP (pt l a) (pt l b) (pt l c))
section
variable {l : List IP} (ha : arePts l = true)
include ha
theorem pts_ne {a b c : Nat} (h1 : a < l.length) (h2 : b < l.length) (h3 : c < l.length) (hab : a ≠ b) (hbc : b ≠ c) (hac : a ≠ c) : areaP (pt l a) (pt l b) (pt l c) ≠ 0 := by
  obtain ⟨_, _, hz⟩ := arePts_iff.1 ha
  have e1 := area_s1 (pt l a) (pt l b) (pt l c)
  have e2 := area_s2 (pt l a) (pt l b) (pt l c)
  rcases Nat.lt_or_gt_of_ne hab with g1 | g1 <;> rcases Nat.lt_or_gt_of_ne hbc with g2 | g2 <;> rcases Nat.lt_or_gt_of_ne hac with g3 | g3
  · exact hz a b c g1 g2 h3
  · omega
  · have := hz a c b g3 g2 h2
    omega
  · have := hz c a b g3 g1 h2
    have := area_s1 (pt l a) (pt l c) (pt l b)
    omega
  · have := hz b a c g1 g3 h3
    omega
  · have := hz b c a g2 g3 h1
    have := area_s2 (pt l b) (pt l a) (pt l c)
    omega
  · omega
  · have := hz c b a g2 g1 h1
    have := area_s1 (pt l b) (pt l c) (pt l a)
    have := area_s2 (pt l b) (pt l a) (pt l c)
    omega
theorem chi_pts {a b c : Nat} (h1 : a < l.length) (h2 : b < l.length) (h3 : c < l.length) (hab : a ≠ b) (hbc : b ≠ c) (hac : a ≠ c) : chi l.length (txtS l.length (sgPts l)) a b c = sgA l a b c := by
  obtain ⟨⟨h0, hn⟩, _, hz⟩ := arePts_iff.1 ha
  have hs : ∀ p, p < (tripN l.length).length → sgPts l p = 1 ∨ sgPts l p = -1 := fun p hp => by
    obtain ⟨a, b, c, e, hab, hbc, hc, _⟩ := trip_at h0 hn hp
    rw [sgPts_at hp e]
    exact sgnI_pm (hz a b c hab hbc hc)
  have asc : ∀ a b c : Nat, a < b → b < c → c < l.length → chi l.length (txtS l.length (sgPts l)) a b c = sgA l a b c := by
    intro a b c hab hbc hc
    obtain ⟨p, hp, q0, q1, _⟩ := place_of h0 hn hab hbc hc
    rw [chi_txtS hs, chiS_at _ q1, sgPts_at hp q0]
    rfl
  have s1 : ∀ a b c : Nat, a < l.length → b < l.length → c < l.length → chi l.length (txtS l.length (sgPts l)) b a c = -chi l.length (txtS l.length (sgPts l)) a b c := fun a b c _ _ _ => chi_swap1 _ h0 hn (by omega) (by omega) (by omega)
  have s2 : ∀ a b c : Nat, a < l.length → b < l.length → c < l.length → chi l.length (txtS l.length (sgPts l)) a c b = -chi l.length (txtS l.length (sgPts l)) a b c := fun a b c _ _ _ => chi_swap2 _ h0 hn (by omega) (by omega) (by omega)
  have r1 : ∀ a b c, sgA l b a c = -sgA l a b c := fun a b c => by unfold sgA; rw [area_s1, sgnI_neg]
  have r2 : ∀ a b c, sgA l a c b = -sgA l a b c := fun a b c => by unfold sgA; rw [area_s2, sgnI_neg]
  rcases Nat.lt_or_gt_of_ne hab with g1 | g1 <;> rcases Nat.lt_or_gt_of_ne hbc with g2 | g2 <;> rcases Nat.lt_or_gt_of_ne hac with g3 | g3
  · exact asc a b c g1 g2 h3
  · omega
  · rw [s2 a c b h1 h3 h2, r2 a c b, asc a c b g3 g2 h2]
  · rw [s2 a c b h1 h3 h2, r2 a c b, s1 c a b h3 h1 h2, r1 c a b, asc c a b g3 g1 h2]
  · rw [s1 b a c h2 h1 h3, r1 b a c, asc b a c g1 g3 h3]
  · rw [s1 b a c h2 h1 h3, r1 b a c, s2 b c a h2 h3 h1, r2 b c a, asc b c a g2 g3 h1]
  · omega
  · rw [s1 b a c h2 h1 h3, r1 b a c, s2 b c a h2 h3 h1, r2 b c a, s1 c b a h3 h2 h1, r1 c b a, asc c b a g2 g1 h1]
theorem pts_acy : acyOk (l.length : Int) (txtS l.length (sgPts l)) = true := by
  obtain ⟨⟨h0, hn⟩, _, _⟩ := arePts_iff.1 ha
  have ho : areOk (l.length : Int) (txtS l.length (sgPts l)) = true := txtS_ok _ h0 hn
  have e := fun {a b c : Nat} => chi_pts ha (a := a) (b := b) (c := c)
  have ne := fun {a b c : Nat} => pts_ne ha (a := a) (b := b) (c := c)
  have g : Gp l.length (chi l.length (txtS l.length (sgPts l))) := by
    intro x a b c d hx h1 h2 h3 h4 hq k1 k2 k3 k4
    obtain ⟨d1, d2, d3, d4, d5, d6⟩ := dist4_iff.1 hq
    rw [e hx h1 h2 k1 d1 k2, e hx h3 h4 k3 d6 k4, e hx h1 h4 k1 d3 k4, e hx h2 h3 k2 d4 k3, e hx h1 h3 k1 d2 k3, e hx h2 h4 k2 d5 k4]
    have hp := area_gp (pt l x) (pt l a) (pt l b) (pt l c) (pt l d)
    have n1 := ne hx h1 h2 k1 d1 k2
    have n2 := ne hx h3 h4 k3 d6 k4
    unfold sgA
    rw [Int.neg_mul, ← sgnI_mul, ← sgnI_mul, ← sgnI_mul]
    have nz : areaP (pt l x) (pt l a) (pt l b) * areaP (pt l x) (pt l c) (pt l d) ≠ 0 := Int.mul_ne_zero n1 n2
    generalize areaP (pt l x) (pt l a) (pt l b) * areaP (pt l x) (pt l c) (pt l d) = P at hp nz ⊢
    generalize areaP (pt l x) (pt l a) (pt l d) * areaP (pt l x) (pt l b) (pt l c) = Q at hp ⊢
    generalize areaP (pt l x) (pt l a) (pt l c) * areaP (pt l x) (pt l b) (pt l d) = R at hp ⊢
    rintro ⟨z1, z2⟩
    rcases sgnI_pm nz with z | z
    · have u := sgnI_eq1 (x := P) z
      have v := sgnI_eq1 (x := Q) (by omega)
      have w := sgnI_eqm (x := R) (by omega)
      omega
    · have u := sgnI_eqm (x := P) z
      have v := sgnI_eqm (x := Q) (by omega)
      have w := sgnI_eq1 (x := R) (by omega)
      omega
  unfold acyOk
  rw [(mat_iff ho).2 g, Bool.true_and, Int.toNat_natCast]
  refine (acyc_iff h0 hn).2 ?_
  rintro a b c d h1 h2 h3 h4 ⟨d1, d2, d3, d4, d5, d6⟩ ⟨z1, z2, z3⟩
  rw [e h1 h3 h4 d2 d6 d3, e h2 h3 h4 d4 d6 d5] at z1
  rw [e h1 h2 h4 d1 d5 d3, e h2 h3 h4 d4 d6 d5] at z2
  rw [e h1 h2 h3 d1 d4 d2, e h2 h3 h4 d4 d6 d5] at z3
  have hp := area_ac (pt l a) (pt l b) (pt l c) (pt l d)
  have nz := ne h2 h3 h4 d4 d6 d5
  unfold sgA at z1 z2 z3
  generalize areaP (pt l b) (pt l c) (pt l d) = A at hp nz z1 z2 z3
  generalize areaP (pt l a) (pt l c) (pt l d) = B at hp z1
  generalize areaP (pt l a) (pt l b) (pt l d) = C at hp z2
  generalize areaP (pt l a) (pt l b) (pt l c) = D at hp z3
  rcases sgnI_pm nz with z | z
  · have u := sgnI_eq1 (x := A) z
    have v := sgnI_eqm (x := B) (by omega)
    have w := sgnI_eq1 (x := C) (by omega)
    have y := sgnI_eqm (x := D) (by omega)
    omega
  · have u := sgnI_eqm (x := A) z
    have v := sgnI_eq1 (x := B) (by omega)
    have w := sgnI_eqm (x := C) (by omega)
    have y := sgnI_eq1 (x := D) (by omega)
    omega
end
end Go.Proofs.Ytckkfjdkaimmhaa.M
namespace Go.Proofs.Ytckkfjdkaimmhaa.M
open Go.RowKit Go.Proofs.YtckkfjdkaimmhaaW.PrintWords Go.Proofs.Ytckkfjdkaimmhaa.PX Go.Proofs.Ytckkfjdkaimmhaa.G Go.Proofs.YtckkfjdkaimmhaaW.PrintMore
theorem pmS_sgB' (n : Nat) (t : ByteArray) : pmS n (sgB t) := fun p _ => sgB_cases t p
def bitI (set : Int) (i : Nat) : Bool := decide (Go.bits .and .i64 (shr .i64 set (i : Int)) 1 = 1)
def flipB (n : Nat) (set : Int) (i p : Nat) : Bool := (List.range i).foldl (fun f j => f ^^ (bitI set j && hasP n j p)) false
theorem flipB_succ (n : Nat) (set : Int) (i p : Nat) : flipB n set (i + 1) p = (flipB n set i p ^^ (bitI set i && hasP n i p)) := by
  unfold flipB
  rw [List.range_succ, List.foldl_append]
  rfl
def flipS (n : Nat) (set : Int) (i : Nat) (s : Nat → Int) : Nat → Int := fun p => sgv (flipB n set i p) (s p)
def flipChk (n : Nat) : Bool := (List.range (2 ^ n)).all fun set => (List.range (tripN n).length).all fun p => flipB n (set : Int) n p == par (set : Int) (tripAt n p).f0.toNat (tripAt n p).f1.toNat (tripAt n p).f2.toNat
theorem flipChk_ok {n : Nat} (h0 : 3 ≤ n) (h1 : n ≤ 7) : flipChk n = true := by
  refine five (p := fun n => flipChk n = true) h0 h1 ?_ ?_ ?_ ?_ ?_ <;> decide +kernel
theorem flip_all {n set : Nat} (s : Nat → Int) (h0 : 3 ≤ n) (h1 : n ≤ 7) (hset : set < 2 ^ n) : tblS n (flipS n (set : Int) n s) = tblS n (revB n (set : Int) s) := by
  refine tblS_congr fun p hp => ?_
  have h := List.all_eq_true.1 (flipChk_ok h0 h1) set (List.mem_range.2 hset)
  have h := beq_iff_eq.1 (List.all_eq_true.1 h p (List.mem_range.2 hp))
  unfold flipS revB
  rw [h]
  rfl
theorem flipS_pm {n i : Nat} {set : Int} {s : Nat → Int} (h : pmS n s) : pmS n (flipS n set i s) := fun p hp => by
  unfold flipS sgv
  rcases h p hp with e | e <;> split <;> omega
theorem flipS_zero (n : Nat) (set : Int) (s : Nat → Int) : flipS n set 0 s = s := by
  funext p
  rfl
theorem flipS_succ (n : Nat) (set : Int) (i : Nat) (s : Nat → Int) : flipS n set (i + 1) s = if bitI set i = true then revS n i (flipS n set i s) else flipS n set i s := by
  funext p
  unfold flipS
  rw [flipB_succ]
  cases bitI set i with
  | false => simp
  | true =>
    rw [Bool.true_and, if_pos rfl]
    unfold revS
    dsimp only
    generalize flipB n set i p = f
    generalize hasP n i p = g
    cases f <;> cases g <;> simp [sgv]
def setsOk (n : Nat) (t : ByteArray) (set : Nat) : Bool := acyc n (txtS n (revB n (set : Int) (sgB t)))
def setsL (n : Nat) (t : ByteArray) : List Int := ((List.range (2 ^ n)).filter (setsOk n t)).map fun (x : Nat) => (x : Int)
def setsA (n : Int) (t : ByteArray) : List Int := if matOk n t = true then setsL n.toNat t else []
def shlChk : Bool := (List.range 8).all fun n => decide (shl .i64 1 (IntKind.u64.wrap (n : Int)) = ((2 ^ n : Nat) : Int)) && decide (shl .i64 1 (n : Int) = ((2 ^ n : Nat) : Int)) && decide (2 ^ n ≤ 128)
theorem shl_eq {n : Nat} (h1 : n ≤ 7) : shl .i64 1 (IntKind.u64.wrap (n : Int)) = ((2 ^ n : Nat) : Int) ∧ shl .i64 1 (n : Int) = ((2 ^ n : Nat) : Int) ∧ 2 ^ n ≤ 128 := by
  have h : shlChk = true := by decide +kernel
  have h := List.all_eq_true.1 h n (List.mem_range.2 (by omega))
  simp only [Bool.and_eq_true, decide_eq_true_eq] at h
  exact ⟨h.1.1, h.1.2, h.2⟩
theorem sets_fold (n : Nat) (t : ByteArray) : (List.range' 0 (2 ^ n - 0)).foldlM (fun (u : List Int) (set : Nat) => (.ok (if setsOk n t set then u ++ [(set : Int)] else u) : Except (List Int) (List Int))) [] = .ok (setsL n t) := by
  rw [foldlM_ok, foldl_filter, List.nil_append, Nat.sub_zero, ← List.range_eq_range']
  rfl
theorem spec_sets (n : Int) (t : ByteArray) (hs : t.size ≤ 9223372036854775807) : Ev (fun k => spec_AcyclicSets.f k n t) (setsA n t) := by
  unfold spec_AcyclicSets.f setsA
  refine ev_call rfl (Ev.bind (spec_mat n t hs) ?_)
  by_cases h : matOk n t = true
  · rw [if_pos h]
    refine ev_pos h ?_
    have ha := mat_are h
    obtain ⟨⟨h0, h1⟩, _, _⟩ := (areOk_iff _ _).1 ha
    obtain ⟨N, rfl⟩ : ∃ N : Nat, n = (N : Int) := Int.eq_ofNat_of_zero_le (by omega)
    rw [Int.toNat_natCast]
    obtain ⟨s1, _, s3⟩ := shl_eq (n := N) (by omega)
    have key := loop_up' (ρ := List Int) (lo := 0) (n := 2 ^ N) (K := fun u _ => some u) (L := fun set u k => spec_AcyclicSets.l0 k u set (N : Int) t) (fun i u => u.length ≤ i) (fun u set => .ok (if setsOk N t set then u ++ [(set : Int)] else u))
      (fun u _ => ?_) (fun i _ hi u hu => ?_) (fun i _ hi u hu u' e => ?_) (Nat.zero_le _) [] (by simp)
    · rw [sets_fold] at key
      exact key _ (Ev.now _)
    · refine Goes.step ?_
      simp only [spec_AcyclicSets.l0]
      refine Goes.pos (u64_nat (by omega)) ?_
      rw [s1]
      exact Goes.neg (by omega) (Goes.ok (K := fun u _ => some u) u)
    · refine Goes.step ?_
      simp only [spec_AcyclicSets.l0]
      refine Goes.pos (u64_nat (by omega)) ?_
      rw [s1]
      refine Goes.pos (by omega) (Goes.ev (l4Reverse_ev ha (i : Int)) (Goes.ev (spec_acyc (txtS_ok _ (by omega) (by omega))) ?_))
      rw [wrap_id (by omega) (by omega)]
      by_cases g : setsOk N t i = true
      · rw [if_pos g]
        exact Goes.pos g (Goes.pos (by omega) (Goes.ok (K := fun u k => spec_AcyclicSets.l0 k u ((i + 1 : Nat) : Int) (N : Int) t) _))
      · rw [if_neg g]
        exact Goes.neg g (Goes.ok (K := fun u k => spec_AcyclicSets.l0 k u ((i + 1 : Nat) : Int) (N : Int) t) _)
    · cases e
      split
      · rw [List.length_append]; simp only [List.length_cons, List.length_nil]; omega
      · omega
  · rw [if_neg h]
    exact ev_neg h (Ev.now _)
theorem impl_sets (n : Int) (t : ByteArray) (hs : t.size ≤ 9223372036854775807) : Ev (fun k => impl_AcyclicSets.f k n t) (setsA n t) := by
  unfold impl_AcyclicSets.f setsA
  refine ev_call (impl_mat n t hs) ?_
  by_cases h : matOk n t = true
  · rw [if_pos h]
    refine ev_pos h ?_
    have ha := mat_are h
    obtain ⟨⟨h0, h1⟩, _, _⟩ := (areOk_iff _ _).1 ha
    obtain ⟨N, rfl⟩ : ∃ N : Nat, n = (N : Int) := Int.eq_ofNat_of_zero_le (by omega)
    rw [Int.toNat_natCast]
    have h0 : 3 ≤ N := by omega
    have h1 : N ≤ 7 := by omega
    obtain ⟨_, s2, s3⟩ := shl_eq (n := N) h1
    have key := loop_up' (ρ := List Int) (lo := 0) (n := 2 ^ N) (K := fun u _ => some u) (L := fun set u k => impl_AcyclicSets.l0 k u set (N : Int) t) (fun i u => u.length ≤ i) (fun u set => .ok (if setsOk N t set then u ++ [(set : Int)] else u))
      (fun u _ => ?_) (fun i _ hi u hu => ?_) (fun i _ hi u hu u' e => ?_) (Nat.zero_le _) [] (by simp)
    · rw [sets_fold] at key
      exact key _ (Ev.now _)
    · refine Goes.step ?_
      simp only [impl_AcyclicSets.l0]
      refine Goes.pos (by omega) ?_
      rw [s2]
      exact Goes.neg (by omega) (Goes.ok (K := fun u _ => some u) u)
    · refine Goes.step ?_
      simp only [impl_AcyclicSets.l0]
      refine Goes.pos (by omega) ?_
      rw [s2]
      refine Goes.pos (by omega) (Goes.ev (tableOf_ev ha) ?_)
      rw [tblL_S]
      have inner := loop_up' (σ := Unit) (ρ := List Int) (lo := 0) (n := N) (K := fun _ k => impl_AcyclicSets.l1 k u (i : Int) (tblS N (flipS N (i : Int) N (sgB t))) (N : Int) (N : Int) t)
        (L := fun j _ k => impl_AcyclicSets.l1 k u (i : Int) (tblS N (flipS N (i : Int) j.toNat (sgB t))) j (N : Int) t) (fun _ _ => True) (fun _ _ => .ok ()) (fun _ _ => ?_) (fun j _ hj _ _ => ?_) (fun _ _ _ _ _ _ _ => trivial) (by omega) () trivial
      · rw [foldlM_ok] at inner
        simp only [Int.toNat_natCast, Int.ofNat_zero, Int.cast_ofNat_Int, flipS_zero] at inner
        refine Goes.map (inner ·) ?_
        rw [flip_all _ h0 h1 hi]
        refine Goes.step ?_
        simp only [impl_AcyclicSets.l1]
        refine Goes.neg (by omega) (Goes.pos (tblS_length _ _) ?_)
        have hpm := revB_pm (n := N) (set := (i : Int)) (pmS_sgB' N t)
        rw [← tblL_txtS hpm]
        refine Goes.ev (impl_acyc (txtS_ok _ h0 h1)) ?_
        rw [wrap_id (by omega) (by omega)]
        by_cases g : setsOk N t i = true
        · rw [if_pos g]
          exact Goes.pos g (Goes.pos (by omega) (Goes.ok (K := fun u k => impl_AcyclicSets.l0 k u ((i + 1 : Nat) : Int) (N : Int) t) _))
        · rw [if_neg g]
          exact Goes.neg g (Goes.ok (K := fun u k => impl_AcyclicSets.l0 k u ((i + 1 : Nat) : Int) (N : Int) t) _)
      · simp only [Int.toNat_natCast]
        exact Goes.ok ()
      · simp only [Int.toNat_natCast]
        refine Goes.step ?_
        simp only [impl_AcyclicSets.l1]
        refine Goes.pos (by omega) (Goes.pos (by omega) ?_)
        rw [wrap_id (by omega) (by omega)]
        have hs := flipS_succ N (i : Int) j (sgB t)
        by_cases g : bitI (i : Int) j = true
        · rw [if_pos g] at hs
          refine Goes.pos (of_decide_eq_true g) (Goes.pos (tblS_length _ _) (Goes.ev (reverse_ev h0 h1 (flipS_pm (pmS_sgB' N t))) ?_))
          rw [← hs]
          exact Goes.ok ()
        · rw [if_neg g] at hs
          refine Goes.neg (fun e => g (decide_eq_true e)) ?_
          rw [← hs]
          exact Goes.ok ()
    · cases e
      split
      · rw [List.length_append]; simp only [List.length_cons, List.length_nil]; omega
      · omega
  · rw [if_neg h]
    exact ev_neg h (Ev.now _)
theorem setsA_length (n : Int) (t : ByteArray) : (setsA n t).length ≤ 128 := by
  unfold setsA
  split
  · rename_i h
    obtain ⟨⟨h0, h1⟩, _, _⟩ := (areOk_iff _ _).1 (mat_are h)
    have := (shl_eq (n := n.toNat) (by omega)).2.2
    unfold setsL
    rw [List.length_map]
    have h2 := List.length_filter_le (setsOk n.toNat t) (List.range (2 ^ n.toNat))
    rw [List.length_range] at h2
    omega
  · simp
end Go.Proofs.Ytckkfjdkaimmhaa.M
namespace Go.Proofs.Ytckkfjdkaimmhaa.Pure
open Go.RowKit Go.Proofs.YtckkfjdkaimmhaaW.PrintWords Go.Proofs.Ytckkfjdkaimmhaa.PX Go.Proofs.Ytckkfjdkaimmhaa.M Go.Proofs.Ytckkfjdkaimmhaa.G Go.Proofs.YtckkfjdkaimmhaaW.PrintMore
theorem drawFB {l : List Int} (hl : l.length ≤ 1048576) : ∃ (n : Int) (t : ByteArray), Ev (fun k => spec_DrawFirstBreak.f k l) (n, t) ∧ SmallS n t := by
  obtain ⟨h, hn⟩ := new_ok l hl
  obtain ⟨n, t, i, h', e, s, _⟩ := l4Draw_ok hl (cur0 l) h
  exact ⟨n, t, by unfold spec_DrawFirstBreak.f; exact Ev.bind hn (Ev.bind e (Ev.now _)), s⟩
theorem drawAS {l : List Int} (hl : l.length ≤ 1048576) : ∃ (n : Int) (t : ByteArray), Ev (fun k => spec_DrawAcyclicSets.f k l) (n, t) ∧ SmallS n t := by
  obtain ⟨h, hn⟩ := new_ok l hl
  obtain ⟨n, t, i, h', e, s, _⟩ := l4Draw_ok hl (cur0 l) h
  exact ⟨n, t, by unfold spec_DrawAcyclicSets.f; exact Ev.bind hn (Ev.bind e (Ev.now _)), s⟩
theorem drawRE {l : List Int} (hl : l.length ≤ 1048576) : ∃ (n : Int) (t : ByteArray) (x : Int), Ev (fun k => spec_DrawReverseElement.f k l) (n, t, x) ∧ SmallS n t := by
  obtain ⟨n, t, x, e, s⟩ := l3One_ok hl
  exact ⟨n, t, x, by unfold spec_DrawReverseElement.f; exact Ev.bind e (Ev.now _), s⟩
theorem drawCO {l : List Int} (hl : l.length ≤ 1048576) : ∃ (n : Int) (t : ByteArray) (a b c d : Int), Ev (fun k => spec_DrawCircuitOf.f k l) (n, t, a, b, c, d) ∧ SmallS n t := by
  obtain ⟨n, t, o, e, s, lo⟩ := l4Four_ok hl
  refine ⟨n, t, rd o 0, rd o 1, rd o 2, rd o 3, ?_, s⟩
  unfold spec_DrawCircuitOf.f
  exact Ev.bind e (ev_pos (by simp only; omega) (ev_pos (by simp only; omega) (ev_pos (by simp only; omega) (ev_pos (by simp only; omega) (Ev.now _)))))
theorem drawSO {l : List Int} (hl : l.length ≤ 1048576) : ∃ ps : List IP, Ev (fun k => spec_DrawSignsOf.f k l) ps ∧ ps.length ≤ 100 := by
  obtain ⟨h, hn⟩ := new_ok l hl
  obtain ⟨ps, i, h', e, _, m, _⟩ := l2Bent_ok hl (cur0 l) h
  exact ⟨ps, by unfold spec_DrawSignsOf.f; exact Ev.bind hn (Ev.bind e (Ev.now _)), by omega⟩
theorem rev_mat (n : Int) (t : ByteArray) (i : Int) (hs : (revA n t i).2.2 = true) : matOk (revA n t i).1 (revA n t i).2.1 = matOk n t := by
  unfold revA at hs ⊢
  by_cases h : areOk n t = true ∧ 0 ≤ i ∧ i < n
  · rw [if_pos h]
    obtain ⟨ho, hi0, hi1⟩ := h
    obtain ⟨⟨h0, h1⟩, _, _⟩ := (areOk_iff _ _).1 ho
    obtain ⟨N, rfl⟩ : ∃ N : Nat, n = (N : Int) := Int.eq_ofNat_of_zero_le (by omega)
    obtain ⟨x, rfl⟩ := Int.eq_ofNat_of_zero_le hi0
    have h0 : 3 ≤ N := by omega
    have h1 : N ≤ 7 := by omega
    have hx : x < N := by omega
    simp only [Int.toNat_natCast]
    have e1 : shl .i64 1 (IntKind.u64.wrap (x : Int)) = ((2 ^ x : Nat) : Int) := by rw [u64_id (by omega), shl_id (by omega)]
    have tw : 2 ^ x < 2 ^ N := Nat.pow_lt_pow_right (by omega) hx
    have hr : ∀ s : Nat → Int, txtS N (revS N x s) = txtS N (revB N ((2 ^ x : Nat) : Int) s) := fun s => by rw [← rev_one s h0 h1 hx, e1]
    have back : txtS N (revS N x (sgB (txtS N (revS N x (sgB t))))) = t := by
      have e2 : txtS N (revS N x (sgB (txtS N (revS N x (sgB t))))) = txtS N (sgB t) := txtS_congr fun p hp => by
        have := sgB_txtS (s := revS N x (sgB t)) hp (revS_pm (pmS_sgB N t) p hp)
        unfold revS at this ⊢
        rw [this]
        split <;> simp_all
      rw [e2, txtS_sgB ho]
    have ho2 : areOk (N : Int) (txtS N (revS N x (sgB t))) = true := txtS_ok _ h0 h1
    cases hm : matOk (N : Int) t with
    | true =>
      rw [hr]
      exact turn_mat ho tw hm
    | false =>
      cases hm2 : matOk (N : Int) (txtS N (revS N x (sgB t))) with
      | false => rfl
      | true =>
        have := turn_mat ho2 tw hm2
        rw [← hr, back, hm] at this
        cases this
  · rw [if_neg h] at hs
    cases hs
theorem sets_len {n : Int} {t : ByteArray} (h : matOk n t = true) : ((setsA n t).length : Int) = n * (n - 1) + 2 := by
  have ho := mat_are h
  obtain ⟨⟨h0, h1⟩, _, _⟩ := (areOk_iff _ _).1 ho
  obtain ⟨N, rfl⟩ : ∃ N : Nat, n = (N : Int) := Int.eq_ofNat_of_zero_le (by omega)
  have h0 : 3 ≤ N := by omega
  have h1 : N ≤ 7 := by omega
  unfold setsA setsL
  rw [if_pos h, Int.toNat_natCast, List.length_map]
  have o := uni_of h0 h1 ((mat_iff ho).1 h)
  have := U.count_any o (by omega) (ab := setsOk N t) (fun s hs => turn_acy ho hs)
  rw [this, U.prs_length h1]
  have : N = 3 ∨ N = 4 ∨ N = 5 ∨ N = 6 ∨ N = 7 := by omega
  rcases this with rfl | rfl | rfl | rfl | rfl <;> rfl
theorem sets_zero {n : Int} {t : ByteArray} (h : acyOk n t = true) : (0 : Int) ∈ setsA n t := by
  unfold acyOk at h
  rw [Bool.and_eq_true] at h
  have ho := mat_are h.1
  obtain ⟨⟨h0, h1⟩, _, _⟩ := (areOk_iff _ _).1 ho
  obtain ⟨N, rfl⟩ : ∃ N : Nat, n = (N : Int) := Int.eq_ofNat_of_zero_le (by omega)
  unfold setsA setsL
  rw [if_pos h.1, Int.toNat_natCast]
  rw [Int.toNat_natCast] at h
  refine List.mem_map.2 ⟨0, List.mem_filter.2 ⟨List.mem_range.2 (Nat.two_pow_pos N), ?_⟩, rfl⟩
  unfold setsOk
  have hp : (0 : Nat) < 2 ^ N := Nat.two_pow_pos N
  rw [turn_acy ho hp]
  refine (acyc_iff (by omega) (by omega)).1 h.2 |> fun a => ?_
  have e := fun {a b c : Nat} => U.rv_zero (S := (0 : Nat).testBit) (f := chi N t) (n := N) (a := a) (b := b) (c := c) fun k _ => Nat.zero_testBit k
  rintro x y z w hx hy hz hw d ⟨q1, q2, q3⟩
  rw [e hx hz hw, e hy hz hw] at q1
  rw [e hx hy hw, e hy hz hw] at q2
  rw [e hx hy hz, e hy hz hw] at q3
  exact a x y z w hx hy hz hw d ⟨q1, q2, q3⟩
theorem circ_end (n : Int) (t : ByteArray) (a b c d : Int) : (circ n t a b c d).toList = [] ∨ ((circ n t a b c d).toList ≠ [] ∧ (circ n t a b c d).size = 4 ∧ bt (circ n t a b c d) 0 = 43 ∧ (circ n t b a c d).size = 4) := by
  unfold circ
  by_cases h : areOk n t = true ∧ areD n [a, b, c, d] = true
  · have h' : areOk n t = true ∧ areD n [b, a, c, d] = true := ⟨h.1, (areD_4 _ _ _ _ _).2 (by have := (areD_4 _ _ _ _ _).1 h.2; omega)⟩
    rw [if_pos h, if_pos h']
    refine Or.inr ⟨?_, rfl, rfl, rfl⟩
    unfold circT
    intro e
    have := congrArg List.length e
    rw [ByteArray.toList_eq] at this
    simp at this
  · rw [if_neg h]
    exact Or.inl (by rw [ByteArray.toList_eq])
theorem FnRule (l : List Int) (_ : l.length ≤ 9223372036854775807) (_ : ∀ x ∈ l, (Lit.int .u8 x).wf = true) :
    ∃ k, laws_FnRule.f k l = some true := by
  refine Ev.rounds (r := true) ?_
  unfold laws_FnRule.f laws_big.f
  refine ev_call rfl ?_
  by_cases hb : (l.length : Int) > 1048576
  · exact ev_pos (decide_eq_true hb) (Ev.now _)
  refine ev_neg (by simpa using hb) ?_
  have hl : l.length ≤ 1048576 := by omega
  obtain ⟨sn, st, d1, ⟨_, ss⟩⟩ := drawFB hl
  obtain ⟨rn, rt, ri, d2, ⟨_, rs⟩⟩ := drawRE hl
  obtain ⟨cn, ct, ca, cb, cc, cd, d3, ⟨_, cs⟩⟩ := drawCO hl
  obtain ⟨an, at_, d4, ⟨⟨an0, an8⟩, as_⟩⟩ := drawAS hl
  obtain ⟨ps, d5, lp⟩ := drawSO hl
  have z : ∀ {x : Nat}, x ≤ 101 → x ≤ 9223372036854775807 := fun h => by omega
  have rm := rev_mat rn rt ri
  have hj4 : Ev (fun k => laws_FnRule.j4 k ca cb cc cd false cn ct) true := by
    refine ev_step ?_
    simp only [laws_FnRule.j4]
    refine ev_neg (by decide) (Ev.bind (impl_circ cn ct ca cb cc cd (z cs)) ?_)
    rcases circ_end cn ct ca cb cc cd with h | ⟨h, h4, h43, h4'⟩
    · exact ev_pos h (Ev.now _)
    · refine ev_neg h (ev_pos (by omega) (ev_pos (by omega) (ev_pos h43 (Ev.bind (impl_circ cn ct cb ca cc cd (z cs)) (ev_cast (Ev.now _) ?_)))))
      rw [h4']; rfl
  have hj3 : Ev (fun k => laws_FnRule.j3 k ca cb cc cd (setsA an at_) false cn ct an at_) true := by
    refine ev_step ?_
    simp only [laws_FnRule.j3]
    refine ev_neg (by decide) (ev_call (impl_mat an at_ (z as_)) ?_)
    have hs := setsA_length an at_
    have tail : Ev (fun k => (impl_IsAcyclic.f k an at_).bind fun t665 => (if t665 = true then ((laws_hasInt.f k (setsA an at_) 0).bind fun t666 => (laws_FnRule.j4 k ca cb cc cd (!t666) cn ct)) else (laws_FnRule.j4 k ca cb cc cd false cn ct))) true := by
      refine Ev.bind (impl_isA an at_ (z as_)) ?_
      cases g : acyOk an at_ with
      | false => exact ev_neg (by simp) hj4
      | true => exact ev_pos rfl (Ev.bind (hasInt_ev _ 0 (sets_zero g) (by omega)) hj4)
    cases g : matOk an at_ with
    | false => exact ev_neg (by simp) tail
    | true =>
      have e := sets_len g
      refine ev_pos rfl (ev_pos ?_ tail)
      have b1 : an * (an - 1) = an * an - an := by rw [Int.mul_sub, Int.mul_one]
      have b2 : an = 0 ∨ an = 1 ∨ an = 2 ∨ an = 3 ∨ an = 4 ∨ an = 5 ∨ an = 6 ∨ an = 7 ∨ an = 8 := by omega
      rw [e]
      rcases b2 with rfl | rfl | rfl | rfl | rfl | rfl | rfl | rfl | rfl <;> decide +kernel
  have hj2 : Ev (fun k => laws_FnRule.j2 k l ca cb cc cd (setsA an at_) false cn ct an at_) true := by
    refine ev_step ?_
    simp only [laws_FnRule.j2]
    refine ev_neg (by decide) (Ev.bind d5 (Ev.bind (spec_signsOf ps (by omega)) ?_))
    by_cases g : arePts ps = true
    · have e : signsV ps = ((ps.length : Int), txtS ps.length (sgPts ps), true) := if_pos g
      have hz := (signsV_small ps).2
      rw [e] at hz ⊢
      refine ev_pos rfl (Ev.bind (impl_isA _ _ (Nat.le_trans hz (by decide))) ?_)
      rw [pts_acy g]
      exact hj3
    · rw [show signsV ps = (0, ⟨#[]⟩, false) from if_neg g]
      exact ev_neg (by simp) hj3
  have hj1 : Ev (fun k => laws_FnRule.j1 k l (revA rn rt ri).2.2 ca cb cc cd (setsA an at_) false rn rt (revA rn rt ri).1 (revA rn rt ri).2.1 cn ct an at_) true := by
    refine ev_step ?_
    simp only [laws_FnRule.j1]
    refine ev_neg (by decide) ?_
    cases g : (revA rn rt ri).2.2 with
    | false => exact ev_neg (by simp) hj2
    | true =>
      have hz : (revA rn rt ri).2.1.size ≤ 101 := by
        unfold revA
        split
        · rename_i h
          obtain ⟨⟨h0, h1⟩, _, _⟩ := (areOk_iff _ _).1 h.1
          exact Nat.le_trans (areOk_size (txtS_ok _ (n := rn.toNat) (by omega) (by omega))) (by decide)
        · exact Nat.zero_le _
      refine ev_pos rfl (ev_call (impl_mat _ _ (z hz)) (ev_call (impl_mat rn rt (z rs)) ?_))
      rw [rm g]
      simpa using hj2
  have hj0 : Ev (fun k => laws_FnRule.j0 k l (brkA sn st) (revA rn rt ri).2.2 ca cb cc cd (setsA an at_) false sn st rn rt (revA rn rt ri).1 (revA rn rt ri).2.1 cn ct an at_) true := by
    refine ev_step ?_
    simp only [laws_FnRule.j0]
    refine ev_neg (by decide) (ev_call (impl_mat sn st (z ss)) (Ev.bind (spec_are sn st (z ss)) ?_))
    cases g : areOk sn st with
    | false =>
      have hm : matOk sn st = false := by unfold matOk; rw [g]; rfl
      have ha : acyOk sn st = false := by unfold acyOk; rw [hm]; rfl
      rw [hm]
      refine ev_neg (by simp) (ev_neg (by simp) (Ev.bind (impl_isA sn st (z ss)) ?_))
      rw [ha]
      exact ev_neg (by simp) hj1
    | true =>
      have hm : matOk sn st = (((brkA sn st).length : Int) == 0) := by
        unfold matOk
        rw [g, Bool.true_and]
        cases brkA sn st with
        | nil => rfl
        | cons x xs =>
          rw [Bool.eq_iff_iff]
          simp
          omega
      refine ev_pos rfl (ev_neg (by rw [hm]; simp) (Ev.bind (impl_isA sn st (z ss)) ?_))
      cases ha : acyOk sn st with
      | false => exact ev_neg (by simp) hj1
      | true =>
        have hm1 : matOk sn st = true := by
          unfold acyOk at ha
          rw [Bool.and_eq_true] at ha
          exact ha.1
        refine ev_pos rfl (ev_call (impl_mat sn st (z ss)) ?_)
        rw [hm1]
        exact hj1
  have lb := brkA_length sn st
  have ls := setsA_length an at_
  refine Ev.bind d1 (Ev.bind (impl_break sn st (z ss)) (Ev.bind d2 (Ev.bind (impl_rev rn rt ri (z rs)) (Ev.bind (spec_rev rn rt ri (z rs)) (Ev.bind d3 (Ev.bind d4 (Ev.bind (impl_sets an at_ (z as_)) (Ev.bind (spec_break sn st (z ss)) (Ev.bind (sameInts_self _ (by omega)) (ev_pos rfl (ev_neg (by simp) (ev_neg (by simp) (Ev.bind (impl_circ cn ct ca cb cc cd (z cs)) (Ev.bind (spec_circ cn ct ca cb cc cd (z cs)) (ev_pos rfl (Ev.bind (spec_sets an at_ (z as_)) (Ev.bind (sameInts_self _ (by omega)) (ev_pos rfl (ev_call (impl_mat sn st (z ss)) (Ev.bind (spec_mat sn st (z ss)) (ev_neg (by simp) (Ev.bind (impl_isA sn st (z ss)) (Ev.bind (spec_isA sn st (z ss)) ?_)))))))))))))))))))))))
  simpa using hj0
end Go.Proofs.Ytckkfjdkaimmhaa.Pure
namespace Go.Proofs.Ytckkfjdkaimmhaa.fnRule
open Go.ChangeShapes Go.WideShapes Go.ChangeAt Go.RowKit Go.Joins
open Go.ChangeMaps (open_string shut_string)
set_option linter.unusedVariables false
theorem own : ownKnob Try.prog.godebug = none := by kernel_rfl
theorem str_mk {H : Type} {enc : TypeId × Value → H} {P : Program} {w : World} {base : Nat} {spare : Nat → Bool} {held : Bool} {t : TypeId} {s : ByteArray} (ht : P.underlying t = some .string) (hs : s.size ≤ maxLen) : DataW.trod enc P w base spare held 1 t [.string s] = some (.lit (.string s.data.toList), []) := by
  simp [DataW.trod, ht, hs]
theorem laidOut : laidOutB Try.prog = true := by kernel_rfl
def IsRow (k : IntKind) (w : World) (a : Option Addr) (len cap : Nat) (zs : List Int) : Prop :=
  (a = none ∧ len = 0 ∧ cap = 0 ∧ zs = []) ∨
  ∃ x, a = some x ∧ len ≤ cap ∧ cap ≤ maxLen ∧ zs.length = cap ∧ (∀ i, i < zs.length → w.cell? (x.add i) = some (.int k (zs.getD i 0))) ∧ ∀ n ∈ zs, (Lit.int k n).wf = true
set_option maxRecDepth 100000 in
theorem lifted (os : Os) (started : os.Started) (H : Type) (enc : TypeId × Value → H) :
    ReturnsInHanded {} Try.checked os 3 .any (Rows.fnRuleSpec.pre6 enc Try.prog Try.f3 Rows.fnRuleRow.domain false) (Rows.fnRuleSpec.post enc Try.prog Try.f3 false true false false) := by
  refine returnsInHanded_of_change_sized (C := Try.checked) own started (by kernel_rfl) Try.func3
    (ChangeSpec.witness6 (enc := enc) (C := Try.checked) false ⟨#[], #[.slice none 0 0], []⟩ 8 (by kernel_rfl) (by kernel_rfl) (by kernel_rfl) (by kernel_rfl)) ?_
  intro W base args ds gs before hval0 hW hcnd hsz0 _
  have hsz : (DataW.weightsEach Try.prog (Try.f3.params.toList ++ Rows.fnRuleSpec.plain.varTypes Try.prog) (ds ++ gs)).all (· ≤ reachBytes) = true := hsz0
  have hval : ∀ (j : Nat) t v, Try.f3.params[j]? = some t → args[j]? = some v → Value.okWide Try.prog W .any base t v := hval0
  have hW' := hW
  obtain ⟨p, q, hA0, hV, rfl, hfz, hnd⟩ := hW
  have hA : DataW.TrodAll enc Try.prog W 0 (fun _ => true) true Try.f3.params.toList args.toList ds p := hA0
  rw [Try.params3] at hA hval hsz
  obtain ⟨v0, vs0, d0, ds0, p0, q0, hargs, rfl, rfl, h0, r0⟩ := trodAll_cons hA
  obtain ⟨rfl, rfl, rfl⟩ := trodAll_nil r0
  obtain rfl : args = #[v0] := by cases args; simp_all
  obtain ⟨rfl, rfl⟩ := trodVars_none hV
  obtain ⟨a0, len0, cap0, rfl⟩ := okWide_slice Try.underlying22 (hval 0 22 v0 rfl rfl)
  have k0 := h0
  have lt0 : ∀ x ∈ p0, x.block < W.heap.size := by obtain ⟨m, hm⟩ := k0; exact DataW.trod_lt m _ _ _ hm
  obtain ⟨z0, w0⟩ : ∃ zs, IsRow .u8 W a0 len0 cap0 zs := by
    obtain ⟨fuel, hf⟩ := h0
    rcases open_ints Try.underlying22 Try.underlying5 (by kernel_rfl) hf with ⟨hcs, _⟩ | ⟨x, l, c, zs, hcs, _, hl, hm, hz, _, hcell, hwz⟩
    · simp [Value.cells] at hcs
      obtain ⟨rfl, rfl, rfl⟩ := hcs
      exact ⟨[], .inl ⟨rfl, rfl, rfl, rfl⟩⟩
    · simp [Value.cells] at hcs
      obtain ⟨rfl, rfl, rfl⟩ := hcs
      exact ⟨zs, .inr ⟨_, rfl, hl, hm, by simpa using hz, hcell, hwz⟩⟩
  obtain ⟨l0, rfl, hr0, hm0, hw0, hc0⟩ := Go.Proofs.YtckkfjdkaimmhaaW.PrintWords.ReadsInt.ofRowC w0
  clear hA0 hval0 hsz0 hsz
  obtain ⟨k, hP⟩ := Pure.FnRule l0 (Nat.le_trans hm0 (by decide)) hw0
  refine (PX.laws_FnRule.calls k _ _ l0 true W (Go.Proofs.YtckkfjdkaimmhaaW.PrintWords.Kd.C_of_reads (d := (0 : Int)) (h1 := fun _ => rfl) hr0) hc0 hP rfl).mono fun e W' ⟨he, bel⟩ => ?_
  subst he
  exact ⟨_, rfl, _, _, _, [], _, [], hW', trodAll_mk1 (shut_bool Try.underlying4 _), (trodAll_cons_mk (Below.trod laidOut (by kernel_rfl) (of_decide_eq_true (by kernel_rfl)) k0 bel lt0) trodAll_mk0), rfl, bel.frame _, fun h => by cases h⟩
theorem over : Rows.fnRuleRow.holds Try.pinned (OpenSpec.ofChange Rows.fnRuleSpec) :=
  OpenClaim.holds_of_wide 3 Try.f3 rfl rfl rfl rfl rfl rfl rfl ⟨rfl, rfl, rfl, rfl, rfl⟩ rfl rfl rfl rfl rfl (by kernel_rfl) Try.func3 (by kernel_rfl)
    (of_decide_eq_true (by kernel_rfl)) (by unfold Func.isWrapper; first | (rw [if_pos (by decide +kernel)]; kernel_rfl) | (rw [if_neg (by decide +kernel)]; exact ⟨rfl, rfl⟩))
    (fun os started H enc _ => lifted os started H enc)
theorem proved : Rows.FnRuleSaid := over
#print axioms proved
end Go.Proofs.Ytckkfjdkaimmhaa.fnRule
namespace Go.Proofs.Ytckkfjdkaimmhaa
theorem fnRule_holds : Rows.FnRuleSaid := fnRule.proved
end Go.Proofs.Ytckkfjdkaimmhaa
