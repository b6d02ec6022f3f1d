/- FnHulls returns true for all arguments and leaves them as they were. No condition. -/
import Derived.Test.YtckkfjdkaimmhaaProg
import Derived.Test.YtckkfjdkaimmhaaRows
import Derived.WalkKit
import Derived.ProofKit
import Derived.OpenShut
import Derived.ShutString
import Derived.ChangeOld
import Derived.Below
import Derived.SizedLaws
import Derived.Lib.SmallJoins
import Derived.ChangeSame
import Derived.Test.YtckkfjdkaimmhaaV1
import Derived.Test.YtckkfjdkaimmhaaBkagmrh1
import Derived.Test.YtckkfjdkaimmhaaBkagmrh3
import Derived.Test.YtckkfjdkaimmhaaBkagmrh4
import Derived.Test.YtckkfjdkaimmhaaBkagmrh5
set_option linter.unusedVariables false
set_option linter.unusedSimpArgs false
namespace Go.Proofs.Ytckkfjdkaimmhaa.M
open Go.RowKit Go.Proofs.YtckkfjdkaimmhaaW.PrintWords Go.Proofs.Ytckkfjdkaimmhaa.PX Go.Proofs.Ytckkfjdkaimmhaa.G
theorem inT_inB {n : Nat} {t : ByteArray} (o : Ord n (chi n t)) (h1 : n ≤ 7) {s p : Nat} (hp : p < n) (h : inT n (chi n t) (fun x => s.testBit x = true) p) : inB n t s p = true := by
 obtain ⟨a, b, c, ha, hb, hc, hd, sa, sb, sc, hi⟩ := h
 obtain ⟨e1, e2, e3, e4, e5, e6⟩ := dist4_iff.1 hd
 have fin : ∀ x y z, x < y → y < z → z < n → s.testBit x = true → s.testBit y = true → s.testBit z = true → p ≠ x → p ≠ y → p ≠ z → ins (chi n t) p x y z → inB n t s p = true := by
  intro x y z hxy hyz hz sx sy sz p1 p2 p3 hi
  refine List.any_eq_true.2 ⟨(x, y, z), trips_mem hxy hyz hz, ?_⟩
  have k := (inner_iff o h1 hp (show x < n by omega) (show y < n by omega) hz (dist4_iff.2 ⟨p1, p2, p3, by omega, by omega, by omega⟩)).2 hi
  simp only [sx, sy, sz, Bool.and_true]
  rw [insB_dist p1 p2 p3]
  exact beq_iff_eq.2 k
 have hi' := o.ins_flip hp ha hb hc hi
 rcases Nat.lt_or_gt_of_ne e4 with q1 | q1 <;> rcases Nat.lt_or_gt_of_ne e6 with q2 | q2 <;> rcases Nat.lt_or_gt_of_ne e5 with q3 | q3
 ·exact fin a b c q1 q2 hc sa sb sc e1 e2 e3 hi
 ·omega
 ·exact fin a c b q3 q2 hb sa sc sb e1 e3 e2 hi'
 ·exact fin c a b q3 q1 hb sc sa sb e3 e1 e2 (ins_rot (ins_rot hi))
 ·exact fin b a c q1 q3 hc sb sa sc e2 e1 e3 (ins_rot (ins_rot hi'))
 ·exact fin b c a q2 q3 ha sb sc sa e2 e3 e1 (ins_rot hi)
 ·omega
 ·exact fin c b a q2 q1 ha sc sb sa e3 e2 e1 (ins_rot hi')
def rimS (n : Nat) (t : ByteArray) : Nat := extN n t (2 ^ n - 1)
theorem rimS_lt (n : Nat) (t : ByteArray) : rimS n t < 2 ^ n := sumN_lt _ _
theorem rim_iff {n : Nat} {t : ByteArray} (o : Ord n (chi n t)) (h1 : n ≤ 7) (p : Nat) : (rimS n t).testBit p = true ↔ outer n (chi n t) p := by
 constructor
 ·intro h
  have hp := sub_bits (rimS_lt n t) h
  unfold rimS at h
  rw [extN_bit t _ h1 hp] at h
  unfold extB at h
  rw [full_bit h1 hp, Bool.true_and, Bool.not_eq_true'] at h
  refine ⟨hp, fun a b c ha hb hc hd hi => ?_⟩
  rw [inT_inB o h1 hp ⟨a, b, c, ha, hb, hc, hd, full_bit h1 ha, full_bit h1 hb, full_bit h1 hc, hi⟩] at h
  cases h
 ·intro h
  unfold rimS
  rw [extN_bit t _ h1 h.1]
  unfold extB
  rw [full_bit h1 h.1, Bool.true_and, Bool.not_eq_true']
  refine Bool.eq_false_iff.2 fun e => ?_
  obtain ⟨a, b, c, ha, hb, hc, hd, _, _, _, hi⟩ := inB_inT o h1 h.1 e
  exact h.2 a b c ha hb hc hd hi
theorem left_zero {n : Nat} {t : ByteArray} (o : Ord n (chi n t)) (h0 : 3 ≤ n) (h1 : n ≤ 7) {a k : Nat} (ha : a < n) (hk : k < n) (hak : a ≠ k) : leftV n t k a = 0 ↔ nx n (chi n t) a k := by
 unfold leftV
 rw [List.length_eq_zero_iff, List.filter_eq_nil_iff]
 constructor
 ·intro h
  refine ⟨ha, hk, hak, fun x hx h1' h2 => ?_⟩
  have g := h x (List.mem_range'_1.2 (by omega))
  rw [decide_eq_true_eq] at g
  have s := o.s1 a k x ha hk hx
  rcases o.pm k a x hk ha hx (fun e => hak e.symm) (fun e => h1' e.symm) (fun e => h2 e.symm) with e | e
  ·exact absurd e g
  ·omega
 ·intro h x hx
  rw [List.mem_range'_1] at hx
  rw [decide_eq_true_eq]
  intro e
  by_cases e1 : x = a
  ·subst e1
   rw [(chi_zero t h0 h1 (show x < 7 by omega) (show k < 7 by omega)).2.2] at e
   omega
  ·by_cases e2 : x = k
   ·subst e2
    rw [(chi_zero t h0 h1 (show x < 7 by omega) (show a < 7 by omega)).2.1] at e
    omega
   ·have g := h.2.2.2 x (by omega) e1 e2
    have s := o.s1 a k x ha hk (by omega)
    omega
def nextQ (n : Nat) (t : ByteArray) (a k : Nat) : Bool := (rimS n t).testBit k && decide (k ≠ a) && decide (leftV n t k a = 0)
def nextN (n : Nat) (t : ByteArray) (a : Nat) : Nat := ((List.range 7).find? (nextQ n t a)).getD 0
def firstN (n : Nat) (t : ByteArray) : Nat := ((List.range 7).find? fun i => (rimS n t).testBit i).getD 0
def seqN (n : Nat) (t : ByteArray) : Nat → Nat
 | 0 => firstN n t
 | i + 1 => nextN n t (seqN n t i)
def rimL (n : Nat) (t : ByteArray) : List Nat := (List.range 7).filter fun i => (rimS n t).testBit i
section
variable {n : Nat} {t : ByteArray} (ho : acyOk n t = true) (h0 : 3 ≤ n) (h1 : n ≤ 7)
include ho h0 h1
theorem next_nx {a : Nat} (ha : outer n (chi n t) a) : nx n (chi n t) a (nextN n t a) := by
 have o := order_ord ho
 obtain ⟨b, hb⟩ := o.nx_exists h0 ha
 have hbo := (rim_iff o h1 b).2 (o.nx_out ha hb)
 have hq : nextQ n t a b = true := by
  unfold nextQ
  rw [hbo, decide_eq_true (p := b ≠ a) (fun e => hb.2.2.1 e.symm), decide_eq_true ((left_zero o h0 h1 hb.1 hb.2.1 hb.2.2.1).2 hb)]
  rfl
 unfold nextN
 cases hf : (List.range 7).find? (nextQ n t a) with
 | none => exact absurd hq (List.find?_eq_none.1 hf b (List.mem_range.2 (by have := hb.2.1; omega)))
 | some k =>
  have g := List.find?_some hf
  unfold nextQ at g
  simp only [Bool.and_eq_true, decide_eq_true_eq] at g
  exact (left_zero o h0 h1 ha.1 (sub_bits (rimS_lt n t) g.1.1) (fun e => g.1.2 e.symm)).1 g.2
theorem nextQ_iff {a : Nat} (ha : outer n (chi n t) a) (k : Nat) : nextQ n t a k = true ↔ k = nextN n t a := by
 have o := order_ord ho
 have hn := next_nx ho h0 h1 ha
 constructor
 ·intro g
  unfold nextQ at g
  simp only [Bool.and_eq_true, decide_eq_true_eq] at g
  exact o.nx_uni ((left_zero o h0 h1 ha.1 (sub_bits (rimS_lt n t) g.1.1) (fun e => g.1.2 e.symm)).1 g.2) hn
 ·rintro rfl
  unfold nextQ
  rw [(rim_iff o h1 _).2 (o.nx_out ha hn), decide_eq_true (p := nextN n t a ≠ a) (fun e => hn.2.2.1 e.symm), decide_eq_true ((left_zero o h0 h1 hn.1 hn.2.1 hn.2.2.1).2 hn)]
  rfl
theorem first_some : (List.range 7).find? (fun i => (rimS n t).testBit i) = some (firstN n t) := by
 have hne : rimS n t ≠ 0 := ext_pos ho h1 (fun p hp => sub_bits (n := n) (by have : 0 < 2 ^ n := Nat.pow_pos (by omega); omega) hp) (by
  have : 2 ^ 1 ≤ 2 ^ n := Nat.pow_le_pow_right (by omega) (by omega)
  omega)
 unfold firstN
 cases hf : (List.range 7).find? fun i => (rimS n t).testBit i with
 | none =>
  exfalso
  refine hne (Nat.eq_of_testBit_eq fun i => ?_)
  rw [Nat.zero_testBit]
  refine Bool.eq_false_iff.2 fun e => ?_
  exact absurd e (List.find?_eq_none.1 hf i (List.mem_range.2 (by have := sub_bits (rimS_lt n t) e; omega)))
 | some k => rfl
theorem first_outer : outer n (chi n t) (firstN n t) := (rim_iff (order_ord ho) h1 _).1 (List.find?_some (first_some ho h0 h1))
theorem seq_outer : ∀ i, outer n (chi n t) (seqN n t i)
 | 0 => first_outer ho h0 h1
 | i + 1 => (order_ord ho).nx_out (seq_outer i) (next_nx ho h0 h1 (seq_outer i))
theorem rimL_mem (x : Nat) : x ∈ rimL n t ↔ outer n (chi n t) x := by
 unfold rimL
 rw [List.mem_filter, List.mem_range, rim_iff (order_ord ho) h1]
 exact ⟨fun h => h.2, fun h => ⟨by have := h.1; omega, h⟩⟩
theorem rim_cycle : 1 ≤ (rimL n t).length ∧ seqN n t (rimL n t).length = firstN n t ∧ (∀ j, 1 ≤ j → j < (rimL n t).length → seqN n t j ≠ firstN n t) ∧ ∀ i, seqN n t i ∈ rimL n t :=
 (order_ord ho).cycle (h := seqN n t) (fun i => next_nx ho h0 h1 (seq_outer ho h0 h1 i)) (first_outer ho h0 h1) (List.Pairwise.filter _ List.nodup_range) (rimL_mem ho h0 h1)
theorem rimL_le : (rimL n t).length ≤ n := by
 have k := nodup_sub (rimL n t) (List.range n) (List.Pairwise.filter _ List.nodup_range) (fun x hx => List.mem_range.2 ((rimL_mem ho h0 h1 x).1 hx).1)
 rw [List.length_range] at k
 exact k
end
def preN (n : Nat) (t : ByteArray) (i : Nat) : List Int := (List.range i).map fun j => (seqN n t j : Int)
theorem preN_length (n : Nat) (t : ByteArray) (i : Nat) : (preN n t i).length = i := by unfold preN; rw [List.length_map, List.length_range]
theorem preN_succ (n : Nat) (t : ByteArray) (i : Nat) : preN n t (i + 1) = preN n t i ++ [(seqN n t i : Int)] := by
 unfold preN
 rw [List.range_succ, List.map_append]
 rfl
theorem preN_rd {n : Nat} {t : ByteArray} {i j : Nat} (h : j < i) : rd (preN n t i) (j : Int) = (seqN n t j : Int) := by
 unfold rd preN
 rw [Int.toNat_natCast, List.getD_eq_getElem?_getD, List.getElem?_map, List.getElem?_range h]
 rfl
def hullL (n : Int) (t : ByteArray) : List Int := if acyOk n t = true then preN n.toNat t (rimL n.toNat t).length else []
theorem hullL_length (n : Int) (t : ByteArray) : (hullL n t).length ≤ 7 := by
 unfold hullL
 by_cases h : acyOk n t = true
 ·rw [if_pos h]
  obtain ⟨N, rfl, _, h3, h7⟩ := acy_are h
  have k := rimL_le h h3 h7
  rw [preN_length]
  show (rimL N t).length ≤ 7
  omega
 ·rw [if_neg h]
  exact Nat.zero_le _
theorem listN_rim (n : Nat) (t : ByteArray) : listN (rimS n t) = (rimL n t).map fun (i : Nat) => (i : Int) := rfl
theorem rd_rim {l : List Nat} {j : Nat} (h : j < l.length) : rd (l.map fun (i : Nat) => (i : Int)) (j : Int) = (l[j] : Int) := by
 unfold rd
 rw [Int.toNat_natCast, List.getD_eq_getElem?_getD, List.getElem?_map, List.getElem?_eq_getElem h]
 rfl
section
variable {n : Nat} {t : ByteArray} (ho : acyOk n t = true) (h : areOk n t = true) (h0 : 3 ≤ n) (h1 : n ≤ 7)
include ho h h0 h1
theorem impl_scan (L : List Int) (hL : L = (rimL n t).map fun (i : Nat) => (i : Int)) {a : Nat} (ha : outer n (chi n t) a) (hull : List Int) (hh : hull.length ≤ 7) (V : List Int) (hV : Ev (fun k => impl_chi_hull.l0 k (tblL n t) L (hull ++ [(nextN n t a : Int)])) V) (d : Nat) :
  ∀ j, j + d = (rimL n t).length → nextN n t a ∈ (rimL n t).drop j → Ev (fun k => impl_chi_hull.l1 k (tblL n t) L hull (a : Int) L (L.length : Int) (j : Int)) V := by
 have hl : L.length = (rimL n t).length := by rw [hL, List.length_map]
 have hle := rimL_le ho h0 h1
 have hn := next_nx ho h0 h1 ha
 induction d with
 | zero =>
  intro j hj hm
  rw [List.drop_of_length_le (by omega)] at hm
  cases hm
 | succ d ih =>
  intro j hj hm
  have hlt : j < (rimL n t).length := by omega
  rw [List.drop_eq_getElem_cons hlt] at hm
  have hk := (rimL_mem ho h0 h1 _).1 (List.getElem_mem hlt)
  have hr : rd L (j : Int) = ((rimL n t)[j] : Int) := by rw [hL]; exact rd_rim hlt
  refine ev_step ?_
  simp only [impl_chi_hull.l1]
  rw [hr, wrap_id (x := (j : Int) + 1) (by omega) (by omega)]
  refine ev_pos (by omega) (ev_pos (by omega) (ev_pos (by omega) ?_))
  generalize hx : (rimL n t)[j] = x at *
  by_cases e1 : x = a
  ·refine ev_pos (by omega) (ih (j + 1) (by omega) ?_)
   rcases List.mem_cons.1 hm with e | e
   ·exact absurd (e.trans e1).symm hn.2.2.1
   ·exact e
  ·refine ev_neg (by omega) (Ev.bind (impl_left h hk.1 ha.1) ?_)
   by_cases e2 : leftV n t x a = 0
   ·have e : x = nextN n t a := (nextQ_iff ho h0 h1 ha x).1 (by
     unfold nextQ
     rw [(rim_iff (order_ord ho) h1 x).2 hk, decide_eq_true e1, decide_eq_true e2]
     rfl)
    refine ev_pos (by omega) (ev_pos (by omega) ?_)
    rw [e]
    exact hV
   ·refine ev_neg (by omega) (ih (j + 1) (by omega) ?_)
    rcases List.mem_cons.1 hm with e | e
    ·have g := (nextQ_iff ho h0 h1 ha x).2 e.symm
     unfold nextQ at g
     simp only [Bool.and_eq_true, decide_eq_true_eq] at g
     exact absurd g.2 e2
    ·exact e
theorem impl_hull_loop (L : List Int) (hL : L = (rimL n t).map fun (i : Nat) => (i : Int)) (d : Nat) : ∀ i, 1 ≤ i → i + d = (rimL n t).length → Ev (fun k => impl_chi_hull.l0 k (tblL n t) L (preN n t i)) (preN n t (rimL n t).length) := by
 have hl : L.length = (rimL n t).length := by rw [hL, List.length_map]
 have hle := rimL_le ho h0 h1
 induction d with
 | zero =>
  intro i _ hi
  refine ev_step ?_
  simp only [impl_chi_hull.l0, preN_length]
  refine ev_neg (by omega) (ev_cast (Ev.now _) ?_)
  rw [show i = (rimL n t).length by omega]
 | succ d ih =>
  intro i h1' hi
  obtain ⟨j, rfl⟩ : ∃ j, i = j + 1 := ⟨i - 1, by omega⟩
  refine ev_step ?_
  simp only [impl_chi_hull.l0, preN_length]
  rw [wrap_id (by omega) (by omega), show ((j + 1 : Nat) : Int) - 1 = (j : Int) by omega, preN_rd (show j < j + 1 by omega)]
  refine ev_pos (by omega) (ev_pos (by omega) (ev_pos (by omega) ?_))
  refine impl_scan ho h h0 h1 L hL (seq_outer ho h0 h1 j) _ (by rw [preN_length]; omega) _ ?_ (rimL n t).length 0 (by omega) ?_
  ·have := ih (j + 2) (by omega) (by omega)
   rw [preN_succ] at this
   exact this
  ·rw [List.drop_zero]
   exact (rim_cycle ho h0 h1).2.2.2 (j + 1)
end
theorem rim_first {n : Nat} {t : ByteArray} (ho : acyOk n t = true) (h0 : 3 ≤ n) (h1 : n ≤ 7) : rd ((rimL n t).map fun (i : Nat) => (i : Int)) 0 = (firstN n t : Int) := by
 have e : (rimL n t).head? = some (firstN n t) := by unfold rimL; rw [List.head?_filter]; exact first_some ho h0 h1
 cases hl : rimL n t with
 | nil => rw [hl] at e; cases e
 | cons x l =>
  rw [hl] at e
  rw [List.head?_cons] at e
  rw [← Option.some.inj e]
  rfl
theorem impl_hull (n : Int) (t : ByteArray) (hs : t.size ≤ 9223372036854775807) : Ev (fun k => impl_HullOf.f k n t) (hullL n t) := by
 unfold impl_HullOf.f hullL
 refine Ev.bind (order_ev n t hs) ?_
 by_cases ho : acyOk n t = true
 ·rw [if_pos ho, if_pos ho]
  obtain ⟨N, rfl, h, h0, h1⟩ := acy_are ho
  simp only [Int.toNat_natCast]
  have cy := rim_cycle ho h0 h1
  refine ev_pos (by first | rfl | trivial) (ev_pos (tblL_length _ _) (Ev.bind (a := preN N t (rimL N t).length) ?_ (Ev.now _)))
  unfold impl_chi_hull.f
  rw [tbl_n]
  refine ev_call (fullSet_f h1) (Ev.bind (impl_ext h (full_lt h1)) (Ev.bind (elements_ev (extN_lt t _ h1)) ?_))
  show Ev (fun k => if (0 : Int) < ((listN (rimS N t)).length : Int) then impl_chi_hull.l0 k (tblL N t) (listN (rimS N t)) [rd (listN (rimS N t)) 0] else none) _
  rw [listN_rim, rim_first ho h0 h1]
  refine ev_pos (by rw [List.length_map]; omega) ?_
  exact impl_hull_loop ho h h0 h1 _ rfl ((rimL N t).length - 1) 1 (by omega) (by omega)
 ·rw [if_neg ho, if_neg ho]
  exact ev_neg (by decide) (Ev.now _)
section
variable {n : Nat} {t : ByteArray} (ho : acyOk n t = true) (h : areOk n t = true) (h0 : 3 ≤ n) (h1 : n ≤ 7)
include h h0 h1
theorem spec_left6 {a k : Nat} (ha : a < n) (hk : k < n) (hak : a ≠ k) : Ev (fun q => spec_l6Left.f q (n : Int) t ((2 ^ n - 1 : Nat) : Int) (a : Int) (k : Int)) (decide (leftV n t k a = 0)) := by
 unfold spec_l6Left.f
 have key := loop_up (σ := Unit) (ρ := Bool) (lo := 0) (n := n) (K := fun _ _ => some true) (L := fun x _ q => spec_l6Left.l0 q ((2 ^ n - 1 : Nat) : Int) (a : Int) (k : Int) x (n : Int) t)
  (fun _ x => if decide (chi n t k a x = 1) then .error false else .ok ()) (fun u => ?_) (fun x _ hx u => ?_) (by omega) ()
 ·rw [foldlM_any (fun x => decide (chi n t k a x = 1))] at key
  have e : decide (leftV n t k a = 0) = !((List.range' 0 (n - 0)).any fun x => decide (chi n t k a x = 1)) := by
   unfold leftV
   rw [Bool.eq_iff_iff, decide_eq_true_eq, List.length_eq_zero_iff, List.filter_eq_nil_iff, Bool.not_eq_true', Bool.eq_false_iff]
   constructor
   ·intro g e
    obtain ⟨x, hx, hq⟩ := List.any_eq_true.1 e
    exact g x hx hq
   ·intro g x hx hq
    exact g (List.any_eq_true.2 ⟨x, hx, hq⟩)
  rw [e]
  cases hq : (List.range' 0 (n - 0)).any fun x => decide (chi n t k a x = 1) with
  | true => rw [hq] at key; exact key
  | false => rw [hq] at key; exact key _ (Ev.now _)
 ·refine Goes.step ?_
  simp only [spec_l6Left.l0]
  exact Goes.neg (by omega) (Goes.ok (K := fun _ _ => some true) u)
 ·have nxt : Goes (.ok ()) (fun (_ : Unit) q => spec_l6Left.l0 q ((2 ^ n - 1 : Nat) : Int) (a : Int) (k : Int) ((x + 1 : Nat) : Int) (n : Int) t) (fun q => spec_l6Left.l0 q ((2 ^ n - 1 : Nat) : Int) (a : Int) (k : Int) ((x + 1 : Nat) : Int) (n : Int) t) := Goes.ok (K := fun (_ : Unit) q => spec_l6Left.l0 q ((2 ^ n - 1 : Nat) : Int) (a : Int) (k : Int) ((x + 1 : Nat) : Int) (n : Int) t) ()
  refine Goes.step ?_
  simp only [spec_l6Left.l0]
  rw [wrap_id (x := (x : Int) + 1) (by omega) (by omega)]
  refine Goes.pos (by omega) ?_
  by_cases e1 : x = a
  ·subst e1
   rw [(chi_zero t h0 h1 (show x < 7 by omega) (show k < 7 by omega)).2.2]
   exact Goes.pos rfl nxt
  ·refine Goes.neg (by omega) ?_
   by_cases e2 : x = k
   ·subst e2
    rw [(chi_zero t h0 h1 (show x < 7 by omega) (show a < 7 by omega)).2.1]
    exact Goes.pos rfl nxt
   ·refine Goes.neg (by omega) (Goes.call (has_ev (full_lt h1) (by omega)) ?_)
    rw [full_bit h1 hx]
    refine Goes.pos rfl (Goes.ev (l3At_ev h ha hk hx hak (by omega) (by omega)) ?_)
    have s := chi_swap1 t h0 h1 (show a < 7 by omega) (show k < 7 by omega) (show x < 7 by omega)
    rcases chi_pm t h0 h1 ha hk hx hak (by omega) (by omega) with w | w
    ·rw [s, w]
     exact Goes.neg (by omega) nxt
    ·rw [s, w]
     exact Goes.pos (by omega) (Goes.ret _)
omit h h0 h1 in
theorem fold_last (c : Nat → Bool) (m : Nat) (l : List Nat) : ∀ s : Int, (∀ k ∈ l, c k = true → k = m) → ((m ∈ l ∧ c m = true) ∨ s = (m : Int)) → l.foldl (fun (s : Int) k => if c k = true then (k : Int) else s) s = (m : Int) := by
 induction l with
 | nil =>
  intro s _ hs
  rcases hs with ⟨hm, _⟩ | e
  ·cases hm
  ·exact e
 | cons x l ih =>
  intro s hu hs
  rw [List.foldl_cons]
  refine ih _ (fun k hk => hu k (List.mem_cons_of_mem _ hk)) ?_
  by_cases g : c x = true
  ·rw [if_pos g]
   exact .inr (by rw [hu x List.mem_cons_self g])
  ·rw [if_neg g]
   rcases hs with ⟨hm, hc⟩ | e
   ·rcases List.mem_cons.1 hm with e | e
    ·rw [e] at hc; exact absurd hc g
    ·exact .inl ⟨e, hc⟩
   ·exact .inr e
include ho
theorem spec_hull_loop (d : Nat) : ∀ i, i + 1 + d = (rimL n t).length → Ev (fun k => spec_HullOf.l1 k (preN n t i) ((2 ^ n - 1 : Nat) : Int) (rimS n t : Int) (seqN n t i : Int) (i : Int) (n : Int) t) (preN n t (rimL n t).length) := by
 have hle := rimL_le ho h0 h1
 have cy := rim_cycle ho h0 h1
 have hr7 : rimS n t < 128 := extN_lt t _ h1
 have inner : ∀ i V, Ev (fun k => if (0 : Int) < ((preN n t (i + 1)).length : Int) then (if (seqN n t (i + 1) : Int) = rd (preN n t (i + 1)) 0 then some (preN n t (i + 1)) else (if (seqN n t (i + 1) : Int) < 0 then some (preN n t (i + 1)) else spec_HullOf.l1 k (preN n t (i + 1)) ((2 ^ n - 1 : Nat) : Int) (rimS n t : Int) (seqN n t (i + 1) : Int) (wrap64 ((i : Int) + 1)) (n : Int) t)) else none) V →
   Ev (fun k => spec_HullOf.l2 k (preN n t (i + 1)) ((2 ^ n - 1 : Nat) : Int) (rimS n t : Int) (seqN n t i : Int) (i : Int) (-1) 0 (n : Int) t) V := by
  intro i V hV
  have ha := seq_outer ho h0 h1 i
  have key := loop_up (σ := Int) (ρ := List Int) (lo := 0) (n := n) (K := fun s k => if (0 : Int) < ((preN n t (i + 1)).length : Int) then (if s = rd (preN n t (i + 1)) 0 then some (preN n t (i + 1)) else (if s < 0 then some (preN n t (i + 1)) else spec_HullOf.l1 k (preN n t (i + 1)) ((2 ^ n - 1 : Nat) : Int) (rimS n t : Int) s (wrap64 ((i : Int) + 1)) (n : Int) t)) else none)
   (L := fun x s k => spec_HullOf.l2 k (preN n t (i + 1)) ((2 ^ n - 1 : Nat) : Int) (rimS n t : Int) (seqN n t i : Int) (i : Int) s x (n : Int) t)
   (fun s x => .ok (if nextQ n t (seqN n t i) x = true then (x : Int) else s)) (fun s => ?_) (fun x _ hx s => ?_) (by omega) (-1)
  ·rw [foldlM_ok, fold_last (nextQ n t (seqN n t i)) (nextN n t (seqN n t i)) _ _ (fun k _ hk => (nextQ_iff ho h0 h1 ha k).1 hk) (.inl ⟨?_, (nextQ_iff ho h0 h1 ha _).2 rfl⟩)] at key
   ·exact key _ hV
   ·have := (next_nx ho h0 h1 ha).2.1
    rw [List.mem_range'_1]
    omega
  ·refine Goes.step ?_
   simp only [spec_HullOf.l2]
   exact Goes.neg (by omega) (Goes.ok (K := fun s k => if (0 : Int) < ((preN n t (i + 1)).length : Int) then (if s = rd (preN n t (i + 1)) 0 then some (preN n t (i + 1)) else (if s < 0 then some (preN n t (i + 1)) else spec_HullOf.l1 k (preN n t (i + 1)) ((2 ^ n - 1 : Nat) : Int) (rimS n t : Int) s (wrap64 ((i : Int) + 1)) (n : Int) t)) else none) s)
  ·refine Goes.step ?_
   simp only [spec_HullOf.l2]
   rw [wrap_id (x := (x : Int) + 1) (by omega) (by omega)]
   refine Goes.pos (by omega) ?_
   by_cases e1 : x = seqN n t i
   ·rw [if_neg (show ¬ nextQ n t (seqN n t i) x = true by unfold nextQ; rw [decide_eq_false (p := x ≠ seqN n t i) (fun g => g e1), Bool.and_false, Bool.false_and]; decide)]
    exact Goes.pos (by omega) (Goes.ok (K := fun s k => spec_HullOf.l2 k (preN n t (i + 1)) ((2 ^ n - 1 : Nat) : Int) (rimS n t : Int) (seqN n t i : Int) (i : Int) s ((x + 1 : Nat) : Int) (n : Int) t) s)
   ·refine Goes.neg (by omega) (Goes.call (has_ev hr7 (by omega)) ?_)
    cases e2 : (rimS n t).testBit x with
    | false =>
     rw [if_neg (show ¬ nextQ n t (seqN n t i) x = true by unfold nextQ; rw [e2, Bool.false_and, Bool.false_and]; decide)]
     exact Goes.neg (by decide) (Goes.ok (K := fun s k => spec_HullOf.l2 k (preN n t (i + 1)) ((2 ^ n - 1 : Nat) : Int) (rimS n t : Int) (seqN n t i : Int) (i : Int) s ((x + 1 : Nat) : Int) (n : Int) t) s)
    | true =>
     refine Goes.pos rfl (Goes.ev (spec_left6 h h0 h1 ha.1 hx (fun e => e1 e.symm)) ?_)
     by_cases e3 : leftV n t x (seqN n t i) = 0
     ·rw [if_pos (show nextQ n t (seqN n t i) x = true by unfold nextQ; rw [e2, decide_eq_true e1, decide_eq_true e3]; rfl)]
      exact Goes.pos (decide_eq_true e3) (Goes.ok (K := fun s k => spec_HullOf.l2 k (preN n t (i + 1)) ((2 ^ n - 1 : Nat) : Int) (rimS n t : Int) (seqN n t i : Int) (i : Int) s ((x + 1 : Nat) : Int) (n : Int) t) _)
     ·rw [if_neg (show ¬ nextQ n t (seqN n t i) x = true by unfold nextQ; rw [decide_eq_false e3, Bool.and_false]; decide)]
      exact Goes.neg (by rw [decide_eq_false e3]; decide) (Goes.ok (K := fun s k => spec_HullOf.l2 k (preN n t (i + 1)) ((2 ^ n - 1 : Nat) : Int) (rimS n t : Int) (seqN n t i : Int) (i : Int) s ((x + 1 : Nat) : Int) (n : Int) t) s)
 have first : ∀ i, rd (preN n t (i + 1)) 0 = (firstN n t : Int) := fun i => preN_rd (i := i + 1) (j := 0) (by omega)
 induction d with
 | zero =>
  intro i hi
  refine ev_step ?_
  simp only [spec_HullOf.l1, preN_length]
  rw [← preN_succ]
  refine ev_pos (by omega) (ev_pos (by omega) (inner i _ ?_))
  rw [preN_length, first]
  refine ev_pos (by omega) (ev_pos ?_ (ev_cast (Ev.now _) ?_))
  ·rw [show i + 1 = (rimL n t).length by omega, cy.2.1]
  ·rw [show i + 1 = (rimL n t).length by omega]
 | succ d ih =>
  intro i hi
  refine ev_step ?_
  simp only [spec_HullOf.l1, preN_length]
  rw [← preN_succ]
  refine ev_pos (by omega) (ev_pos (by omega) (inner i _ ?_))
  rw [preN_length, first, wrap_id (x := (i : Int) + 1) (by omega) (by omega)]
  have ne := cy.2.2.1 (i + 1) (by omega) (by omega)
  exact ev_pos (by omega) (ev_neg (by omega) (ev_neg (by omega) (ih (i + 1) (by omega))))
omit h in
theorem spec_first (V : List Int) (hV : Ev (fun k => spec_HullOf.l1 k [] ((2 ^ n - 1 : Nat) : Int) (rimS n t : Int) (firstN n t : Int) 0 (n : Int) t) V) (d : Nat) : ∀ i, i + d = firstN n t → Ev (fun k => spec_HullOf.l0 k [] ((2 ^ n - 1 : Nat) : Int) (rimS n t : Int) (i : Int) (n : Int) t) V := by
 have hr7 : rimS n t < 128 := extN_lt t _ h1
 obtain ⟨f1, f2, f3⟩ := List.find?_range_eq_some.1 (first_some ho h0 h1)
 rw [List.mem_range] at f2
 induction d with
 | zero =>
  intro i hi
  obtain rfl : i = firstN n t := by omega
  refine ev_step ?_
  simp only [spec_HullOf.l0]
  refine ev_call (has_ev hr7 (by omega)) ?_
  rw [f1]
  exact ev_pos rfl hV
 | succ d ih =>
  intro i hi
  refine ev_step ?_
  simp only [spec_HullOf.l0]
  refine ev_call (has_ev hr7 (by omega)) ?_
  have g := f3 i (by omega)
  rw [Bool.not_eq_true'] at g
  rw [g, wrap_id (x := (i : Int) + 1) (by omega) (by omega)]
  exact ev_neg (by decide) (ih (i + 1) (by omega))
end
theorem spec_hull (n : Int) (t : ByteArray) (hs : t.size ≤ 9223372036854775807) : Ev (fun k => spec_HullOf.f k n t) (hullL n t) := by
 unfold spec_HullOf.f hullL
 refine ev_call rfl (Ev.bind (spec_isA n t hs) ?_)
 by_cases ho : acyOk n t = true
 ·rw [if_pos ho]
  obtain ⟨N, rfl, h, h0, h1⟩ := acy_are ho
  simp only [Int.toNat_natCast]
  have cy := rim_cycle ho h0 h1
  rw [u64_id h1, full_ev h1]
  refine ev_pos ho (ev_pos (by omega) (Ev.bind (spec_ext h (full_lt h1)) ?_))
  exact spec_first ho h0 h1 _ (spec_hull_loop ho h h0 h1 ((rimL N t).length - 1) 0 (by omega)) (firstN N t) 0 (by omega)
 ·rw [if_neg ho]
  exact ev_neg ho (Ev.now _)
end Go.Proofs.Ytckkfjdkaimmhaa.M
namespace Go.Proofs.Ytckkfjdkaimmhaa.M
open Go.RowKit Go.Proofs.YtckkfjdkaimmhaaW.PrintWords Go.Proofs.Ytckkfjdkaimmhaa.PX Go.Proofs.Ytckkfjdkaimmhaa.G Go.Proofs.YtckkfjdkaimmhaaW.PrintMore
def cntChk : Bool := (List.range 128).all fun s => decide (bits_OnesCount.f (IntKind.u64.wrap (s : Int)) = some (popN s : Int))
theorem cntChk_ok : cntChk = true := by decide +kernel
theorem ones_f {s : Nat} (hs : s < 128) : bits_OnesCount.f (IntKind.u64.wrap (s : Int)) = some (popN s : Int) := of_decide_eq_true (List.all_eq_true.1 cntChk_ok s (List.mem_range.2 hs))
def hullA (n : Int) (t : ByteArray) : Int := if acyOk n t = true then (popN (extN n.toNat t (2 ^ n.toNat - 1)) : Int) else -1
theorem impl_hullSize (n : Int) (t : ByteArray) (hs : t.size ≤ 9223372036854775807) : Ev (fun k => impl_HullSize.f k n t) (hullA n t) := by
 unfold impl_HullSize.f hullA
 refine Ev.bind (order_ev n t hs) ?_
 by_cases h : acyOk n t = true
 ·rw [if_pos h, if_pos h]
  obtain ⟨N, rfl, ho, h0, h1⟩ := acy_are h
  simp only [Int.toNat_natCast]
  exact ev_pos (by trivial) (ev_call (fullSet_f h1) (ev_pos (tblL_length _ _) (Ev.bind (impl_ext ho (full_lt h1)) (ev_call (ones_f (extN_lt t _ h1)) (Ev.now _)))))
 ·rw [if_neg h, if_neg h]
  exact ev_neg (by simp) (Ev.now _)
theorem spec_hullSize (n : Int) (t : ByteArray) (hs : t.size ≤ 9223372036854775807) : Ev (fun k => spec_HullSize.f k n t) (hullA n t) := by
 unfold spec_HullSize.f hullA
 refine Ev.bind (spec_isA n t hs) ?_
 by_cases h : acyOk n t = true
 ·rw [if_pos h]
  obtain ⟨N, rfl, ho, h0, h1⟩ := acy_are h
  simp only [Int.toNat_natCast]
  rw [u64_id h1, full_ev h1]
  refine ev_pos h (ev_pos (by omega) (Ev.bind (spec_ext ho (full_lt h1)) (Ev.bind (list_ev (extN_lt t _ h1)) (ev_cast (Ev.now _) ?_))))
  rw [listN_length]
 ·rw [if_neg h]
  exact ev_neg h (Ev.now _)
def inHullA (n : Int) (t : ByteArray) (s p : Int) : Bool := if acyOk n t = true ∧ setB n.toNat s = true ∧ inR n p = true ∧ s.toNat.testBit p.toNat = false then inB n.toNat t s.toNat p.toNat else false
theorem impl_inHullOf (n : Int) (t : ByteArray) (s p : Int) (hs : t.size ≤ 9223372036854775807) : Ev (fun k => impl_InHull.f k n t s p) (inHullA n t s p) := by
 unfold impl_InHull.f inHullA
 refine Ev.bind (order_ev n t hs) ?_
 by_cases h : acyOk n t = true
 ·rw [if_pos h]
  obtain ⟨N, rfl, ho, h0, h1⟩ := acy_are h
  simp only [Int.toNat_natCast]
  refine ev_pos (by trivial) (ev_call (isSet_f h1 s) ?_)
  by_cases g1 : setB N s = true
  ·obtain ⟨S, rfl, hS, hS8⟩ := set_nat h1 g1
   refine ev_pos g1 (ev_call (isElement_f _ _) ?_)
   by_cases g2 : inR N p = true
   ·simp only [inR, Bool.and_eq_true, decide_eq_true_eq] at g2
    obtain ⟨P, rfl⟩ : ∃ P : Nat, p = (P : Int) := Int.eq_ofNat_of_zero_le g2.1
    have g2' : inR (N : Int) (P : Int) = true := by simp only [inR, Bool.and_eq_true, decide_eq_true_eq]; exact g2
    simp only [Int.toNat_natCast]
    have hbq := bitQ_eq hS8 (k := P) (by omega)
    unfold bitQ at hbq
    refine ev_pos g2' (ev_pos (by omega) ?_)
    rw [hbq]
    cases hb : S.testBit P with
    | true =>
     have hne : ¬ (acyOk (N : Int) t = true ∧ setB N (S : Int) = true ∧ inR (N : Int) (P : Int) = true ∧ true = false) := fun e => by cases e.2.2.2
     rw [if_neg hne]
     exact ev_neg (by simp) (Ev.now _)
    | false =>
     have hpo : acyOk (N : Int) t = true ∧ setB N (S : Int) = true ∧ inR (N : Int) (P : Int) = true ∧ false = false := ⟨h, g1, g2', rfl⟩
     rw [if_pos hpo]
     exact ev_pos (by simp) (ev_pos (tblL_length _ _) (Ev.bind (impl_inHull ho hS8 (by omega) hb) (Ev.now _)))
   ·rw [if_neg (fun e => g2 e.2.2.1)]
    exact ev_neg g2 (Ev.now _)
  ·rw [if_neg (fun e => g1 e.2.1)]
   exact ev_neg g1 (Ev.now _)
 ·rw [if_neg h, if_neg (fun e => h e.1)]
  exact ev_neg (by simp) (Ev.now _)
theorem spec_inHullOf (n : Int) (t : ByteArray) (s p : Int) (hs : t.size ≤ 9223372036854775807) : Ev (fun k => spec_InHull.f k n t s p) (inHullA n t s p) := by
 unfold spec_InHull.f inHullA
 refine Ev.bind (spec_isA n t hs) ?_
 by_cases h : acyOk n t = true
 ·obtain ⟨N, rfl, ho, h0, h1⟩ := acy_are h
  simp only [Int.toNat_natCast]
  refine ev_pos h (ev_call (spec_in _ _ _) ?_)
  rw [wrap_id (by omega) (by omega)]
  by_cases g2 : inR N p = true
  ·have g2' := g2
   simp only [inR, Bool.and_eq_true, decide_eq_true_eq] at g2'
   refine ev_pos (by simp only [Bool.and_eq_true, decide_eq_true_eq]; omega) (ev_pos (by rw [u64_id h1]; omega) (ev_call (spec_set h1 s) ?_))
   obtain ⟨P, rfl⟩ : ∃ P : Nat, p = (P : Int) := Int.eq_ofNat_of_zero_le g2'.1
   by_cases g1 : setB N s = true
   ·obtain ⟨S, rfl, hS, hS8⟩ := set_nat h1 g1
    simp only [Int.toNat_natCast]
    refine ev_pos g1 (ev_call (has_ev hS8 (by omega)) ?_)
    cases hb : S.testBit P with
    | true =>
     have hne : ¬ (acyOk (N : Int) t = true ∧ setB N (S : Int) = true ∧ inR (N : Int) (P : Int) = true ∧ true = false) := fun e => by cases e.2.2.2
     rw [if_neg hne]
     exact ev_pos (by trivial) (Ev.now _)
    | false =>
     have hpo : acyOk (N : Int) t = true ∧ setB N (S : Int) = true ∧ inR (N : Int) (P : Int) = true ∧ false = false := ⟨h, g1, g2, rfl⟩
     rw [if_pos hpo]
     exact ev_neg (by decide) (Ev.bind (spec_in6 ho hS8 (by omega)) (Ev.now _))
   ·rw [if_neg (fun e => g1 e.2.1)]
    exact ev_neg g1 (Ev.now _)
  ·rw [if_neg (fun e => g2 e.2.2.1)]
   refine ev_neg (fun e => g2 ?_) (Ev.now _)
   simp only [inR, Bool.and_eq_true, decide_eq_true_eq] at e ⊢
   omega
 ·rw [if_neg (fun e => h e.1)]
  exact ev_neg h (Ev.now _)
def convA (n : Int) (t : ByteArray) : Bool := acyOk n t && (hullA n t == n)
theorem impl_isConv (n : Int) (t : ByteArray) (hs : t.size ≤ 9223372036854775807) : Ev (fun k => impl_IsConvex.f k n t) (convA n t) := by
 unfold impl_IsConvex.f convA
 refine Ev.bind (impl_hullSize n t hs) ?_
 cases h : acyOk n t with
 | true =>
  obtain ⟨N, rfl, ho, h0, h1⟩ := acy_are h
  by_cases g : hullA (N : Int) t = (N : Int)
  ·rw [beq_iff_eq.2 g]
   refine ev_pos g (ev_cast (Ev.now _) ?_)
   exact decide_eq_true (by omega)
  ·rw [beq_eq_false_iff_ne.2 g]
   exact ev_neg g (Ev.now _)
 | false =>
  rw [Bool.false_and]
  have e : hullA n t = -1 := by unfold hullA; rw [h]; rfl
  rw [e]
  by_cases g : -1 = n
  ·refine ev_pos g (ev_cast (Ev.now _) ?_)
   exact decide_eq_false (by omega)
  ·exact ev_neg g (Ev.now _)
theorem spec_isConv (n : Int) (t : ByteArray) (hs : t.size ≤ 9223372036854775807) : Ev (fun k => spec_IsConvex.f k n t) (convA n t) := by
 unfold spec_IsConvex.f convA
 refine Ev.bind (spec_isA n t hs) ?_
 cases h : acyOk n t with
 | true => exact ev_pos (by trivial) (Ev.bind (spec_hullSize n t hs) (Ev.now _))
 | false => exact ev_neg (by decide) (Ev.now _)
def isExtA (n : Int) (t : ByteArray) (p : Int) : Bool := if acyOk n t = true ∧ inR n p = true then !inB n.toNat t (2 ^ n.toNat - 1) p.toNat else false
theorem impl_isExt (n : Int) (t : ByteArray) (p : Int) (hs : t.size ≤ 9223372036854775807) : Ev (fun k => impl_IsExtreme.f k n t p) (isExtA n t p) := by
 unfold impl_IsExtreme.f isExtA
 refine Ev.bind (order_ev n t hs) ?_
 by_cases h : acyOk n t = true
 ·rw [if_pos h]
  obtain ⟨N, rfl, ho, h0, h1⟩ := acy_are h
  simp only [Int.toNat_natCast]
  refine ev_pos (by trivial) (ev_call (isElement_f _ _) ?_)
  by_cases g2 : inR N p = true
  ·rw [if_pos ⟨h, g2⟩]
   have g2' := g2
   simp only [inR, Bool.and_eq_true, decide_eq_true_eq] at g2'
   obtain ⟨P, rfl⟩ : ∃ P : Nat, p = (P : Int) := Int.eq_ofNat_of_zero_le g2'.1
   simp only [Int.toNat_natCast]
   have hbq := bitQ_eq (extN_lt (n := N) t (2 ^ N - 1) h1) (k := P) (by omega)
   unfold bitQ at hbq
   refine ev_pos g2 (ev_call (fullSet_f h1) (ev_pos (tblL_length _ _) (Ev.bind (impl_ext ho (full_lt h1)) (ev_pos (by omega) ?_))))
   rw [hbq, extN_bit t _ h1 (by omega), extB, full_bit h1 (by omega), Bool.true_and]
   refine ev_cast (Ev.now _) ?_
   cases inB N t (2 ^ N - 1) P <;> rfl
  ·rw [if_neg (fun e => g2 e.2)]
   exact ev_neg g2 (Ev.now _)
 ·rw [if_neg h, if_neg (fun e => h e.1)]
  exact ev_neg (by simp) (Ev.now _)
theorem spec_isExt (n : Int) (t : ByteArray) (p : Int) (hs : t.size ≤ 9223372036854775807) : Ev (fun k => spec_IsExtreme.f k n t p) (isExtA n t p) := by
 unfold spec_IsExtreme.f isExtA
 refine Ev.bind (spec_isA n t hs) ?_
 by_cases h : acyOk n t = true
 ·obtain ⟨N, rfl, ho, h0, h1⟩ := acy_are h
  simp only [Int.toNat_natCast]
  refine ev_pos h (ev_call (spec_in _ _ _) ?_)
  rw [wrap_id (x := (N : Int) - 1) (by omega) (by omega)]
  by_cases g2 : inR N p = true
  ·rw [if_pos ⟨h, g2⟩]
   simp only [inR, Bool.and_eq_true, decide_eq_true_eq] at g2
   obtain ⟨P, rfl⟩ : ∃ P : Nat, p = (P : Int) := Int.eq_ofNat_of_zero_le g2.1
   simp only [Int.toNat_natCast]
   refine ev_pos (by simp only [Bool.and_eq_true, decide_eq_true_eq]; omega) ?_
   rw [u64_id h1, full_ev h1]
   exact ev_pos (by omega) (Ev.bind (spec_in6 ho (full_lt h1) (by omega)) (Ev.now _))
  ·rw [if_neg (fun e => g2 e.2)]
   refine ev_neg (fun e => g2 ?_) (Ev.now _)
   simp only [inR, Bool.and_eq_true, decide_eq_true_eq] at e ⊢
   omega
 ·rw [if_neg (fun e => h e.1)]
  exact ev_neg h (Ev.now _)
end Go.Proofs.Ytckkfjdkaimmhaa.M
namespace Go.Proofs.Ytckkfjdkaimmhaa.M
open Go.RowKit Go.Proofs.YtckkfjdkaimmhaaW.PrintWords Go.Proofs.Ytckkfjdkaimmhaa.PX
theorem take_contains (l : List Int) (i : Nat) (hi : i ≤ l.length) (y : Int) : (l.take i).contains y = (List.range' 0 (i - 0)).any fun j => decide (y = l.getD j 0) := by
 have e : l.take i = (List.range i).map fun j => l.getD j 0 := by
  refine List.ext_getElem (by rw [List.length_take, List.length_map, List.length_range]; omega) fun k h1 h2 => ?_
  rw [List.length_take] at h1
  simp only [List.getElem_take, List.getElem_map, List.getElem_range]
  rw [List.getD_eq_getElem?_getD, List.getElem?_eq_getElem (by omega)]
  rfl
 rw [e, Nat.sub_zero, ← List.range_eq_range', List.contains_eq_any_beq, List.any_map]
 rfl
theorem dif5_ev {n : Int} (h0 : 3 ≤ n) (h1 : n ≤ 7) (l : List Int) (hl : l.length ≤ 1000000) : Ev (fun k => spec_l5Different.f k n l) (areD n l) := by
 unfold spec_l5Different.f
 have key := loop_up (σ := Unit) (ρ := Bool) (lo := 0) (n := l.length) (K := fun _ _ => some true) (L := fun i _ k => spec_l5Different.l0 k n l i)
  (fun _ i => if (inR n (l.getD i 0) && !((l.take i).contains (l.getD i 0))) = false then .error false else .ok ()) (fun u => ?_) (fun i _ hi u => ?_) (by omega) ()
 ·have e := foldlM_any (ρ := Bool) (fun i => !(inR n (l.getD i 0) && !((l.take i).contains (l.getD i 0)))) false (List.range' 0 (l.length - 0))
  have e2 : (fun (_ : Unit) (a : Nat) => if (!(inR n (l.getD a 0) && !((l.take a).contains (l.getD a 0)))) = true then (.error false : Except Bool Unit) else .ok ()) = fun (_ : Unit) (i : Nat) => if (inR n (l.getD i 0) && !((l.take i).contains (l.getD i 0))) = false then .error false else .ok () := by
   funext _ i
   cases inR n (l.getD i 0) && !((l.take i).contains (l.getD i 0)) <;> rfl
  rw [e2] at e
  rw [e] at key
  have e3 : areD n l = !((List.range' 0 (l.length - 0)).any fun i => !(inR n (l.getD i 0) && !((l.take i).contains (l.getD i 0)))) := by
   unfold areD
   rw [Nat.sub_zero, ← List.range_eq_range', List.not_any_eq_all_not]
   simp only [Bool.not_not]
  rw [e3]
  cases hq : (List.range' 0 (l.length - 0)).any fun i => !(inR n (l.getD i 0) && !((l.take i).contains (l.getD i 0))) with
  | true => rw [hq] at key; exact key
  | false => rw [hq] at key; exact key _ (Ev.now _)
 ·refine Goes.step ?_
  simp only [spec_l5Different.l0]
  exact Goes.neg (by omega) (Goes.ok (K := fun _ _ => some true) u)
 ·have hr : ∀ j : Nat, rd l (j : Int) = l.getD j 0 := fun j => by unfold rd; rw [Int.toNat_natCast]
  refine Goes.step ?_
  simp only [spec_l5Different.l0, hr]
  refine Goes.pos (by omega) (Goes.pos (by omega) (Goes.call (spec_in _ _ _) ?_))
  rw [wrap_id (by omega) (by omega)]
  cases hin : inR n (l.getD i 0) with
  | false =>
   simp only [inR, Bool.and_eq_false_iff, decide_eq_false_iff_not] at hin
   refine Goes.neg ?_ (Goes.ret _)
   simp only [Bool.and_eq_true, decide_eq_true_eq]
   omega
  | true =>
   simp only [inR, Bool.and_eq_true, decide_eq_true_eq] at hin
   refine Goes.pos (by simp only [Bool.and_eq_true, decide_eq_true_eq]; omega) ?_
   rw [Bool.true_and, take_contains l i (by omega)]
   have inner := loop_up (σ := Unit) (ρ := Bool) (lo := 0) (n := i) (K := fun _ k => spec_l5Different.l0 k n l ((i + 1 : Nat) : Int)) (L := fun j _ k => spec_l5Different.l1 k n l (i : Int) j)
    (fun _ j => if decide (l.getD i 0 = l.getD j 0) then .error false else .ok ()) (fun u => ?_) (fun j _ hj u => ?_) (by omega) ()
   ·rw [foldlM_any (ρ := Bool) (fun j => decide (l.getD i 0 = l.getD j 0)) false (List.range' 0 (i - 0))] at inner
    refine Goes.cast inner ?_
    cases (List.range' 0 (i - 0)).any fun j => decide (l.getD i 0 = l.getD j 0) <;> rfl
   ·refine Goes.step ?_
    simp only [spec_l5Different.l1]
    refine Goes.neg (by omega) ?_
    rw [wrap_id (by omega) (by omega)]
    exact Goes.ok (K := fun _ k => spec_l5Different.l0 k n l ((i + 1 : Nat) : Int)) u
   ·refine Goes.step ?_
    simp only [spec_l5Different.l1, hr]
    refine Goes.pos (by omega) (Goes.pos (by omega) (Goes.pos (by omega) (Goes.pos (by omega) (Goes.pos (by omega) ?_))))
    rw [wrap_id (by omega) (by omega)]
    by_cases g : l.getD i 0 = l.getD j 0
    ·rw [decide_eq_true g]
     exact Goes.pos g (Goes.ret _)
    ·rw [decide_eq_false g]
     exact Goes.neg g (Goes.ok (K := fun _ k => spec_l5Different.l1 k n l (i : Int) ((j + 1 : Nat) : Int)) u)
end Go.Proofs.Ytckkfjdkaimmhaa.M
namespace Go.Proofs.Ytckkfjdkaimmhaa.PX
open Go.RowKit Go.Proofs.Ytckkfjdkaimmhaa.G Go.Proofs.YtckkfjdkaimmhaaW.PrintWords Go.Proofs.YtckkfjdkaimmhaaW.PrintLast Go.Proofs.YtckkfjdkaimmhaaW.PrintMore
attribute [local go_sem] max2_int min2_int max_two min_two max_three min_three max_four min_four   -- for this text's walks alone
set_option linter.unusedVariables false
set_option linter.unusedSimpArgs false
/-! ### impl_LeftCount: function 72 -/
end Go.Proofs.Ytckkfjdkaimmhaa.PX
namespace Go.Proofs.Ytckkfjdkaimmhaa.M
open Go.RowKit Go.Proofs.YtckkfjdkaimmhaaW.PrintWords Go.Proofs.Ytckkfjdkaimmhaa.PX Go.Proofs.Ytckkfjdkaimmhaa.G Go.Proofs.YtckkfjdkaimmhaaW.PrintMore
def leftA (n : Int) (t : ByteArray) (i j : Int) : Int := if acyOk n t = true ∧ areD n [i, j] = true then (leftV n.toNat t i.toNat j.toNat : Int) else -1
theorem areD2 {n i j : Int} (h : areD n [i, j] = true) : (0 ≤ i ∧ i < n) ∧ (0 ≤ j ∧ j < n) ∧ i ≠ j := by
 simp only [areD, inR, List.length_cons, List.length_nil, List.all_eq_true, List.mem_range, Bool.and_eq_true, decide_eq_true_eq, Bool.not_eq_true'] at h
 have h0 := h 0 (by omega)
 have h1 := h 1 (by omega)
 refine ⟨h0.1, h1.1, fun e => ?_⟩
 have := h1.2
 subst e
 simp at this
theorem spec_leftC (n : Int) (t : ByteArray) (i j : Int) (hs : t.size ≤ 9223372036854775807) : Ev (fun k => spec_LeftCount.f k n t i j) (leftA n t i j) := by
 unfold spec_LeftCount.f leftA
 refine Ev.bind (spec_isA n t hs) ?_
 by_cases h : acyOk n t = true
 ·obtain ⟨N, rfl, ha, h3, h7⟩ := acy_are h
  refine ev_pos h (Ev.bind (dif5_ev (by omega) (by omega) _ (by simp only [List.length_cons, List.length_nil]; omega)) ?_)
  by_cases g : areD N [i, j] = true
  ·rw [if_pos ⟨h, g⟩]
   obtain ⟨⟨i0, i1⟩, ⟨j0, j1⟩, ne⟩ := areD2 g
   obtain ⟨I, rfl⟩ := Int.eq_ofNat_of_zero_le i0
   obtain ⟨J, rfl⟩ := Int.eq_ofNat_of_zero_le j0
   exact ev_pos g (Ev.bind (spec_left ha (by omega) (by omega) (by omega)) (Ev.now _))
  ·rw [if_neg (fun x => g x.2)]
   exact ev_neg g (Ev.now _)
 ·rw [if_neg (fun x => h x.1)]
  exact ev_neg h (Ev.now _)
end Go.Proofs.Ytckkfjdkaimmhaa.M
namespace Go.Proofs.Ytckkfjdkaimmhaa.Pure
open Go.RowKit Go.Proofs.YtckkfjdkaimmhaaW.PrintWords Go.Proofs.Ytckkfjdkaimmhaa.PX Go.Proofs.Ytckkfjdkaimmhaa.M Go.Proofs.Ytckkfjdkaimmhaa.G Go.Proofs.YtckkfjdkaimmhaaW.PrintMore
theorem drawInHull {l : List Int} (hl : l.length ≤ 1048576) : ∃ (n : Int) (t : ByteArray) (s p : Int), Ev (fun k => spec_DrawInHull.f k l) (n, t, s, p) ∧ SmallS n t := by
 obtain ⟨h, n, t, i1, h1, hn, e1, m1, c1⟩ := l5New_ok hl
 obtain ⟨x, i2, h2, e2, _, _, c2⟩ := below_ok hl c1 h1 70
 obtain ⟨y, i3, h3, e3, _, c3⟩ := pickInt_ok hl c2 h2 [0, 0, 0, 64, -70] (by decide)
 obtain ⟨q, i4, h4, e4, _, _, c4⟩ := below_ok hl c3 h3 6
 obtain ⟨b, i5, h5, e5, c5⟩ := once_ok hl c4 h4 3
 have yes : Ev (fun k => spec_DrawInHull.j0 k (wrap64 (x + y)) q true l i5 h5 n t) (n, t, wrap64 (x + y), q) := by
  refine ev_step ?_
  simp only [spec_DrawInHull.j0]
  exact ev_pos (by trivial) (Ev.now _)
 cases b with
 | true =>
  refine ⟨n, t, wrap64 (x + y), q, ?_, m1⟩
  unfold spec_DrawInHull.f
  exact Ev.bind hn (Ev.bind e1 (ev_call e2 (ev_call e3 (ev_call e4 (ev_call e5 (ev_pos (by trivial) yes))))))
 | false =>
  by_cases g : 1 ≤ n ∧ n ≤ 7
  ·obtain ⟨N, rfl⟩ := Int.eq_ofNat_of_zero_le (show 0 ≤ n by omega)
   have hN : 1 ≤ N ∧ N ≤ 7 := by omega
   obtain ⟨p0, i6, h6, e6, _, b6, c6⟩ := below_ok hl c5 h5 (N : Int)
   have b6 := b6 (by omega)
   have hj2 : ∀ P : Nat, P < N → ∃ s, Ev (fun k => spec_DrawInHull.j2 k (P : Int) l i6 h6 (N : Int) t) ((N : Int), t, s, (P : Int)) := by
    intro P hP
    obtain ⟨r, i7, h7, e7, _, b7, c7⟩ := below_ok hl c6 h6 (N : Int)
    have b7 := b7 (by omega)
    obtain ⟨R, rfl⟩ := Int.eq_ofNat_of_zero_le b7.1
    obtain ⟨b, i8, h8, e8, c8⟩ := once_ok hl c7 h7 3
    cases b with
    | false =>
     refine ⟨wrap64 ((wrap64 ((shl .i64 1 (IntKind.u64.wrap (N : Int))) - 1)) - (shl .i64 1 (IntKind.u64.wrap (P : Int)))), ev_step ?_⟩
     simp only [spec_DrawInHull.j2]
     exact ev_pos (u64_nat (by omega)) (ev_pos (u64_nat (by omega)) (ev_call e7 (ev_call e8 (ev_neg (by simp) (Ev.now _)))))
    | true =>
     by_cases g : (R : Int) = (P : Int)
     ·refine ⟨wrap64 ((wrap64 ((shl .i64 1 (IntKind.u64.wrap (N : Int))) - 1)) - (shl .i64 1 (IntKind.u64.wrap (P : Int)))), ev_step ?_⟩
      simp only [spec_DrawInHull.j2]
      exact ev_pos (u64_nat (by omega)) (ev_pos (u64_nat (by omega)) (ev_call e7 (ev_call e8 (ev_pos rfl (ev_pos g (Ev.now _))))))
     ·refine ⟨wrap64 ((wrap64 ((wrap64 ((shl .i64 1 (IntKind.u64.wrap (N : Int))) - 1)) - (shl .i64 1 (IntKind.u64.wrap (P : Int))))) - (shl .i64 1 (IntKind.u64.wrap (R : Int)))), ev_step ?_⟩
      simp only [spec_DrawInHull.j2]
      exact ev_pos (u64_nat (by omega)) (ev_pos (u64_nat (by omega)) (ev_call e7 (ev_call e8 (ev_pos rfl (ev_neg g (ev_pos (u64_nat (by omega)) (Ev.now _)))))))
   have hl0 : ∀ (d x : Nat), x + d = N → ∀ P : Nat, P < N → ∃ s p, Ev (fun k => spec_DrawInHull.l0 k (P : Int) (x : Int) l i6 h6 (N : Int) t) ((N : Int), t, s, p) := by
    intro d
    induction d with
    | zero =>
     intro x hx P hP
     obtain ⟨s, hs⟩ := hj2 P hP
     refine ⟨s, (P : Int), ev_step ?_⟩
     simp only [spec_DrawInHull.l0]
     exact ev_neg (by omega) hs
    | succ d ih =>
     intro x hx P hP
     have ex := spec_isExt (N : Int) t (P : Int) (by have := m1.2; omega)
     cases g : isExtA (N : Int) t (P : Int) with
     | true =>
      have hm : Int.tmod (wrap64 ((P : Int) + 1)) (N : Int) = (((P + 1) % N : Nat) : Int) := by
       rw [wrap_id (by omega) (by omega)]
       rfl
      obtain ⟨s, p, hs⟩ := ih (x + 1) (by omega) ((P + 1) % N) (Nat.mod_lt _ (by omega))
      refine ⟨s, p, ev_step ?_⟩
      simp only [spec_DrawInHull.l0]
      rw [hm, wrap_id (x := (x : Int) + 1) (by omega) (by omega)]
      refine ev_pos (by omega) (Ev.bind ex ?_)
      rw [g]
      exact ev_pos rfl (ev_neg (by omega) hs)
     | false =>
      obtain ⟨s, hs⟩ := hj2 P hP
      refine ⟨s, (P : Int), ev_step ?_⟩
      simp only [spec_DrawInHull.l0]
      refine ev_pos (by omega) (Ev.bind ex ?_)
      rw [g]
      exact ev_neg (by simp) hs
   obtain ⟨P, rfl⟩ := Int.eq_ofNat_of_zero_le b6.1
   obtain ⟨s, p, hs⟩ := hl0 N 0 (by omega) P (by omega)
   refine ⟨(N : Int), t, s, p, ?_, m1⟩
   unfold spec_DrawInHull.f
   refine Ev.bind hn (Ev.bind e1 (ev_call e2 (ev_call e3 (ev_call e4 (ev_call e5 (ev_neg (by simp) (ev_call (spec_in _ _ _) ?_)))))))
   rw [decide_eq_true g.1, decide_eq_true g.2]
   refine ev_step ?_
   simp only [spec_DrawInHull.j0]
   exact ev_neg (by decide) (ev_call e6 hs)
  ·refine ⟨n, t, wrap64 (x + y), q, ?_, m1⟩
   unfold spec_DrawInHull.f
   refine Ev.bind hn (Ev.bind e1 (ev_call e2 (ev_call e3 (ev_call e4 (ev_call e5 (ev_neg (by simp) (ev_call (spec_in _ _ _) ?_)))))))
   have e : (decide (1 ≤ n) && decide (n ≤ 7)) = false := by
    rw [Bool.and_eq_false_iff, decide_eq_false_iff_not, decide_eq_false_iff_not]
    omega
   rw [e]
   exact yes
section
variable {N : Nat} {t : ByteArray} (ho : acyOk N t = true) (h0 : 3 ≤ N) (h1 : N ≤ 7)
include ho h0 h1
theorem rim_three : 3 ≤ (rimL N t).length := by
 have cy := (rim_cycle ho h0 h1).2.2.2
 have n0 := next_nx ho h0 h1 (seq_outer ho h0 h1 0)
 have n1 := next_nx ho h0 h1 (seq_outer ho h0 h1 1)
 have e02 : seqN N t 0 ≠ seqN N t 2 := by
  intro e
  have n1' : nx N (chi N t) (seqN N t 1) (seqN N t 0) := by rw [e]; exact n1
  have n0' : nx N (chi N t) (seqN N t 0) (seqN N t 1) := n0
  obtain ⟨x, hx, x1, x2⟩ : ∃ x, x < N ∧ x ≠ seqN N t 0 ∧ x ≠ seqN N t 1 := by
   generalize seqN N t 0 = a
   generalize seqN N t 1 = b
   by_cases e0 : a ≠ 0 ∧ b ≠ 0
   ·exact ⟨0, by omega, by omega, by omega⟩
   ·by_cases e1 : a ≠ 1 ∧ b ≠ 1
    ·exact ⟨1, by omega, by omega, by omega⟩
    ·exact ⟨2, by omega, by omega, by omega⟩
  have f0 := n0'.2.2.2 x hx x1 x2
  have f1 := n1'.2.2.2 x hx x2 x1
  have := (order_ord ho).s1 _ _ x n0'.1 n0'.2.1 hx
  omega
 have k := nodup_sub [seqN N t 0, seqN N t 1, seqN N t 2] (rimL N t) (by
  simp only [List.nodup_cons, List.mem_cons, List.not_mem_nil, or_false, not_or, not_false_eq_true, List.nodup_nil, and_true]
  exact ⟨⟨n0.2.2.1, e02⟩, n1.2.2.1⟩) (fun x hx => by
  simp only [List.mem_cons, List.not_mem_nil, or_false] at hx
  rcases hx with rfl | rfl | rfl <;> exact cy _)
 exact k
theorem seq_next {y : Nat} (hy : y < (rimL N t).length) : nx N (chi N t) (seqN N t y) (seqN N t ((y + 1) % (rimL N t).length)) := by
 have n := next_nx ho h0 h1 (seq_outer ho h0 h1 y)
 by_cases e : y + 1 = (rimL N t).length
 ·rw [e, Nat.mod_self]
  have cy := (rim_cycle ho h0 h1).2.1
  rw [← e] at cy
  show nx N (chi N t) (seqN N t y) (firstN N t)
  rw [← cy]
  exact n
 ·rw [Nat.mod_eq_of_lt (by omega)]
  exact n
theorem seq_ge (y : Nat) : firstN N t ≤ seqN N t y := by
 have hm := (rim_iff (order_ord ho) h1 _).2 (seq_outer ho h0 h1 y)
 have f := first_some ho h0 h1
 refine Nat.not_lt.1 fun hlt => ?_
 have f := (List.find?_range_eq_some.1 f).2.2 _ hlt
 rw [hm] at f
 cases f
theorem seq_ext (y : Nat) : isExtA N t (seqN N t y : Int) = true := by
 have so := seq_outer ho h0 h1 y
 have hm := (rim_iff (order_ord ho) h1 _).2 so
 unfold isExtA
 have hr : inR (N : Int) (seqN N t y : Int) = true := by
  have := so.1
  simp only [inR, Bool.and_eq_true, decide_eq_true_eq]
  omega
 rw [if_pos ⟨ho, hr⟩]
 simp only [Int.toNat_natCast]
 unfold rimS at hm
 rw [extN_bit t _ h1 so.1, extB, full_bit h1 so.1, Bool.true_and] at hm
 exact hm
theorem seq_left {y : Nat} (hy : y < (rimL N t).length) : leftA N t (seqN N t y : Int) (seqN N t ((y + 1) % (rimL N t).length) : Int) = (N : Int) - 2 := by
 have n := seq_next ho h0 h1 hy
 have z := (left_zero (order_ord ho) h0 h1 n.1 n.2.1 n.2.2.1).2 n
 have s := leftV_sum t h0 h1 n.1 n.2.1 n.2.2.1
 have hd : areD (N : Int) [(seqN N t y : Int), (seqN N t ((y + 1) % (rimL N t).length) : Int)] = true := by
  have q1 := n.1
  have q2 := n.2.1
  have q3 := n.2.2.1
  simp only [areD, inR, List.length_cons, List.length_nil, List.all_eq_true, List.mem_range, Bool.and_eq_true, decide_eq_true_eq, Bool.not_eq_true']
  intro i hi
  have : i = 0 ∨ i = 1 := by omega
  rcases this with rfl | rfl
  ·simp
   omega
  ·simp
   omega
 unfold leftA
 rw [if_pos ⟨ho, hd⟩]
 simp only [Int.toNat_natCast]
 omega
end
def popChk : Bool := (List.range 128).all fun s => (List.range 128).all fun e => !(s &&& e == e) || (popN s == popN e + popN (andN s e))
theorem popChk_ok : popChk = true := by decide +kernel
theorem pop_and {s e : Nat} (hs : s < 128) (he : e < 128) (h : s &&& e = e) : popN s = popN e + popN (andN s e) := by
 have g := List.all_eq_true.1 popChk_ok s (List.mem_range.2 hs)
 have g := List.all_eq_true.1 g e (List.mem_range.2 he)
 rw [h, beq_self_eq_true, Bool.not_true, Bool.false_or] at g
 exact beq_iff_eq.1 g
theorem lay_sum {N : Nat} {t : ByteArray} (ho : acyOk N t = true) (h1 : N ≤ 7) : ∀ f s, s < f → s < 2 ^ N → ((layF N t f s).map List.length).sum = popN s := by
 have hp := pow_128 h1
 intro f
 induction f with
 | zero => intro s hf; omega
 | succ f ih =>
  intro s hf hs
  rw [layF]
  by_cases g : s = 0
  ·rw [if_pos g, g]
   rfl
  ·rw [if_neg g]
   have hl := lay_less ho h1 hs g
   have e : s &&& extN N t s = extN N t s := by
    refine Nat.eq_of_testBit_eq fun i => ?_
    rw [Nat.testBit_and]
    by_cases hi : i < N
    ·rw [extN_bit t s h1 hi]
     unfold extB
     cases s.testBit i <;> rfl
    ·have : (extN N t s).testBit i = false := Nat.testBit_lt_two_pow (Nat.lt_of_lt_of_le (sumN_lt (extB N t s) N) (Nat.pow_le_pow_right (by omega) (by omega)))
     rw [this, Bool.and_false]
   rw [List.map_cons, List.sum_cons, ih _ (by omega) (by omega), listN_length]
   exact (pop_and (by omega) (extN_lt t s h1) e).symm
theorem full_pop : ∀ n : Nat, n ≤ 7 → popN (2 ^ n - 1) = n := by decide +kernel
theorem lays_small (n : Int) (t : ByteArray) : (layA n t).length ≤ 10000 ∧ ∀ r ∈ layA n t, r.length ≤ 10000 := by
 unfold layA
 split
 ·exact ⟨Nat.le_trans (layF_length _ _ _ _) (by decide), fun r hr => Nat.le_trans (layF_rows _ _ _ _ r hr) (by decide)⟩
 ·exact ⟨by decide, fun r hr => by cases hr⟩
theorem FnHulls (l : List Int) (_ : l.length ≤ 9223372036854775807) (_ : ∀ x ∈ l, (Lit.int .u8 x).wf = true) :
  ∃ k, laws_FnHulls.f k l = some true := by
 refine Ev.rounds (r := true) ?_
 unfold laws_FnHulls.f laws_big.f
 refine ev_call rfl ?_
 by_cases hb : (l.length : Int) > 1048576
 ·exact ev_pos (decide_eq_true hb) (Ev.now _)
 refine ev_neg (by simpa using hb) ?_
 have hl : l.length ≤ 1048576 := by omega
 have drawH : ∃ (n : Int) (t : ByteArray), Ev (fun k => spec_DrawHullOf.f k l) (n, t) ∧ SmallS n t := by
  obtain ⟨h, n, t, i, h', hn, e, s, _⟩ := l5New_ok hl
  exact ⟨n, t, by unfold spec_DrawHullOf.f; exact Ev.bind hn (Ev.bind e (Ev.now _)), s⟩
 have drawE : ∃ (n : Int) (t : ByteArray) (x : Int), Ev (fun k => spec_DrawIsExtreme.f k l) (n, t, x) ∧ SmallS n t := by
  obtain ⟨n, t, x, e, s⟩ := l6One_ok hl
  exact ⟨n, t, x, by unfold spec_DrawIsExtreme.f; exact Ev.bind e (Ev.now _), s⟩
 obtain ⟨sn, st, d1, ⟨_, ss⟩⟩ := drawH
 obtain ⟨en, et, ei, d2, ⟨_, es⟩⟩ := drawE
 obtain ⟨tn, tt, set, p, d3, ⟨_, ts⟩⟩ := drawInHull hl
 have z : ∀ {x : Nat}, x ≤ 101 → x ≤ 9223372036854775807 := fun h => by omega
 have lsm := lays_small sn st
 have hsm := hullL_length sn st
 have hend : Ev (fun k => (impl_InHull.f k tn tt set p).bind fun t1252 => (if t1252 = true then ((impl_IsExtreme.f k tn tt p).bind fun t1253 => (some (!t1253))) else (some true))) true := by
  refine Ev.bind (impl_inHullOf tn tt set p (z ts)) ?_
  cases g : inHullA tn tt set p with
  | false => exact ev_neg (by simp) (Ev.now _)
  | true =>
   refine ev_pos rfl (Ev.bind (impl_isExt tn tt p (z ts)) (ev_cast (Ev.now _) ?_))
   unfold inHullA at g
   split at g
   ·rename_i h
    obtain ⟨ha, hs, hp, _⟩ := h
    unfold isExtA
    rw [if_pos ⟨ha, hp⟩]
    obtain ⟨N, rfl, _, h0, h1⟩ := acy_are ha
    simp only [inR, Bool.and_eq_true, decide_eq_true_eq] at hp
    rw [Int.toNat_natCast] at g ⊢
    have o := order_ord ha
    have q := inB_inT o h1 (p := p.toNat) (by omega) g
    have q' := inT_inB o h1 (s := 2 ^ N - 1) (p := p.toNat) (by omega) (by
     obtain ⟨a, b, c, ha, hb, hc, hd, _, _, _, hi⟩ := q
     exact ⟨a, b, c, ha, hb, hc, hd, full_bit h1 ha, full_bit h1 hb, full_bit h1 hc, hi⟩)
    rw [q']
    rfl
   ·cases g
 have hj0 : Ev (fun k => laws_FnHulls.j0 k (hullL sn st) (layA sn st) set p false sn st tn tt) true := by
  refine ev_step ?_
  simp only [laws_FnHulls.j0]
  refine ev_neg (by decide) (Ev.bind (spec_isA sn st (z ss)) ?_)
  cases ha : acyOk sn st with
  | false =>
   have e1 : hullL sn st = [] := by unfold hullL; rw [ha]; rfl
   have e2 : layA sn st = [] := by unfold layA; rw [ha]; rfl
   have e3 : hullA sn st = -1 := by unfold hullA; rw [ha]; rfl
   have hz := impl_hullSize sn st (z ss)
   rw [e3] at hz
   rw [e1, e2]
   exact ev_neg (by simp) (ev_pos rfl (ev_pos rfl (Ev.bind hz (ev_cast (Ev.now _) (by decide)))))
  | true =>
   obtain ⟨N, rfl, hre, h0, h1⟩ := acy_are ha
   have r3 := rim_three ha h0 h1
   have rle := rimL_le ha h0 h1
   have eH : hullL (N : Int) st = preN N st (rimL N st).length := by
    unfold hullL
    rw [if_pos ha, Int.toNat_natCast]
   have eS : hullA (N : Int) st = ((rimL N st).length : Int) := by
    unfold hullA
    rw [if_pos ha, Int.toNat_natCast]
    rfl
   have f0 : (2 : Nat) ^ N - 1 ≠ 0 := by
    have : 2 ^ 1 ≤ 2 ^ N := Nat.pow_le_pow_right (by omega) (by omega)
    omega
   have eL : layA (N : Int) st = listN (rimS N st) :: layF N st 127 (andN (2 ^ N - 1) (rimS N st)) := by
    unfold layA
    rw [if_pos ha, Int.toNat_natCast]
    rw [layF, if_neg f0]
    rfl
   have eL0 : (listN (rimS N st)).length = (rimL N st).length := by rw [listN_length]; rfl
   have eC : convA (N : Int) st = (((rimL N st).length : Int) == (N : Int)) := by
    unfold convA
    rw [ha, eS]
    rfl
   have eT : ((layA (N : Int) st).map List.length).sum = N := by
    unfold layA
    rw [if_pos ha, Int.toNat_natCast, lay_sum ha h1 128 _ (full_lt h1) (by have : 0 < 2 ^ N := Nat.two_pow_pos N; omega), full_pop N h1]
   have hz := impl_hullSize (N : Int) st (z ss)
   rw [eS] at hz
   have hc := impl_isConv (N : Int) st (z ss)
   rw [eC] at hc
   have hl1 : ∀ (rest dn : List (List Int)), dn ++ rest = layA (N : Int) st → Ev (fun k => laws_FnHulls.l1 k (layA (N : Int) st) set p ((dn.map List.length).sum : Int) (dn.length : Int) (N : Int) st tn tt) true := by
    intro rest
    induction rest with
    | nil =>
     intro dn e
     rw [List.append_nil] at e
     subst e
     refine ev_step ?_
     simp only [laws_FnHulls.l1]
     exact ev_neg (by omega) (ev_pos (by omega) hend)
    | cons r rest ih =>
     intro dn e
     have hlen : (layA (N : Int) st).length = dn.length + (rest.length + 1) := by rw [← e, List.length_append, List.length_cons]
     have hrd : rd_L6 (layA (N : Int) st) (dn.length : Int) = r := by
      rw [rdLL (by omega)]
      simp only [← e]
      rw [List.getElem_append_right (Nat.le_refl _)]
      simp
     have hs : ((dn ++ [r]).map List.length).sum = (dn.map List.length).sum + r.length := by simp
     have hn : ((dn ++ [r]).length : Int) = (dn.length : Int) + 1 := by simp
     have hle : (dn.map List.length).sum + r.length ≤ N := by
      rw [← eT, ← e]
      simp only [List.map_append, List.map_cons, List.sum_append_nat, List.sum_cons]
      omega
     have key := ih (dn ++ [r]) (by rw [List.append_assoc]; exact e)
     rw [hs, hn] at key
     refine ev_step ?_
     simp only [laws_FnHulls.l1]
     refine ev_pos (by omega) (ev_pos (by omega) ?_)
     rw [hrd, wrap_id (x := ((dn.map List.length).sum : Int) + (r.length : Int)) (by omega) (by omega), wrap_id (x := (dn.length : Int) + 1) (by omega) (by omega)]
     rw [Int.natCast_add] at key
     exact key
   have hl0 : ∀ (d y : Nat), y + d = (rimL N st).length → Ev (fun k => laws_FnHulls.l0 k (hullL (N : Int) st) (layA (N : Int) st) set p (y : Int) (N : Int) st tn tt) true := by
    intro d
    induction d with
    | zero =>
     intro y hy
     refine ev_step ?_
     simp only [laws_FnHulls.l0]
     rw [eH]
     refine ev_neg (by rw [preN_length]; omega) ?_
     have key := hl1 (layA (N : Int) st) [] rfl
     exact key
    | succ d ih =>
     intro y hy
     have hy' : y < (rimL N st).length := by omega
     have hmod : (y + 1) % (rimL N st).length < (rimL N st).length := Nat.mod_lt _ (by omega)
     have hr0 : 0 < (rimL N st).length := by omega
     have hi := ih (y + 1) (by omega)
     rw [eH] at hi ⊢
     refine ev_step ?_
     simp only [laws_FnHulls.l0]
     have hm : Int.tmod (wrap64 ((y : Int) + 1)) ((preN N st (rimL N st).length).length : Int) = (((y + 1) % (rimL N st).length : Nat) : Int) := by
      rw [wrap_id (by omega) (by omega), preN_length]
      rfl
     rw [hm, preN_length, wrap_id (x := (y : Int) + 1) (by omega) (by omega), preN_rd hy', preN_rd hmod, show rd (preN N st (rimL N st).length) 0 = (seqN N st 0 : Int) from preN_rd (j := 0) hr0]
     have he := impl_isExt (N : Int) st (seqN N st y : Int) (z ss)
     rw [seq_ext ha h0 h1 y] at he
     have hL := spec_leftC (N : Int) st (seqN N st y : Int) (seqN N st ((y + 1) % (rimL N st).length) : Int) (z ss)
     rw [seq_left ha h0 h1 hy'] at hL
     have hg := seq_ge ha h0 h1 y
     refine ev_pos (Int.ofNat_lt.2 hy') (ev_pos (Int.natCast_nonneg y) (Ev.bind he (ev_pos rfl (ev_neg (fun e => absurd (Int.ofNat.inj e) (Nat.pos_iff_ne_zero.1 hr0)) (ev_pos (Int.natCast_nonneg _) (ev_pos (Int.ofNat_lt.2 hmod) (Ev.bind hL (ev_pos ?_ (ev_pos (Int.ofNat_lt.2 hr0) (ev_neg ?_ hi))))))))))
     ·rw [wrap_id (by omega) (by omega)]
     ·show ¬ ((seqN N st y : Int) < (firstN N st : Int))
      omega
   have hj1 : Ev (fun k => laws_FnHulls.j1 k (hullL (N : Int) st) (layA (N : Int) st) set p false (N : Int) st tn tt) true := by
    refine ev_step ?_
    simp only [laws_FnHulls.j1]
    exact ev_neg (by decide) (hl0 (rimL N st).length 0 (Nat.zero_add _))
   have lH : (hullL (N : Int) st).length = (rimL N st).length := by rw [eH, preN_length]
   have e0 : rd_L6 (layA (N : Int) st) 0 = listN (rimS N st) := by rw [eL]; rfl
   have lL : 0 < (layA (N : Int) st).length := by rw [eL, List.length_cons]; omega
   refine ev_pos rfl (ev_neg (by omega) (Ev.bind hz (ev_pos (by omega) (ev_neg (by omega) (ev_pos (by omega) (ev_pos ?_ (Ev.bind hc ?_)))))))
   ·rw [e0, eL0, lH]
   ·rw [show ((((rimL N st).length : Int) == (N : Int)) != (((hullL (N : Int) st).length : Int) == (N : Int))) = false by rw [lH]; simp]
    exact hj1
 refine Ev.bind d1 (Ev.bind (impl_hull sn st (z ss)) (Ev.bind (impl_lay sn st (z ss)) (Ev.bind d2 (Ev.bind d3 (Ev.bind (spec_hull sn st (z ss)) (Ev.bind (sameInts_self _ (by omega)) (ev_pos rfl (Ev.bind (spec_lay sn st (z ss)) (Ev.bind (sameLists_self _ lsm) (ev_pos rfl (Ev.bind (impl_isExt en et ei (z es)) (Ev.bind (spec_isExt en et ei (z es)) (ev_neg (by simp) (Ev.bind (impl_inHullOf tn tt set p (z ts)) (Ev.bind (spec_inHullOf tn tt set p (z ts)) (ev_neg (by simp) (Ev.bind (impl_hullSize sn st (z ss)) (Ev.bind (spec_hullSize sn st (z ss)) (ev_pos rfl (Ev.bind (impl_isConv sn st (z ss)) (Ev.bind (spec_isConv sn st (z ss)) ?_)))))))))))))))))))))
 simpa using hj0
end Go.Proofs.Ytckkfjdkaimmhaa.Pure
namespace Go.Proofs.Ytckkfjdkaimmhaa.fnHulls
open Go.ChangeShapes Go.WideShapes Go.ChangeAt Go.RowKit Go.Joins
open Go.ChangeMaps (open_string shut_string)
set_option linter.unusedVariables false
theorem own : ownKnob Try.prog.godebug = none := by kernel_rfl
theorem str_mk {H : Type} {enc : TypeId × Value → H} {P : Program} {w : World} {base : Nat} {spare : Nat → Bool} {held : Bool} {t : TypeId} {s : ByteArray} (ht : P.underlying t = some .string) (hs : s.size ≤ maxLen) : DataW.trod enc P w base spare held 1 t [.string s] = some (.lit (.string s.data.toList), []) := by
 simp [DataW.trod, ht, hs]
theorem laidOut : laidOutB Try.prog = true := by kernel_rfl
def IsRow (k : IntKind) (w : World) (a : Option Addr) (len cap : Nat) (zs : List Int) : Prop :=
 (a = none ∧ len = 0 ∧ cap = 0 ∧ zs = []) ∨
 ∃ x, a = some x ∧ len ≤ cap ∧ cap ≤ maxLen ∧ zs.length = cap ∧ (∀ i, i < zs.length → w.cell? (x.add i) = some (.int k (zs.getD i 0))) ∧ ∀ n ∈ zs, (Lit.int k n).wf = true
set_option maxRecDepth 100000 in
theorem lifted (os : Os) (started : os.Started) (H : Type) (enc : TypeId × Value → H) :
  ReturnsInHanded {} Try.checked os 5 .any (Rows.fnHullsSpec.pre6 enc Try.prog Try.f5 Rows.fnHullsRow.domain false) (Rows.fnHullsSpec.post enc Try.prog Try.f5 false true false false) := by
 refine returnsInHanded_of_change_sized (C := Try.checked) own started (by kernel_rfl) Try.func5
  (ChangeSpec.witness6 (enc := enc) (C := Try.checked) false ⟨#[], #[.slice none 0 0], []⟩ 8 (by kernel_rfl) (by kernel_rfl) (by kernel_rfl) (by kernel_rfl)) ?_
 intro W base args ds gs before hval0 hW hcnd hsz0 _
 have hsz : (DataW.weightsEach Try.prog (Try.f5.params.toList ++ Rows.fnHullsSpec.plain.varTypes Try.prog) (ds ++ gs)).all (· ≤ reachBytes) = true := hsz0
 have hval : ∀ (j : Nat) t v, Try.f5.params[j]? = some t → args[j]? = some v → Value.okWide Try.prog W .any base t v := hval0
 have hW' := hW
 obtain ⟨p, q, hA0, hV, rfl, hfz, hnd⟩ := hW
 have hA : DataW.TrodAll enc Try.prog W 0 (fun _ => true) true Try.f5.params.toList args.toList ds p := hA0
 rw [Try.params5] at hA hval hsz
 obtain ⟨v0, vs0, d0, ds0, p0, q0, hargs, rfl, rfl, h0, r0⟩ := trodAll_cons hA
 obtain ⟨rfl, rfl, rfl⟩ := trodAll_nil r0
 obtain rfl : args = #[v0] := by cases args; simp_all
 obtain ⟨rfl, rfl⟩ := trodVars_none hV
 obtain ⟨a0, len0, cap0, rfl⟩ := okWide_slice Try.underlying22 (hval 0 22 v0 rfl rfl)
 have k0 := h0
 have lt0 : ∀ x ∈ p0, x.block < W.heap.size := by obtain ⟨m, hm⟩ := k0; exact DataW.trod_lt m _ _ _ hm
 obtain ⟨z0, w0⟩ : ∃ zs, IsRow .u8 W a0 len0 cap0 zs := by
  obtain ⟨fuel, hf⟩ := h0
  rcases open_ints Try.underlying22 Try.underlying5 (by kernel_rfl) hf with ⟨hcs, _⟩ | ⟨x, l, c, zs, hcs, _, hl, hm, hz, _, hcell, hwz⟩
  ·simp [Value.cells] at hcs
   obtain ⟨rfl, rfl, rfl⟩ := hcs
   exact ⟨[], .inl ⟨rfl, rfl, rfl, rfl⟩⟩
  ·simp [Value.cells] at hcs
   obtain ⟨rfl, rfl, rfl⟩ := hcs
   exact ⟨zs, .inr ⟨_, rfl, hl, hm, by simpa using hz, hcell, hwz⟩⟩
 obtain ⟨l0, rfl, hr0, hm0, hw0, hc0⟩ := Go.Proofs.YtckkfjdkaimmhaaW.PrintWords.ReadsInt.ofRowC w0
 clear hA0 hval0 hsz0 hsz
 obtain ⟨k, hP⟩ := Pure.FnHulls l0 (Nat.le_trans hm0 (by decide)) hw0
 refine (PX.laws_FnHulls.calls k _ _ l0 true W (Go.Proofs.YtckkfjdkaimmhaaW.PrintWords.Kd.C_of_reads (d := (0 : Int)) (h1 := fun _ => rfl) hr0) hc0 hP rfl).mono fun e W' ⟨he, bel⟩ => ?_
 subst he
 exact ⟨_, rfl, _, _, _, [], _, [], hW', trodAll_mk1 (shut_bool Try.underlying4 _), (trodAll_cons_mk (Below.trod laidOut (by kernel_rfl) (of_decide_eq_true (by kernel_rfl)) k0 bel lt0) trodAll_mk0), rfl, bel.frame _, fun h => by cases h⟩
theorem over : Rows.fnHullsRow.holds Try.pinned (OpenSpec.ofChange Rows.fnHullsSpec) :=
 OpenClaim.holds_of_wide 5 Try.f5 rfl rfl rfl rfl rfl rfl rfl ⟨rfl, rfl, rfl, rfl, rfl⟩ rfl rfl rfl rfl rfl (by kernel_rfl) Try.func5 (by kernel_rfl)
  (of_decide_eq_true (by kernel_rfl)) (by unfold Func.isWrapper; first | (rw [if_pos (by decide +kernel)]; kernel_rfl) | (rw [if_neg (by decide +kernel)]; exact ⟨rfl, rfl⟩))
  (fun os started H enc _ => lifted os started H enc)
theorem proved : Rows.FnHullsSaid := over
#print axioms proved
end Go.Proofs.Ytckkfjdkaimmhaa.fnHulls
namespace Go.Proofs.Ytckkfjdkaimmhaa
theorem fnHulls_holds : Rows.FnHullsSaid := fnHulls.proved
end Go.Proofs.Ytckkfjdkaimmhaa
