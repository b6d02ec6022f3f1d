/- A part of proofs about signs and points: what some functions answer, and that their calls answer so. No condition. -/
import Derived.Test.YtckkfjdkaimmhaaProg
import Derived.BigFrame
import Derived.Laws.Cover3
import Derived.Laws.IdiomStrings
import Derived.LoopTactic
import Derived.Test.YtckkfjdkaimmhaaV1
import Derived.Test.YtckkfjdkaimmhaaBgcxijk1
set_option linter.unusedVariables false
set_option linter.unusedSimpArgs false
namespace Go.Proofs.Ytckkfjdkaimmhaa.M
open Go.RowKit Go.Proofs.YtckkfjdkaimmhaaW.PrintWords Go.Proofs.Ytckkfjdkaimmhaa.PX Go.Proofs.Ytckkfjdkaimmhaa.G
def brk (n : Nat) (t : ByteArray) (x a b c d : Nat) : Bool := decide (chi n t x a b * chi n t x c d = chi n t x a d * chi n t x b c) && decide (chi n t x a d * chi n t x b c = -chi n t x a c * chi n t x b d)
theorem small_mul {x y : Int} (hx : x = 1 ∨ x = -1 ∨ x = 0) (hy : y = 1 ∨ y = -1 ∨ y = 0) : wrap64 (x * y) = x * y := by
  rcases hx with rfl | rfl | rfl <;> rcases hy with rfl | rfl | rfl <;> decide +kernel
theorem small_neg {x : Int} (hx : x = 1 ∨ x = -1 ∨ x = 0) : wrap64 (-x) = -x ∧ (-x = 1 ∨ -x = -1 ∨ -x = 0) := by
  rcases hx with rfl | rfl | rfl
  · exact ⟨by decide +kernel, by omega⟩
  · exact ⟨by decide +kernel, by omega⟩
  · exact ⟨by decide +kernel, by omega⟩
theorem brk_end (n : Nat) (t : ByteArray) (x a b c d : Nat) : (if wrap64 (chi n t x a b * chi n t x c d) = wrap64 (chi n t x a d * chi n t x b c) then (some (wrap64 (chi n t x a d * chi n t x b c) == wrap64 (wrap64 (-chi n t x a c) * chi n t x b d))) else some false) = some (brk n t x a b c d) := by
  have h := chi_three n t
  rw [small_mul (h x a b) (h x c d), small_mul (h x a d) (h x b c), (small_neg (h x a c)).1, small_mul (small_neg (h x a c)).2 (h x b d)]
  unfold brk
  by_cases e : chi n t x a b * chi n t x c d = chi n t x a d * chi n t x b c
  · rw [if_pos e, decide_eq_true e, Bool.true_and]
    rfl
  · rw [if_neg e, decide_eq_false e, Bool.false_and]
theorem impl_breaks (n : Nat) (t : ByteArray) {x a b c d : Nat} (hx : x < 7) (ha : a < 7) (hb : b < 7) (hc : c < 7) (hd : d < 7) : impl_chi_breaks.f (tblL n t) (x : Int) (a : Int) (b : Int) (c : Int) (d : Int) = some (brk n t x a b c d) := by
  unfold impl_chi_breaks.f
  rw [if_pos (by omega), if_pos (by omega), if_pos (by omega), if_pos (by omega), if_pos (by omega), if_pos (by omega), if_pos (by omega), if_pos (by omega), if_pos (by omega), if_pos (by omega)]
  rw [tbl_rd n t x a b hx ha hb, tbl_rd n t x c d hx hc hd, tbl_rd n t x a d hx ha hd, tbl_rd n t x b c hx hb hc, tbl_rd n t x a c hx ha hc, tbl_rd n t x b d hx hb hd]
  exact brk_end n t x a b c d
theorem spec_breaks {n : Nat} {t : ByteArray} (h : areOk n t = true) {x a b c d : Nat} (hx : x < n) (ha : a < n) (hb : b < n) (hc : c < n) (hd : d < n) (e : [x, a, b, c, d].Nodup) :
    Ev (fun k => spec_l4Breaks.f k (n : Int) t (x : Int) (a : Int) (b : Int) (c : Int) (d : Int)) (brk n t x a b c d) := by
  simp only [List.nodup_cons, List.mem_cons, List.not_mem_nil, or_false, not_or, not_false_eq_true, List.nodup_nil, and_true] at e
  obtain ⟨⟨e1, e2, e3, e4⟩, ⟨e5, e6, e7⟩, ⟨e8, e9⟩, e10⟩ := e
  unfold spec_l4Breaks.f
  refine Ev.bind (l3At_ev h hx ha hb e1 e5 e2) (Ev.bind (l3At_ev h hx hc hd e3 e10 e4) (Ev.bind (l3At_ev h hx ha hd e1 e7 e4) (Ev.bind (l3At_ev h hx hb hc e2 e8 e3) (Ev.bind (l3At_ev h hx ha hc e1 e6 e3) (Ev.bind (l3At_ev h hx hb hd e2 e9 e4) ?_)))))
  have := brk_end n t x a b c d
  simp only [this]
  exact Ev.now _
abbrev Q4 := Nat × Nat × Nat × Nat
def brkQ (n : Nat) (t : ByteArray) (x : Nat) (q : Q4) : Option (List Int) := if brk n t x q.1 q.2.1 q.2.2.1 q.2.2.2 then some [(x : Int), (q.1 : Int), (q.2.1 : Int), (q.2.2.1 : Int), (q.2.2.2 : Int)] else none
def srch (n : Nat) (t : ByteArray) (x : Nat) (l : List Q4) : Option (List Int) := l.findSome? (brkQ n t x)
def After (z : Option (List Int)) (E : Prop) (r : List Int) : Prop := match z with | some v => r = v | none => E
theorem srch_append (n : Nat) (t : ByteArray) (x : Nat) (a b : List Q4) : srch n t x (a ++ b) = (srch n t x a).or (srch n t x b) := List.findSome?_append ..
theorem after_append {n : Nat} {t : ByteArray} {x : Nat} {a b : List Q4} {E : Prop} {r : List Int} (h : After (srch n t x (a ++ b)) E r) : After (srch n t x a) (After (srch n t x b) E r) r := by
  rw [srch_append] at h
  cases ha : srch n t x a with
  | some v => rw [ha] at h; exact h
  | none => rw [ha] at h; exact h
theorem after_mono {z : Option (List Int)} {E F : Prop} {r : List Int} (h : After z E r) (hEF : E → F) : After z F r := by
  cases z with
  | some v => exact h
  | none => exact hEF h
def qs4 (l : List Nat) (i j k m d : Nat) : List Q4 := (List.range' m d).map fun m => (l.getD i 0, l.getD j 0, l.getD k 0, l.getD m 0)
def qs3 (l : List Nat) (i j k d : Nat) : List Q4 := (List.range' k d).flatMap fun k => qs4 l i j k (k + 1) (l.length - (k + 1))
def qs2 (l : List Nat) (i j d : Nat) : List Q4 := (List.range' j d).flatMap fun j => qs3 l i j (j + 1) (l.length - (j + 1))
def qs1 (l : List Nat) (i d : Nat) : List Q4 := (List.range' i d).flatMap fun i => qs2 l i (i + 1) (l.length - (i + 1))
section
variable {n : Nat} {t : ByteArray} (h : areOk n t = true) {x : Nat} (hx : x < n) {l : List Nat} (hl : l.length ≤ 7) (hm : ∀ y ∈ l, y < n) (hd : (x :: l).Nodup)
include h hx hl hm hd
theorem sb4 {i j k : Nat} (hij : i < j) (hjk : j < k) (hk : k < l.length) (r : List Int) (d : Nat) : ∀ m : Nat, k < m → m + d = l.length →
    After (srch n t x (qs4 l i j k m d)) (Ev (fun q => spec_FirstBreak.l3 q (x : Int) (up l) (i : Int) (j : Int) ((k + 1 : Nat) : Int) (n : Int) t) r) r → Ev (fun q => spec_FirstBreak.l4 q (x : Int) (up l) (i : Int) (j : Int) (k : Int) (m : Int) (n : Int) t) r := by
  induction d with
  | zero =>
    intro m hm1 hmd hr
    refine ev_step ?_
    simp only [spec_FirstBreak.l4, up_length]
    refine ev_neg (by omega) ?_
    rw [wrap_id (by omega) (by omega)]
    exact hr
  | succ d ih =>
    intro m hm1 hmd hr
    refine ev_step ?_
    simp only [spec_FirstBreak.l4, up_length]
    refine ev_pos (by omega) (ev_pos (by omega) (ev_pos (by omega) (ev_pos (by omega) (ev_pos (by omega) (ev_pos (by omega) (ev_pos (by omega) (ev_pos (by omega) ?_)))))))
    rw [wrap_id (by omega) (by omega), rd_up (i := i) (by omega), rd_up (i := j) (by omega), rd_up (i := k) hk, rd_up (i := m) (by omega)]
    have gi : ∀ {z : Nat} (hz : z < l.length), l.getD z 0 = l[z] := fun hz => by rw [List.getD_eq_getElem?_getD, List.getElem?_eq_getElem hz]; rfl
    have lt : ∀ {z : Nat} (hz : z < l.length), l.getD z 0 < n := fun hz => by rw [gi hz]; exact hm _ (List.getElem_mem _)
    have ne : ∀ {a b : Nat} (ha : a < l.length) (hb : b < l.length), a < b → l.getD a 0 ≠ l.getD b 0 := fun {a b} ha hb hab => by
      rw [gi ha, gi hb]
      exact List.pairwise_iff_getElem.1 (List.nodup_cons.1 hd).2 a b ha hb hab
    have nx : ∀ {z : Nat} (hz : z < l.length), x ≠ l.getD z 0 := fun hz e => by
      rw [gi hz] at e
      exact (List.nodup_cons.1 hd).1 (e ▸ List.getElem_mem _)
    have hi' : i < l.length := by omega
    have hj' : j < l.length := by omega
    have hm' : m < l.length := by omega
    refine Ev.bind (spec_breaks h hx (lt hi') (lt hj') (lt hk) (lt hm') ?_) ?_
    · simp only [List.nodup_cons, List.mem_cons, List.not_mem_nil, or_false, not_or, not_false_eq_true, List.nodup_nil, and_true]
      exact ⟨⟨nx hi', nx hj', nx hk, nx hm'⟩, ⟨ne hi' hj' hij, ne hi' hk (by omega), ne hi' hm' (by omega)⟩, ⟨ne hj' hk hjk, ne hj' hm' (by omega)⟩, ne hk hm' hm1⟩
    have e : qs4 l i j k m (d + 1) = [(l.getD i 0, l.getD j 0, l.getD k 0, l.getD m 0)] ++ qs4 l i j k (m + 1) d := by rw [qs4, List.range'_succ, List.map_cons]; rfl
    rw [e] at hr
    have hr := after_append hr
    have es : srch n t x [(l.getD i 0, l.getD j 0, l.getD k 0, l.getD m 0)] = brkQ n t x (l.getD i 0, l.getD j 0, l.getD k 0, l.getD m 0) := by
      unfold srch
      rw [List.findSome?_cons]
      cases brkQ n t x (l.getD i 0, l.getD j 0, l.getD k 0, l.getD m 0) <;> rfl
    rw [es, brkQ] at hr
    by_cases hb : brk n t x (l.getD i 0) (l.getD j 0) (l.getD k 0) (l.getD m 0) = true
    · rw [if_pos hb] at hr
      exact ev_pos hb (ev_cast (Ev.now _) (Eq.symm hr))
    · rw [if_neg hb] at hr
      exact ev_neg hb (ih (m + 1) (by omega) (by omega) hr)
theorem sb3 {i j : Nat} (hij : i < j) (hj : j < l.length) (r : List Int) (d : Nat) : ∀ k : Nat, j < k → k + d = l.length →
    After (srch n t x (qs3 l i j k d)) (Ev (fun q => spec_FirstBreak.l2 q (x : Int) (up l) (i : Int) ((j + 1 : Nat) : Int) (n : Int) t) r) r → Ev (fun q => spec_FirstBreak.l3 q (x : Int) (up l) (i : Int) (j : Int) (k : Int) (n : Int) t) r := by
  induction d with
  | zero =>
    intro k hk hkd hr
    refine ev_step ?_
    simp only [spec_FirstBreak.l3, up_length]
    refine ev_neg (by omega) ?_
    rw [wrap_id (by omega) (by omega)]
    exact hr
  | succ d ih =>
    intro k hk hkd hr
    refine ev_step ?_
    simp only [spec_FirstBreak.l3, up_length]
    refine ev_pos (by omega) ?_
    rw [wrap_id (by omega) (by omega)]
    have e : qs3 l i j k (d + 1) = qs4 l i j k (k + 1) (l.length - (k + 1)) ++ qs3 l i j (k + 1) d := by rw [qs3, List.range'_succ, List.flatMap_cons]; rfl
    rw [e] at hr
    exact sb4 h hx hl hm hd hij hk (by omega) r (l.length - (k + 1)) (k + 1) (by omega) (by omega) (after_mono (after_append hr) (ih (k + 1) (by omega) (by omega)))
theorem sb2 {i : Nat} (hi : i < l.length) (r : List Int) (d : Nat) : ∀ j : Nat, i < j → j + d = l.length →
    After (srch n t x (qs2 l i j d)) (Ev (fun q => spec_FirstBreak.l1 q (x : Int) (up l) ((i + 1 : Nat) : Int) (n : Int) t) r) r → Ev (fun q => spec_FirstBreak.l2 q (x : Int) (up l) (i : Int) (j : Int) (n : Int) t) r := by
  induction d with
  | zero =>
    intro j hj hjd hr
    refine ev_step ?_
    simp only [spec_FirstBreak.l2, up_length]
    refine ev_neg (by omega) ?_
    rw [wrap_id (by omega) (by omega)]
    exact hr
  | succ d ih =>
    intro j hj hjd hr
    refine ev_step ?_
    simp only [spec_FirstBreak.l2, up_length]
    refine ev_pos (by omega) ?_
    rw [wrap_id (by omega) (by omega)]
    have e : qs2 l i j (d + 1) = qs3 l i j (j + 1) (l.length - (j + 1)) ++ qs2 l i (j + 1) d := by rw [qs2, List.range'_succ, List.flatMap_cons]; rfl
    rw [e] at hr
    exact sb3 h hx hl hm hd hj (by omega) r (l.length - (j + 1)) (j + 1) (by omega) (by omega) (after_mono (after_append hr) (ih (j + 1) (by omega) (by omega)))
theorem sb1 (r : List Int) (d : Nat) : ∀ i : Nat, i + d = l.length →
    After (srch n t x (qs1 l i d)) (Ev (fun q => spec_FirstBreak.l0 q ((x + 1 : Nat) : Int) (n : Int) t) r) r → Ev (fun q => spec_FirstBreak.l1 q (x : Int) (up l) (i : Int) (n : Int) t) r := by
  induction d with
  | zero =>
    intro i hid hr
    have hn7 : n ≤ 7 := by obtain ⟨⟨h0, h1⟩, _, _⟩ := (areOk_iff _ _).1 h; omega
    refine ev_step ?_
    simp only [spec_FirstBreak.l1, up_length]
    refine ev_neg (by omega) ?_
    rw [wrap_id (by omega) (by omega)]
    exact hr
  | succ d ih =>
    intro i hid hr
    refine ev_step ?_
    simp only [spec_FirstBreak.l1, up_length]
    refine ev_pos (by omega) ?_
    rw [wrap_id (by omega) (by omega)]
    have e : qs1 l i (d + 1) = qs2 l i (i + 1) (l.length - (i + 1)) ++ qs1 l (i + 1) d := by rw [qs1, List.range'_succ, List.flatMap_cons]; rfl
    rw [e] at hr
    exact sb2 h hx hl hm hd (by omega) r (l.length - (i + 1)) (i + 1) (by omega) (by omega) (after_mono (after_append hr) (ih (i + 1) (by omega)))
end
def brkFrom (n : Nat) (t : ByteArray) : Nat → Nat → List Int
  | _, 0 => []
  | x, d + 1 => match srch n t x (qs1 (othersN n x) 0 (othersN n x).length) with | some v => v | none => brkFrom n t (x + 1) d
def brkA (n : Int) (t : ByteArray) : List Int := if areOk n t = true then brkFrom n.toNat t 0 n.toNat else []
theorem others_nodup {n x : Nat} (h : (othersN n x).Nodup) : (x :: othersN n x).Nodup := List.nodup_cons.2 ⟨by simp [othersN], h⟩
theorem spec_break_loop {n : Nat} {t : ByteArray} (h : areOk n t = true) (hs : t.size ≤ 9223372036854775807) (d : Nat) : ∀ x : Nat, x + d = n → Ev (fun q => spec_FirstBreak.l0 q (x : Int) (n : Int) t) (brkFrom n t x d) := by
  obtain ⟨⟨h0, h1⟩, _, _⟩ := (areOk_iff _ _).1 h
  induction d with
  | zero =>
    intro x hx
    refine ev_step ?_
    simp only [spec_FirstBreak.l0]
    refine ev_neg (by omega) (ev_step ?_)
    simp only [spec_FirstBreak.j1]
    exact ev_neg (by decide) (Ev.now _)
  | succ d ih =>
    intro x hx
    refine ev_step ?_
    simp only [spec_FirstBreak.l0]
    refine ev_pos (by omega) (Ev.bind (spec_are n t hs) (ev_step ?_))
    simp only [spec_FirstBreak.j1]
    obtain ⟨f1, f2, f3⟩ := others_facts (n := n) (x := x) (by omega) (by omega) (by omega)
    refine ev_pos h (Ev.bind (others_ev (by omega) (by omega)) ?_)
    refine sb1 (x := x) (l := othersN n x) h (by omega) (by rw [f1]; omega) f3 (others_nodup f2) _ (othersN n x).length 0 (by omega) ?_
    rw [brkFrom]
    cases srch n t x (qs1 (othersN n x) 0 (othersN n x).length) with
    | some v => exact Eq.refl v
    | none => exact ih (x + 1) (by omega)
theorem spec_break (n : Int) (t : ByteArray) (hs : t.size ≤ 9223372036854775807) : Ev (fun k => spec_FirstBreak.f k n t) (brkA n t) := by
  unfold spec_FirstBreak.f brkA
  by_cases h : areOk n t = true
  · rw [if_pos h]
    obtain ⟨⟨h0, h1⟩, _, _⟩ := (areOk_iff _ _).1 h
    obtain ⟨N, rfl⟩ : ∃ N : Nat, n = (N : Int) := Int.eq_ofNat_of_zero_le (by omega)
    exact spec_break_loop h hs N 0 (by omega)
  · rw [if_neg h]
    refine ev_step ?_
    simp only [spec_FirstBreak.l0]
    by_cases h0 : 0 < n
    · refine ev_pos h0 (Ev.bind (spec_are n t hs) (ev_step ?_))
      simp only [spec_FirstBreak.j1]
      exact ev_neg h (Ev.now _)
    · refine ev_neg h0 (ev_step ?_)
      simp only [spec_FirstBreak.j1]
      exact ev_neg (by decide) (Ev.now _)
def quadQ (n : Nat) : List Q4 := (List.range n).flatMap fun i => (List.range n).flatMap fun j => (List.range n).flatMap fun k => (List.range n).flatMap fun m => if i < j ∧ j < k ∧ k < m then [(i, j, k, m)] else []
def toS4 (q : Q4) : S91 := ⟨(q.1 : Int), (q.2.1 : Int), (q.2.2.1 : Int), (q.2.2.2 : Int)⟩
theorem quads_closed : (impl_quadsOf.f 300 3 = some ((quadQ 3).map toS4) ∧ impl_quadsOf.f 300 4 = some ((quadQ 4).map toS4) ∧ impl_quadsOf.f 300 5 = some ((quadQ 5).map toS4)) ∧ impl_quadsOf.f 300 6 = some ((quadQ 6).map toS4) ∧ impl_quadsOf.f 300 7 = some ((quadQ 7).map toS4) := by
  refine ⟨⟨?_, ?_, ?_⟩, ?_, ?_⟩ <;> kernel_rfl
theorem quads_ev {n : Nat} (h0 : 3 ≤ n) (h1 : n ≤ 7) : Ev (fun k => impl_quadsOf.f k (n : Int)) ((quadQ n).map toS4) := by
  obtain ⟨⟨h3, h4, h5⟩, h6, h7⟩ := quads_closed
  refine five (p := fun n => Ev (fun k => impl_quadsOf.f k (n : Int)) ((quadQ n).map toS4)) h0 h1 ?_ ?_ ?_ ?_ ?_
  · exact Ev.of (impl_quadsOf.mono 3) h3
  · exact Ev.of (impl_quadsOf.mono 4) h4
  · exact Ev.of (impl_quadsOf.mono 5) h5
  · exact Ev.of (impl_quadsOf.mono 6) h6
  · exact Ev.of (impl_quadsOf.mono 7) h7
def noX (x : Nat) (q : Q4) : Bool := decide (q.1 ≠ x) && decide (q.2.1 ≠ x) && decide (q.2.2.1 ≠ x) && decide (q.2.2.2 ≠ x)
def chkQ (n : Nat) : Bool := ((List.range n).all fun x => decide ((quadQ n).filter (noX x) = qs1 (othersN n x) 0 (othersN n x).length)) && ((quadQ n).all fun q => decide (q.1 < 7) && decide (q.2.1 < 7) && decide (q.2.2.1 < 7) && decide (q.2.2.2 < 7)) && decide ((quadQ n).length ≤ 100)
theorem chkQ_ok {n : Nat} (h0 : 3 ≤ n) (h1 : n ≤ 7) : chkQ n = true := by
  refine five (p := fun n => chkQ n = true) h0 h1 ?_ ?_ ?_ ?_ ?_ <;> decide +kernel
theorem rd_toS4 {qs : List Q4} {i : Nat} (h : i < qs.length) : rd_T91 (qs.map toS4) (i : Int) = toS4 qs[i] := by
  unfold rd_T91
  rw [Int.toNat_natCast, List.getD_eq_getElem?_getD, List.getElem?_map, List.getElem?_eq_getElem h]
  rfl
theorem ib1 {n : Nat} {t : ByteArray} {x : Nat} (hx : x < 7) (qs : List Q4) (hq : ∀ q ∈ qs, q.1 < 7 ∧ q.2.1 < 7 ∧ q.2.2.1 < 7 ∧ q.2.2.2 < 7) (hl : qs.length ≤ 100) (r : List Int) (d : Nat) : ∀ i : Nat, i + d = qs.length →
    After (srch n t x ((qs.drop i).filter (noX x))) (Ev (fun q => impl_chi_firstBreak.l0 q (tblL n t) ((x + 1 : Nat) : Int)) r) r → Ev (fun q => impl_chi_firstBreak.l1 q (tblL n t) (x : Int) (qs.map toS4) ((qs.map toS4).length : Int) (i : Int)) r := by
  induction d with
  | zero =>
    intro i hi hr
    rw [List.drop_of_length_le (by omega)] at hr
    refine ev_step ?_
    simp only [impl_chi_firstBreak.l1, List.length_map]
    refine ev_neg (by omega) ?_
    rw [wrap_id (by omega) (by omega)]
    exact hr
  | succ d ih =>
    intro i hi hr
    have hlt : i < qs.length := by omega
    rw [List.drop_eq_getElem_cons hlt, List.filter_cons] at hr
    have hn := ih (i + 1) (by omega)
    obtain ⟨b0, b1, b2, b3⟩ := hq _ (List.getElem_mem hlt)
    refine ev_step ?_
    simp only [impl_chi_firstBreak.l1, rd_toS4 hlt]
    generalize qs[i] = q at *
    obtain ⟨a, b, c, e⟩ := q
    simp only [toS4] at *
    refine ev_pos (by rw [List.length_map]; omega) (ev_pos (by omega) (ev_pos (by rw [List.length_map]; omega) ?_))
    rw [wrap_id (by omega) (by omega)]
    by_cases h0 : a = x
    · rw [if_neg (by simp [noX, h0])] at hr
      exact ev_pos (by omega) (hn hr)
    refine ev_neg (by omega) ?_
    by_cases h1 : b = x
    · rw [if_neg (by simp [noX, h1])] at hr
      exact ev_pos (by omega) (hn hr)
    refine ev_neg (by omega) ?_
    by_cases h2 : c = x
    · rw [if_neg (by simp [noX, h2])] at hr
      exact ev_pos (by omega) (hn hr)
    refine ev_neg (by omega) ?_
    by_cases h3 : e = x
    · rw [if_neg (by simp [noX, h3])] at hr
      exact ev_pos (by omega) (hn hr)
    refine ev_neg (by omega) (ev_call (impl_breaks n t hx b0 b1 b2 b3) ?_)
    rw [if_pos (by simp [noX, h0, h1, h2, h3])] at hr
    have hr := after_append (a := [(a, b, c, e)]) hr
    have es : srch n t x [(a, b, c, e)] = brkQ n t x (a, b, c, e) := by
      unfold srch
      rw [List.findSome?_cons]
      cases brkQ n t x (a, b, c, e) <;> rfl
    rw [es, brkQ] at hr
    by_cases hb : brk n t x a b c e = true
    · rw [if_pos hb] at hr
      exact ev_pos hb (ev_cast (Ev.now _) (Eq.symm hr))
    · rw [if_neg hb] at hr
      exact ev_neg hb (hn hr)
theorem impl_break_loop {n : Nat} {t : ByteArray} (h0 : 3 ≤ n) (h1 : n ≤ 7) (d : Nat) : ∀ x : Nat, x + d = n → Ev (fun q => impl_chi_firstBreak.l0 q (tblL n t) (x : Int)) (brkFrom n t x d) := by
  have hc := chkQ_ok h0 h1
  simp only [chkQ, Bool.and_eq_true, List.all_eq_true, List.mem_range, decide_eq_true_eq] at hc
  obtain ⟨⟨hc1, hc2⟩, hc3⟩ := hc
  induction d with
  | zero =>
    intro x hx
    refine ev_step ?_
    simp only [impl_chi_firstBreak.l0, tbl_n]
    exact ev_neg (by omega) (Ev.now _)
  | succ d ih =>
    intro x hx
    refine ev_step ?_
    simp only [impl_chi_firstBreak.l0, tbl_n]
    refine ev_pos (by omega) (Ev.bind (quads_ev h0 h1) ?_)
    refine ib1 (by omega) (quadQ n) (fun q hq => ?_) hc3 _ (quadQ n).length 0 (by omega) ?_
    · have := hc2 q hq
      exact ⟨this.1.1.1, this.1.1.2, this.1.2, this.2⟩
    rw [List.drop_zero, hc1 x (by omega), brkFrom]
    cases srch n t x (qs1 (othersN n x) 0 (othersN n x).length) with
    | some v => exact Eq.refl v
    | none => exact ih (x + 1) (by omega)
theorem impl_break (n : Int) (t : ByteArray) (hs : t.size ≤ 9223372036854775807) : Ev (fun k => impl_FirstBreak.f k n t) (brkA n t) := by
  unfold impl_FirstBreak.f brkA
  refine Ev.bind (impl_are n t hs) ?_
  by_cases h : areOk n t = true
  · rw [if_pos h]
    obtain ⟨⟨h0, h1⟩, _, _⟩ := (areOk_iff _ _).1 h
    obtain ⟨N, rfl⟩ : ∃ N : Nat, n = (N : Int) := Int.eq_ofNat_of_zero_le (by omega)
    exact ev_pos h (Ev.bind (tableOf_ev h) (ev_pos (tblL_length _ _) (Ev.bind (impl_break_loop (by omega) (by omega) N 0 (by omega)) (Ev.now _))))
  · rw [if_neg h]
    exact ev_neg h (Ev.now _)
end Go.Proofs.Ytckkfjdkaimmhaa.M
namespace Go.Proofs.Ytckkfjdkaimmhaa.G
open Go.RowKit Go.Proofs.YtckkfjdkaimmhaaW.PrintWords Go.Proofs.YtckkfjdkaimmhaaW.PrintLast Go.Proofs.YtckkfjdkaimmhaaW.PrintMore Go.Proofs.Ytckkfjdkaimmhaa.PX Go.Proofs.Ytckkfjdkaimmhaa.M
set_option linter.unusedVariables false
set_option linter.unusedSimpArgs false
def matOk (n : Int) (t : ByteArray) : Bool := areOk n t && (brkA n t).isEmpty
def impl_IsMatroid.f (n : Int) (t : ByteArray) : Option Bool := if t.size ≤ 9223372036854775807 then some (matOk n t) else none
theorem both_at {α β : Type} {f : Nat → Option α} {g : Nat → Option β} {a : α} {b : β} (h1 : Ev f a) (h2 : Ev g b) : ∃ k, f k = some a ∧ g k = some b := by
 obtain ⟨K1, e1⟩ := h1
 obtain ⟨K2, e2⟩ := h2
 exact ⟨K1 + K2, e1 _ (by omega), e2 _ (by omega)⟩
theorem goesW_ {P : Program} {ops : Array Oper} {Q : Exit → Act → World → Prop} {rest : List Oper} {oi : Oper} {a : Act} {w : World} (N : Option Tmp) (hd : oi.dst = N) (hw : Region.wanted oi (yielded ops a.tmps) = true) {f : FuncId} {fn : Func} {az : Array Operand} {ts : Array TypeId} (hf : P.funcs[f]? = some fn) (hname : (fn.name == "runtime.NumGoroutine") = false) (hb : fn.body.isSome = true) (args : Array Value)
  (hop : oi.op = .call { callee := .value (.func f), args := az, argTypes := ts }) (hargs : az.map a.eval = args)
  (h : Calls P f args w fun e w' => ∃ v, e = .returned v ∧ wpList P ops Q rest (a.put N v) w') : wpList P ops Q (oi :: rest) a w := by
 refine BigFrame.wpList_want hw fun K hK => ?_
 have he := enters_ hf hname hb args w
 have hrun : (execOp a.eval oi).run P w = .ok (.enter f args) w := by
  unfold execOp
  simp [hop, resolve, Deferred.ofValue, invoke, Act.eval, hargs, he]
 unfold Oper.wp
 rw [hrun, Oper.upon_enter]
 refine h.mono fun e w'' hh => ?_
 obtain ⟨v, rfl, hk⟩ := hh
 subst hd
 exact hK _ _ hk
set_option maxHeartbeats 8000000 in
set_option maxRecDepth 100000 in
theorem impl_IsMatroid.calls (a0_0 : Int) (a0_1 : ByteArray) (r : Bool) (w : World) (h : impl_IsMatroid.f a0_0 a0_1 = some r) :
  Calls Try.prog 21 #[.agg #[.int .i64 a0_0, .string a0_1]] w fun e w' => e = .returned (.bool r) ∧ Below w.heap.size w w' := by
 unfold impl_IsMatroid.f at h
 by_cases hs : a0_1.size ≤ 9223372036854775807
 ·rw [if_pos hs] at h
  obtain ⟨k, h1, h2⟩ := both_at (impl_are a0_0 a0_1 hs) (impl_break a0_0 a0_1 hs)
  obtain rfl := Option.some.inj h
  clear h hs
  unfold matOk
  generalize areOk a0_0 a0_1 = b at h1 ⊢
  generalize brkA a0_0 a0_1 = l at h2 ⊢
  have A2 := Aside0.mk h1
  have A6 := Aside0.mk h2
  clear h1 h2
  have hu26 := Try.underlying25
  have q38 : ∀ (w : World) (a : Option Addr) (l c : Nat), (binOp .eql 27 (.slice a l c) (.slice none 0 0)).run Try.prog w = .ok (.bool a.isNone) w := fun w a l c => by
   simp [binOp, run_equal_slice_nil w 27 3 a l c Try.underlying27]
  have HB := Aside0.mk (Below.refl w.heap.size w)
  cases b with
  | false =>
   go_enter Try.func21, Try.ntmps21
   go_wp2_with (first | ((with_reducible refine gate_dst (N := 1) rfl ?_); refine zBx (N := 1) #[.int .i64 a0_0, .string a0_1] 25 ?_; intro gb hg w7 hbox hb; have BK := Aside0.mk hbox; replace HB := zX hb; clear hb hbox hg; have hcz0 : w7.cell? ⟨gb, 0, none⟩ = some (.int .i64 a0_0) := (blk_cell BK.out 0).trans rfl; have hcz1 : w7.cell? ⟨gb, 1, none⟩ = some (.string a0_1) := (blk_cell BK.out 1).trans rfl; have hfz0 := blk_frozen BK.out 0; have hfz1 := blk_frozen BK.out 1) | ((with_reducible refine gate_callee (f := 82) rfl ?_); refine goesL_ (some 4) rfl rfl Try.func82 (by kernel_rfl) rfl #[.agg #[.int .i64 a0_0, .string a0_1]] rfl (by (try simp only [List.map_toArray, List.map_cons, List.map_nil]); first | done | rfl) ?_; (with_reducible refine (impl_AreSigns.calls k a0_0 a0_1 false _ A2.out).mono ?_); rintro e w9 ⟨rfl, hb⟩; refine ⟨_, rfl, ?_⟩; have n1_ := zX hb; clear HB; have HB := n1_; clear n1_; (try clear hb)))
   go_ret
   exact ⟨rfl, zB⟩
  | true =>
  cases l with
  | nil =>
   go_enter Try.func21, Try.ntmps21
   go_wp2_with (first | ((with_reducible refine gate_dst (N := 1) rfl ?_); refine zBx (N := 1) #[.int .i64 a0_0, .string a0_1] 25 ?_; intro gb hg w7 hbox hb; have BK := Aside0.mk hbox; replace HB := zX hb; clear hb hbox hg; have hcz0 : w7.cell? ⟨gb, 0, none⟩ = some (.int .i64 a0_0) := (blk_cell BK.out 0).trans rfl; have hcz1 : w7.cell? ⟨gb, 1, none⟩ = some (.string a0_1) := (blk_cell BK.out 1).trans rfl; have hfz0 := blk_frozen BK.out 0; have hfz1 := blk_frozen BK.out 1) | ((with_reducible refine gate_callee (f := 82) rfl ?_); refine goesL_ (some 4) rfl rfl Try.func82 (by kernel_rfl) rfl #[.agg #[.int .i64 a0_0, .string a0_1]] rfl (by (try simp only [List.map_toArray, List.map_cons, List.map_nil]); first | done | rfl) ?_; (with_reducible refine (impl_AreSigns.calls k a0_0 a0_1 true _ A2.out).mono ?_); rintro e w9 ⟨rfl, hb⟩; refine ⟨_, rfl, ?_⟩; replace BK := zV BK.out hb; replace HB := zX hb; (try clear hb); have hdz0 : w9.cell? ⟨gb, 0, none⟩ = some (.int .i64 a0_0) := (blk_cell BK.out 0).trans rfl; have hdz1 : w9.cell? ⟨gb, 1, none⟩ = some (.string a0_1) := (blk_cell BK.out 1).trans rfl; have hfy0 := blk_frozen BK.out 0; have hfy1 := blk_frozen BK.out 1) | ((with_reducible refine gate_callee (f := 9) rfl ?_); refine goesW_ (some 7) rfl rfl Try.func9 (by kernel_rfl) rfl #[.agg #[.int .i64 a0_0, .string a0_1]] rfl (by (try simp only [List.map_toArray, List.map_cons, List.map_nil]); first | done | rfl) ?_; (with_reducible refine (impl_FirstBreak.callsN k a0_0 a0_1 [] _ A6.out).mono ?_); rintro e w11 ⟨v1, rfl, ⟨ho0, hn0⟩, hb⟩; refine ⟨_, rfl, ?_⟩; have n1_ := zX hb; clear HB; have HB := n1_; clear n1_; (try clear hb); obtain rfl := hn0 rfl; clear ho0))
   go_ret
   exact ⟨rfl, zB⟩
  | cons x_ xs_ =>
  go_enter Try.func21, Try.ntmps21
  go_wp2_with (first | ((with_reducible refine gate_dst (N := 1) rfl ?_); refine zBx (N := 1) #[.int .i64 a0_0, .string a0_1] 25 ?_; intro gb hg w7 hbox hb; have BK := Aside0.mk hbox; replace HB := zX hb; clear hb hbox hg; have hcz0 : w7.cell? ⟨gb, 0, none⟩ = some (.int .i64 a0_0) := (blk_cell BK.out 0).trans rfl; have hcz1 : w7.cell? ⟨gb, 1, none⟩ = some (.string a0_1) := (blk_cell BK.out 1).trans rfl; have hfz0 := blk_frozen BK.out 0; have hfz1 := blk_frozen BK.out 1) | ((with_reducible refine gate_callee (f := 82) rfl ?_); refine goesL_ (some 4) rfl rfl Try.func82 (by kernel_rfl) rfl #[.agg #[.int .i64 a0_0, .string a0_1]] rfl (by (try simp only [List.map_toArray, List.map_cons, List.map_nil]); first | done | rfl) ?_; (with_reducible refine (impl_AreSigns.calls k a0_0 a0_1 true _ A2.out).mono ?_); rintro e w9 ⟨rfl, hb⟩; refine ⟨_, rfl, ?_⟩; replace BK := zV BK.out hb; replace HB := zX hb; (try clear hb); have hdz0 : w9.cell? ⟨gb, 0, none⟩ = some (.int .i64 a0_0) := (blk_cell BK.out 0).trans rfl; have hdz1 : w9.cell? ⟨gb, 1, none⟩ = some (.string a0_1) := (blk_cell BK.out 1).trans rfl; have hfy0 := blk_frozen BK.out 0; have hfy1 := blk_frozen BK.out 1) | ((with_reducible refine gate_callee (f := 9) rfl ?_); refine goesW_ (some 7) rfl rfl Try.func9 (by kernel_rfl) rfl #[.agg #[.int .i64 a0_0, .string a0_1]] rfl (by (try simp only [List.map_toArray, List.map_cons, List.map_nil]); first | done | rfl) ?_; (with_reducible refine (impl_FirstBreak.callsN k a0_0 a0_1 (x_ :: xs_) _ A6.out).mono ?_); rintro e w11 ⟨v1, rfl, ⟨ho0, hn0⟩, hb⟩; refine ⟨_, rfl, ?_⟩; have n1_ := zX hb; clear HB; have HB := n1_; clear n1_; (try clear hb); obtain ⟨Ao_, co_, rfl⟩ := Kd.R_slice ho0; obtain ⟨ad_, ea_, _⟩ := Kd.at_int (Kd.R_reads' ho0).2.2 0 (by omega) (by simp only [List.length_cons]; omega); cases ea_; clear hn0 ho0))
  go_ret
  exact ⟨rfl, zB⟩
 rw [if_neg hs] at h
 cases h
end Go.Proofs.Ytckkfjdkaimmhaa.G
namespace Go.Proofs.Ytckkfjdkaimmhaa.G
open Go.RowKit Go.Proofs.YtckkfjdkaimmhaaW.PrintWords Go.Proofs.YtckkfjdkaimmhaaW.PrintLast Go.Proofs.YtckkfjdkaimmhaaW.PrintMore
set_option linter.unusedVariables false
set_option linter.unusedSimpArgs false
def oppB (c : UInt8) : UInt8 := if c = 43 then 45 else if c = 45 then 43 else c
def oppL (l : List UInt8) : List UInt8 := l.map oppB
def impl_opposite.f (t : ByteArray) : Option ByteArray := if t.size ≤ 1000 then some ⟨(oppL t.data.toList).toArray⟩ else none
def oppRow (l : List UInt8) (m i : Nat) : List Value := ((oppL (l.take i) ++ l.drop i).map fun c => Value.int .u8 (c.toNat : Int)) ++ List.replicate m (.int .u8 0)
theorem oppRow_length (l : List UInt8) (m i : Nat) (h : i ≤ l.length) : (oppRow l m i).length = l.length + m := by
 simp [oppRow, oppL]; omega
theorem oppRow_cut (l : List UInt8) (m i : Nat) (h : i < l.length) :
  oppRow l m i = ((oppL (l.take i)).map fun c => Value.int .u8 (c.toNat : Int)) ++ (Value.int .u8 (l[i].toNat : Int) :: ((l.drop (i + 1)).map (fun c => Value.int .u8 (c.toNat : Int)) ++ List.replicate m (.int .u8 0))) := by
 unfold oppRow
 rw [List.drop_eq_getElem_cons h]
 simp only [List.map_append, List.map_cons, List.append_assoc, List.cons_append]
theorem oppRow_cut' (l : List UInt8) (m i : Nat) (h : i < l.length) :
  oppRow l m (i + 1) = ((oppL (l.take i)).map fun c => Value.int .u8 (c.toNat : Int)) ++ (Value.int .u8 ((oppB l[i]).toNat : Int) :: ((l.drop (i + 1)).map (fun c => Value.int .u8 (c.toNat : Int)) ++ List.replicate m (.int .u8 0))) := by
 unfold oppRow oppL
 rw [List.take_succ_eq_append_getElem h]
 simp only [List.map_append, List.map_cons, List.map_nil, List.append_assoc, List.cons_append, List.nil_append]
theorem oppRow_pre (l : List UInt8) (i : Nat) (h : i < l.length) : ((oppL (l.take i)).map fun c => Value.int .u8 (c.toNat : Int)).length = i := by
 simp [oppL]; omega
theorem oppRow_get (l : List UInt8) (m i : Nat) (h : i < l.length) : (oppRow l m i)[i]? = some (.int .u8 (l[i].toNat : Int)) := by
 rw [oppRow_cut l m i h, List.getElem?_append_right (by rw [oppRow_pre l i h]; exact Nat.le_refl _), oppRow_pre l i h, Nat.sub_self]
 rfl
theorem oppRow_set (l : List UInt8) (m i : Nat) (h : i < l.length) : (oppRow l m i).set i (.int .u8 ((oppB l[i]).toNat : Int)) = oppRow l m (i + 1) := by
 rw [oppRow_cut l m i h, oppRow_cut' l m i h, List.set_append_right _ _ (by rw [oppRow_pre l i h]; exact Nat.le_refl _), oppRow_pre l i h, Nat.sub_self]
 rfl
theorem oppRow_same (l : List UInt8) (m i : Nat) (h : i < l.length) (hb : oppB l[i] = l[i]) : oppRow l m i = oppRow l m (i + 1) := by
 rw [oppRow_cut l m i h, oppRow_cut' l m i h, hb]
theorem oppRow_end (l : List UInt8) (m j : Nat) (h : j < (oppL l).length) : (oppRow l m l.length)[j]? = some (.int .u8 ((oppL l)[j].toNat : Int)) := by
 unfold oppRow
 rw [List.take_length, List.drop_length, List.append_nil, List.getElem?_append_left (by simpa using h), List.getElem?_map, List.getElem?_eq_getElem h]
 rfl
def Obj8 (l : List UInt8) (m i T : Nat) : Obj := .cells (oppRow l m i).toArray T (l.length + m, l.length + m + 1)
theorem obj8_cell {w : World} {g T m i j : Nat} {l : List UInt8} (h : w.heap[g]? = some (Obj8 l m i T)) : w.cell? ⟨g, j, none⟩ = (oppRow l m i)[j]? := by
 unfold World.cell?
 simp only [h, Obj8]
 simp
theorem obj8_frozen {w : World} {g T m i j : Nat} {l : List UInt8} (h : w.heap[g]? = some (Obj8 l m i T)) (hj : j < l.length) : w.frozen? ⟨g, j, none⟩ = false := by
 unfold World.frozen?
 simp only [h, Obj8]
 simp; omega
theorem obj8_set {w : World} {g T m i : Nat} {l : List UInt8} (h : w.heap[g]? = some (Obj8 l m i T)) (hj : i < l.length) {b : UInt8} (hb : oppB l[i] = b) : (w.setCell ⟨g, i, none⟩ (.int .u8 (b.toNat : Int))).heap[g]? = some (Obj8 l m (i + 1) T) := by
 subst hb
 simp only [World.setCell, Array.getElem?_modify, h, Obj8]
 simp [← oppRow_set l m i hj]
theorem opp_conv (w : World) (l : List UInt8) (src dst e : Nat) (hs : Try.prog.underlying src = some .string) (hd : Try.prog.underlying dst = some (.slice e)) (he : Try.prog.underlying e = some (.int .u8)) :
  ∃ c, (convert src dst (.string ⟨⟨l⟩⟩)).run Try.prog w = .ok (.slice (some ⟨w.heap.size, 0, none⟩) l.length c) (w.drew.alloc (Obj8 l (c - l.length) 0 e)) := by
 refine ⟨grownCap w l.length 0 e, ?_⟩
 have h := run_bytes_of_string w src dst e ⟨⟨l⟩⟩ hs hd he
 have e1 : bytesRow ⟨⟨l⟩⟩ (grownCap w l.length 0 e) = (oppRow l (grownCap w l.length 0 e - l.length) 0).toArray := by
  apply Array.toList_inj.1
  simp [bytesRow, oppRow, oppL, ByteArray.size]
 have e2 : (ByteArray.mk ⟨l⟩).size = l.length := rfl
 rw [e2, e1] at h
 rw [h]
 unfold Obj8
 simp [oppRow_length]
set_option maxHeartbeats 2000000 in
set_option maxRecDepth 100000 in
theorem impl_opposite.calls (a0 : ByteArray) (r : ByteArray) (w : World) (h : impl_opposite.f a0 = some r) :
  Calls Try.prog 147 #[.string a0] w fun e w' => e = .returned (.string r) ∧ Below w.heap.size w w' := by
 unfold impl_opposite.f at h
 by_cases hs : a0.size ≤ 1000
 ·rw [if_pos hs] at h
  obtain rfl := Option.some.inj h
  clear h
  obtain ⟨⟨l⟩⟩ := a0
  have hl : l.length ≤ 1000 := hs
  clear hs
  have hu := Try.underlying22
  obtain ⟨c, hconv⟩ := opp_conv w l 9 22 5 Try.underlying9 Try.underlying22 Try.underlying5
  have HB0 := Aside0.mk (Below.refl w.heap.size w)
  go_enter Try.func147, Try.ntmps147
  go_wp2
  clear hconv
  go_loopg [10] l.length (fun kq v10 w' => ∃ i : Nat, v10 = .int .i64 i ∧ Aside0 (i + kq = l.length) ∧ Aside0 (w'.heap[w.heap.size]? = some (Obj8 l (c - l.length) i 5)) ∧ Aside0 (Below w.heap.size w w'))
  case atStart => exact ⟨0, rfl, ⟨by omega⟩, ⟨blk_new _ _⟩, ⟨below_alloc (below_drew HB0.out) _⟩⟩
  case round =>
  obtain ⟨i, rfl, hi, hO, HB⟩ := hrel
  by_cases hlt : i < l.length
  ·obtain ⟨k1, rfl⟩ : ∃ k1, gk = k1 + 1 := ⟨gk - 1, by have := hi.out; omega⟩
   have hcell := obj8_cell (j := i) hO.out
   rw [oppRow_get l _ i hlt] at hcell
   have hfr := obj8_frozen hO.out hlt
   have hg : Aside0 (w.heap.size ≤ w.heap.size) := ⟨Nat.le_refl _⟩
   have hbb : Aside0 (∀ b, oppB l[i] = b → (wr.setCell ⟨w.heap.size, i, none⟩ (.int .u8 (b.toNat : Int))).heap[w.heap.size]? = some (Obj8 l (c - l.length) (i + 1) 5)) := ⟨fun b hb => obj8_set hO.out hlt hb⟩
   have hsame : Aside0 (oppB l[i] = l[i] → oppRow l (c - l.length) i = oppRow l (c - l.length) (i + 1)) := ⟨oppRow_same l _ i hlt⟩
   generalize l[i] = b at hcell hbb hsame
   by_cases h43 : b = 43
   ·subst h43
    have hcell : wr.cell? ⟨w.heap.size, i, none⟩ = some (.int .u8 43) := hcell
    have hst := Aside0.mk (show (wr.setCell ⟨w.heap.size, i, none⟩ (.int .u8 45)).heap[w.heap.size]? = _ from hbb.out 45 rfl)
    clear hbb hsame
    go_wp2
    go_roundg k1
    case measure => omega
    case rel => exact ⟨i + 1, by go_num, ⟨by have := hi.out; omega⟩, hst, ⟨below_set HB.out hg.out⟩⟩
   by_cases h45 : b = 45
   ·subst h45
    have hcell : wr.cell? ⟨w.heap.size, i, none⟩ = some (.int .u8 45) := hcell
    have hst := Aside0.mk (show (wr.setCell ⟨w.heap.size, i, none⟩ (.int .u8 43)).heap[w.heap.size]? = _ from hbb.out 43 rfl)
    clear hbb hsame h43
    go_wp2
    go_roundg k1
    case measure => omega
    case rel => exact ⟨i + 1, by go_num, ⟨by have := hi.out; omega⟩, hst, ⟨below_set HB.out hg.out⟩⟩
   have hn1 : ((b.toNat : Int) == 43) = false := by
    apply beq_eq_false_iff_ne.2; intro e; apply h43; apply UInt8.toNat_inj.1; show b.toNat = 43; omega
   have hn2 : ((b.toNat : Int) == 45) = false := by
    apply beq_eq_false_iff_ne.2; intro e; apply h45; apply UInt8.toNat_inj.1; show b.toNat = 45; omega
   have hst : Aside0 (wr.heap[w.heap.size]? = some (Obj8 l (c - l.length) (i + 1) 5)) := ⟨by
    have e := hsame.out (by unfold oppB; rw [if_neg h43, if_neg h45])
    have := hO.out
    unfold Obj8 at this ⊢
    rw [← e]; exact this⟩
   clear hbb hsame h43 h45
   go_wp2
   go_roundg k1
   case measure => omega
   case rel => exact ⟨i + 1, by go_num, ⟨by have := hi.out; omega⟩, hst, HB⟩
  have hil : i = l.length := by have := hi.out; omega
  have hback : (convert 22 9 (.slice (some ⟨w.heap.size, 0, none⟩) l.length c)).run Try.prog wr = .ok (.string ⟨(oppL l).toArray⟩) wr := by
   have hlen : (oppL l).length = l.length := by simp [oppL]
   have := run_convert_bytes_back wr 22 9 5 ⟨w.heap.size, 0, none⟩ c (oppL l) Try.underlying22 Try.underlying5 Try.underlying9 (fun j hj => by
    rw [add_plain, obj8_cell (j := j) hO.out, hil]
    exact oppRow_end l _ j hj)
   rw [hlen] at this
   exact this
  have hilt : decide ((i : Int) < (l.length : Int)) = false := decide_eq_false (by omega)
  clear hil
  go_wp2
  go_ret
  exact ⟨rfl, HB.out⟩
 rw [if_neg hs] at h
 cases h
end Go.Proofs.Ytckkfjdkaimmhaa.G
namespace Go.Proofs.Ytckkfjdkaimmhaa.PX
open Go.RowKit Go.Proofs.Ytckkfjdkaimmhaa.G Go.Proofs.YtckkfjdkaimmhaaW.PrintWords Go.Proofs.YtckkfjdkaimmhaaW.PrintLast Go.Proofs.YtckkfjdkaimmhaaW.PrintMore
attribute [local go_sem] max2_int min2_int max_two min_two max_three min_three max_four min_four   -- for this text's walks alone
set_option linter.unusedVariables false
set_option linter.unusedSimpArgs false
/-! ### laws_big: function 7 -/
def laws_big.f (l0 : List Int) : Option (Bool) := some (decide ((l0.length : Int) > 1048576))
set_option maxHeartbeats 8000000 in
set_option maxRecDepth 100000 in
theorem laws_big.calls (A0 : Option Addr) (c0 : Nat) (l0 : List Int) (r : Bool) (w : World) (hr0 : Kd.C (Kd.int .u8) w A0 l0.length l0) (hc0 : l0.length ≤ c0) (h : laws_big.f l0 = some r) :
  Calls Try.prog 7 #[.slice A0 l0.length c0] w fun e w' => e = .returned (.bool r) ∧ Drawn0 w w' := by
 have HR0 := Aside0.mk hr0
 have HC0 := Aside0.mk hc0
 clear hr0 hc0
 have H : (some (decide ((l0.length : Int) > 1048576))) = some r := h
 clear h
 obtain rfl := Option.some.inj H
 go_enter Try.func7, Try.ntmps7
 go_wp2
 go_ret
 exact ⟨by first | rfl | (simp; done) | (simp [*]; done), by repeat (first | exact Drawn0.refl _ | apply Drawn0.step)⟩
/-! ### spec_IsMatroid: function 22 -/
def spec_IsMatroid.f (k : Nat) (a0_0 : Int) (a0_1 : ByteArray) : Option (Bool) := (spec_AreSigns.f k a0_0 a0_1).bind fun t547 => (if t547 = true then ((spec_FirstBreak.f k a0_0 a0_1).bind fun t548 => (some ((t548.length : Int) == 0))) else (some false))
set_option maxHeartbeats 8000000 in
set_option maxRecDepth 100000 in
theorem spec_IsMatroid.calls (k : Nat) (a0_0 : Int) (a0_1 : ByteArray) (r : Bool) (w : World) (h : spec_IsMatroid.f k a0_0 a0_1 = some r) :
  Calls Try.prog 22 #[.agg #[.int .i64 a0_0, .string a0_1]] w fun e w' => e = .returned (.bool r) ∧ Below w.heap.size w w' := by
 have hu25 := Try.underlying25
 have HB := Aside0.mk (Below.refl w.heap.size w)
 have H : ((spec_AreSigns.f k a0_0 a0_1).bind fun t547 => (if t547 = true then ((spec_FirstBreak.f k a0_0 a0_1).bind fun t548 => (some ((t548.length : Int) == 0))) else (some false))) = some r := h
 clear h
 obtain ⟨t547, A2, H⟩ := zO H
 by_cases c3 : t547 = true
 ·subst c3
  replace H := (if_pos rfl).symm.trans H
  obtain ⟨t548, A4, H⟩ := zO H
  obtain rfl := Option.some.inj H
  go_enter Try.func22, Try.ntmps22
  go_wp2_with (first | ((with_reducible refine gate_dst (N := 1) rfl ?_); (try (refine gate_guard (by rfl) ?_; dsimp only)); refine zBx (N := 1) #[.int .i64 a0_0, .string a0_1] 25 ?_; intro gb546 hg w5 hbox hb; have BK546 := Aside0.mk (hbox); have GW546 := zS hg; have GE546 := zS hg; replace HB := zX hb; clear hb hbox hg; obtain ⟨hcz6_0, hcz6_1, hfz6_0, hfz6_1⟩ := zq2 BK546.out) | ((with_reducible refine gate_callee (f := 25) rfl ?_); refine zD (some 4) Try.func25 #[.agg #[.int .i64 a0_0, .string a0_1]] ?_; (with_reducible refine (spec_AreSigns.calls k a0_0 a0_1 true _ A2.out).mono ?_); rintro e w7 ⟨rfl, hb⟩; refine ⟨_, rfl, ?_⟩; replace BK546 := zV BK546.out hb; replace HB := zX1 GE546.out hb; (try clear hb); obtain ⟨hcz8_0, hcz8_1, hfz8_0, hfz8_1⟩ := zq2 BK546.out) | (go_at_call 17; (with_reducible refine (spec_FirstBreak.calls k a0_0 a0_1 t548 _ A4.out).mono ?_); rintro e w9 ⟨v549, rfl, ho0, hb⟩; have HO550 := Aside0.mk (Kd.R_lower ho0 (below_size (zG GE546.out))); replace BK546 := zV BK546.out hb; replace HB := zX1 GE546.out hb; (try clear hb); (try clear hb2); (try clear hk); (try clear hi); (try clear ho0); obtain ⟨Ao10, co10, eo10⟩ := Kd.R_slice HO550.out; subst eo10))
  go_ret
  exact ⟨zE, zG GE546.out⟩
 replace c3 := Bool.eq_false_iff.mpr c3
 subst c3
 replace H := (if_neg zFf).symm.trans H
 obtain rfl := Option.some.inj H
 go_enter Try.func22, Try.ntmps22
 go_wp2_with (first | ((with_reducible refine gate_dst (N := 1) rfl ?_); (try (refine gate_guard (by rfl) ?_; dsimp only)); refine zBx (N := 1) #[.int .i64 a0_0, .string a0_1] 25 ?_; intro gb546 hg w11 hbox hb; have BK546 := Aside0.mk (hbox); have GW546 := zS hg; have GE546 := zS hg; replace HB := zX hb; clear hb hbox hg; obtain ⟨hcz12_0, hcz12_1, hfz12_0, hfz12_1⟩ := zq2 BK546.out) | ((with_reducible refine gate_callee (f := 25) rfl ?_); refine zD (some 4) Try.func25 #[.agg #[.int .i64 a0_0, .string a0_1]] ?_; (with_reducible refine (spec_AreSigns.calls k a0_0 a0_1 false _ A2.out).mono ?_); rintro e w13 ⟨rfl, hb⟩; refine ⟨_, rfl, ?_⟩; replace BK546 := zV BK546.out hb; replace HB := zX1 GE546.out hb; (try clear hb)))
 go_ret
 exact ⟨zE, zG GE546.out⟩
/-! ### spec_l3Byte: function 102 -/
def spec_l3Byte.f (a0 : Int) : Option (ByteArray) := if a0 > 0 then (some (⟨#[43]⟩ : ByteArray)) else (some (⟨#[45]⟩ : ByteArray))
set_option maxHeartbeats 8000000 in
set_option maxRecDepth 100000 in
theorem spec_l3Byte.calls (a0 : Int) (r : ByteArray) (w : World) (h : spec_l3Byte.f a0 = some r) :
  Calls Try.prog 102 #[.int .i64 a0] w fun e w' => e = .returned (.string r) ∧ Drawn0 w w' := by
 have H : (if a0 > 0 then (some (⟨#[43]⟩ : ByteArray)) else (some (⟨#[45]⟩ : ByteArray))) = some r := h
 clear h
 by_cases c2 : a0 > 0
 ·rw [if_pos c2] at H
  have c2b0 : decide (0 < a0) = true := decide_eq_true c2
  clear c2
  obtain rfl := Option.some.inj H
  go_enter Try.func102, Try.ntmps102
  go_wp2
  go_ret
  exact ⟨by first | rfl | (simp; done) | (simp [*]; done), by repeat (first | exact Drawn0.refl _ | apply Drawn0.step)⟩
 rw [if_neg c2] at H
 have c2b0 : decide (0 < a0) = false := decide_eq_false c2
 clear c2
 obtain rfl := Option.some.inj H
 go_enter Try.func102, Try.ntmps102
 go_wp2
 go_ret
 exact ⟨by first | rfl | (simp; done) | (simp [*]; done), by repeat (first | exact Drawn0.refl _ | apply Drawn0.step)⟩
/-! ### spec_l4Circuit: function 98 -/
def spec_l4Circuit.f (k : Nat) (a0_0 : Int) (a0_1 : ByteArray) (a1 : Int) (a2 : Int) (a3 : Int) (a4 : Int) : Option (ByteArray) := (spec_l3At.f k a0_0 a0_1 a2 a3 a4).bind fun t533 => ((spec_l3At.f k a0_0 a0_1 a1 a3 a4).bind fun t534 => ((spec_l3Byte.f (wrap64 ((wrap64 (-t533)) * t534))).bind fun t535 => (if 1 + t535.size ≤ 9223372036854775807 then ((spec_l3At.f k a0_0 a0_1 a1 a2 a4).bind fun t536 => ((spec_l3Byte.f (wrap64 (t533 * t536))).bind fun t537 => (if 1 + t535.size + t537.size ≤ 9223372036854775807 then ((spec_l3At.f k a0_0 a0_1 a1 a2 a3).bind fun t538 => ((spec_l3Byte.f (wrap64 ((wrap64 (-t533)) * t538))).bind fun t539 => (if 1 + t535.size + t537.size + t539.size ≤ 9223372036854775807 then (some ((((⟨#[43]⟩ : ByteArray) ++ t535) ++ t537) ++ t539)) else (none)))) else (none)))) else (none))))
def spec_l4Circuit.T2 : Bool × List (List Nat × List Nat) := (true, [([], []), ([0], [0]), ([], []), ([], []), ([], []), ([], []), ([2, 3, 4, 5], [2, 3, 4, 5]), ([1, 6], [1, 6]), ([7, 6], [7]), ([8], [8]), ([], []), ([], []), ([], []), ([], []), ([], []), ([11, 12, 13, 14, 8], [11, 12, 13, 14]), ([10, 15], [10, 15]), ([16, 15], [16]), ([9, 17], [9, 17]), ([18, 17, 0, 1, 2, 3, 4, 5, 6, 7, 8, 9, 10, 11, 12, 13, 14, 15, 16, 17, 18], [18])])
def spec_l4Circuit.B2 : List Nat := [0, 1, 0, 0, 0, 0, 60, 127, 255, 511, 0, 0, 0, 0, 0, 31231, 65023, 130559, 262143, 524287]
theorem spec_l4Circuit.tab2 : rtab .any (opsOf Try.f98 2) = spec_l4Circuit.T2 := by kernel_rfl
theorem spec_l4Circuit.bits2 : waitsOk spec_l4Circuit.T2.2 spec_l4Circuit.B2 = true := by kernel_rfl
set_option maxHeartbeats 8000000 in
set_option maxRecDepth 100000 in
theorem spec_l4Circuit.calls (k : Nat) (a0_0 : Int) (a0_1 : ByteArray) (a1 : Int) (a2 : Int) (a3 : Int) (a4 : Int) (r : ByteArray) (w : World) (h : spec_l4Circuit.f k a0_0 a0_1 a1 a2 a3 a4 = some r) :
  Calls Try.prog 98 #[.agg #[.int .i64 a0_0, .string a0_1], .int .i64 a1, .int .i64 a2, .int .i64 a3, .int .i64 a4] w fun e w' => e = .returned (.string r) ∧ Below w.heap.size w w' := by
 have hu25 := Try.underlying25
 have HB := Aside0.mk (Below.refl w.heap.size w)
 have H : ((spec_l3At.f k a0_0 a0_1 a2 a3 a4).bind fun t533 => ((spec_l3At.f k a0_0 a0_1 a1 a3 a4).bind fun t534 => ((spec_l3Byte.f (wrap64 ((wrap64 (-t533)) * t534))).bind fun t535 => (if 1 + t535.size ≤ 9223372036854775807 then ((spec_l3At.f k a0_0 a0_1 a1 a2 a4).bind fun t536 => ((spec_l3Byte.f (wrap64 (t533 * t536))).bind fun t537 => (if 1 + t535.size + t537.size ≤ 9223372036854775807 then ((spec_l3At.f k a0_0 a0_1 a1 a2 a3).bind fun t538 => ((spec_l3Byte.f (wrap64 ((wrap64 (-t533)) * t538))).bind fun t539 => (if 1 + t535.size + t537.size + t539.size ≤ 9223372036854775807 then (some ((((⟨#[43]⟩ : ByteArray) ++ t535) ++ t537) ++ t539)) else (none)))) else (none)))) else (none))))) = some r := h
 clear h
 obtain ⟨t533, A6, H⟩ := zO H
 obtain ⟨t534, A7, H⟩ := zO H
 obtain ⟨t535, A8, H⟩ := zO H
 by_cases c9 : 1 + t535.size ≤ 9223372036854775807
 ·rw [if_pos c9] at H
  have c9b0 := eq_true c9
  have c9b1 : decide (1 + t535.size ≤ 9223372036854775807) = true := decide_eq_true c9
  try have c9b2 : (9223372036854775807 < 1 + t535.size) = False := eq_false (Nat.not_lt.2 c9)
  obtain ⟨t536, A10, H⟩ := zO H
  obtain ⟨t537, A11, H⟩ := zO H
  by_cases c12 : 1 + t535.size + t537.size ≤ 9223372036854775807
  ·rw [if_pos c12] at H
   have c12b0 := eq_true c12
   have c12b1 : decide (1 + t535.size + t537.size ≤ 9223372036854775807) = true := decide_eq_true c12
   try have c12b2 : (9223372036854775807 < 1 + t535.size + t537.size) = False := eq_false (Nat.not_lt.2 c12)
   obtain ⟨t538, A13, H⟩ := zO H
   obtain ⟨t539, A14, H⟩ := zO H
   by_cases c15 : 1 + t535.size + t537.size + t539.size ≤ 9223372036854775807
   ·rw [if_pos c15] at H
    have c15b0 := eq_true c15
    have c15b1 : decide (1 + t535.size + t537.size + t539.size ≤ 9223372036854775807) = true := decide_eq_true c15
    try have c15b2 : (9223372036854775807 < 1 + t535.size + t537.size + t539.size) = False := eq_false (Nat.not_lt.2 c15)
    obtain rfl := Option.some.inj H
    go_enter Try.func98, Try.ntmps98
    try go_wp2_with (first | ((with_reducible refine gate_dst (N := 5) rfl ?_); refine zBx (N := 5) #[.int .i64 a0_0, .string a0_1] 25 ?_; intro gb532 hg w16 hbox hb; have BK532 := Aside0.mk (hbox); have GW532 := zS hg; have GE532 := zS hg; replace HB := zX hb; clear hb hbox hg; obtain ⟨hcz17_0, hcz17_1, hfz17_0, hfz17_1⟩ := zq2 BK532.out) | ((with_reducible refine gate_callee (f := 144) rfl ?_); refine zD (some 17) Try.func144 #[.agg #[.int .i64 a0_0, .string a0_1], .int .i64 a2, .int .i64 a3, .int .i64 a4] ?_; (with_reducible refine (spec_l3At.calls k a0_0 a0_1 a2 a3 a4 t533 _ A6.out).mono ?_); rintro e w18 ⟨rfl, hb⟩; refine ⟨_, rfl, ?_⟩; replace BK532 := zV BK532.out hb; replace HB := zX1 GE532.out hb; (try clear hb)))
    replace BK532 := Aside0.mk (blk_drew BK532.out)
    replace HB := Aside0.mk (below_drew1 HB.out)
    refine start_ (n := 20) (S := fun w' => w'.cell? ⟨gb532, 0, none⟩ = some (.int .i64 a0_0) ∧ w'.cell? ⟨gb532, 1, none⟩ = some (.string a0_1)) (ds := []) #[false, false, false, false, false, false, false, false, false, false, false, false, false, false, false, false, false, false, false, false] (by kernel_rfl) rfl rfl ⟨(blk_cell BK532.out 0).trans rfl, (blk_cell BK532.out 1).trans rfl⟩ (fun hHeld => ?_); refine with_tabW spec_l4Circuit.tab2 spec_l4Circuit.bits2 (fun HT_ HW_ => ?_)
    generalize w18.drew = w19 at BK532 HB hHeld ⊢
    refine zP 0 (some 18) rfl rfl ?_
    refine zP 1 (some 19) rfl rfl ?_
    refine zP 3 (some 21) rfl rfl ?_
    refine zP 4 (some 22) rfl rfl ?_
    refine zP 5 (some 23) rfl rfl ?_
    refine zP 10 (some 28) rfl rfl ?_
    refine zP 12 (some 30) rfl rfl ?_
    refine zP 13 (some 31) rfl rfl ?_
    refine zP 14 (some 32) rfl rfl ?_
    refine zY2 2 (some 20) rfl rfl hHeld ?_
    refine zY2 11 (some 29) rfl rfl hHeld ?_
    refine zU 6 (some 24) rfl rfl (fun K hK => ?_)
    refine goes_ Try.func144 (by kernel_rfl) rfl #[.agg #[.int .i64 a0_0, .string a0_1], .int .i64 a1, .int .i64 a3, .int .i64 a4] (by rfl) rfl rfl zM ?_
    with_reducible refine (spec_l3At.calls k a0_0 a0_1 a1 a3 a4 t534 _ A7.out).mono ?_
    rintro e w20 ⟨rfl, hb⟩
    refine ⟨_, rfl, ?_⟩
    replace BK532 := zV BK532.out hb
    replace HB := zX1 GE532.out hb
    (try clear hb)
    refine hK.out _ _ (zh2 BK532.out) (fun hHeld => ?_)
    clear hK K
    refine zN ?_
    refine zP 7 (some 25) rfl rfl ?_
    refine zU 8 (some 26) rfl rfl (fun K hK => ?_)
    refine goes_ Try.func102 (by kernel_rfl) rfl #[.int .i64 (wrap64 ((wrap64 (-t533)) * t534))] (by rfl) rfl rfl zM ?_
    with_reducible refine (spec_l3Byte.calls (wrap64 ((wrap64 (-t533)) * t534)) t535 _ A8.out).mono ?_
    rintro e w' ⟨rfl, ⟨nd, rfl⟩⟩
    refine ⟨_, rfl, ?_⟩
    refine hK.out _ _ (zh2 BK532.out) (fun hHeld => ?_)
    clear hK K
    refine zN ?_
    refine zP 9 (some 27) rfl rfl ?_
    refine zU 15 (some 33) rfl rfl (fun K hK => ?_)
    refine goes_ Try.func144 (by kernel_rfl) rfl #[.agg #[.int .i64 a0_0, .string a0_1], .int .i64 a1, .int .i64 a2, .int .i64 a4] (by rfl) rfl rfl zM ?_
    with_reducible refine (spec_l3At.calls k a0_0 a0_1 a1 a2 a4 t536 _ A10.out).mono ?_
    rintro e w21 ⟨rfl, hb⟩
    refine ⟨_, rfl, ?_⟩
    replace BK532 := zV BK532.out hb
    replace HB := zX1 GE532.out hb
    (try clear hb)
    refine hK.out _ _ (zh2 BK532.out) (fun hHeld => ?_)
    clear hK K
    refine zN ?_
    refine zP 16 (some 34) rfl rfl ?_
    refine zU 17 (some 35) rfl rfl (fun K hK => ?_)
    refine goes_ Try.func102 (by kernel_rfl) rfl #[.int .i64 (wrap64 (t533 * t536))] (by rfl) rfl rfl zM ?_
    with_reducible refine (spec_l3Byte.calls (wrap64 (t533 * t536)) t537 _ A11.out).mono ?_
    rintro e w' ⟨rfl, ⟨nd, rfl⟩⟩
    refine ⟨_, rfl, ?_⟩
    refine hK.out _ _ (zh2 BK532.out) (fun hHeld => ?_)
    clear hK K
    refine zN ?_
    refine zP 18 (some 36) rfl rfl ?_
    refine zP 19 (some 12) rfl rfl ?_
    refine done_ (done_of HT_.out (by kernel_rfl)) ?_
    obtain ⟨hcz22_0, hcz22_1, hfz22_0, hfz22_1⟩ := zq2 BK532.out
    try go_wp2_with (first | ((with_reducible refine gate_callee (f := 144) rfl ?_); refine zD (some 44) Try.func144 #[.agg #[.int .i64 a0_0, .string a0_1], .int .i64 a1, .int .i64 a2, .int .i64 a3] ?_; (with_reducible refine (spec_l3At.calls k a0_0 a0_1 a1 a2 a3 t538 _ A13.out).mono ?_); rintro e w23 ⟨rfl, hb⟩; refine ⟨_, rfl, ?_⟩; replace BK532 := zV BK532.out hb; replace HB := zX1 GE532.out hb; (try clear hb)) | ((with_reducible refine gate_callee (f := 102) rfl ?_); refine zD (some 46) Try.func102 #[.int .i64 (wrap64 ((wrap64 (-t533)) * t538))] ?_; (with_reducible refine (spec_l3Byte.calls (wrap64 ((wrap64 (-t533)) * t538)) t539 _ A14.out).mono ?_); rintro e w' ⟨rfl, ⟨nd, rfl⟩⟩; refine ⟨_, rfl, ?_⟩))
    go_ret
    exact ⟨zE, zG GE532.out⟩
   rw [if_neg c15] at H
   exact absurd H (by simp)
  rw [if_neg c12] at H
  exact absurd H (by simp)
 rw [if_neg c9] at H
 exact absurd H (by simp)
/-! ### spec_l4Acyclic: function 99 -/
mutual
def spec_l4Acyclic.l0 : Nat → Int → Int → ByteArray → Option (Bool)
 | 0, _, _, _ => none
 | k + 1, x3, x552000, x552001 => if x3 < x552000 then (spec_l4Acyclic.l1 k x3 (wrap64 (x3 + 1)) x552000 x552001) else (some true)
def spec_l4Acyclic.l1 : Nat → Int → Int → Int → ByteArray → Option (Bool)
 | 0, _, _, _, _ => none
 | k + 1, x3, x4, x552000, x552001 => if x4 < x552000 then (spec_l4Acyclic.l2 k x3 x4 (wrap64 (x4 + 1)) x552000 x552001) else (spec_l4Acyclic.l0 k (wrap64 (x3 + 1)) x552000 x552001)
def spec_l4Acyclic.l2 : Nat → Int → Int → Int → Int → ByteArray → Option (Bool)
 | 0, _, _, _, _, _ => none
 | k + 1, x3, x4, x5, x552000, x552001 => if x5 < x552000 then (spec_l4Acyclic.l3 k x3 x4 x5 (wrap64 (x5 + 1)) x552000 x552001) else (spec_l4Acyclic.l1 k x3 (wrap64 (x4 + 1)) x552000 x552001)
def spec_l4Acyclic.l3 : Nat → Int → Int → Int → Int → Int → ByteArray → Option (Bool)
 | 0, _, _, _, _, _, _ => none
 | k + 1, x3, x4, x5, x6, x552000, x552001 => if x6 < x552000 then ((spec_l4Circuit.f k x552000 x552001 x3 x4 x5 x6).bind fun t552 => (if t552.toList = ([43, 43, 43, 43] : List UInt8) then (some false) else (spec_l4Acyclic.l3 k x3 x4 x5 (wrap64 (x6 + 1)) x552000 x552001))) else (spec_l4Acyclic.l2 k x3 x4 (wrap64 (x5 + 1)) x552000 x552001)
end
def spec_l4Acyclic.f (k : Nat) (a0_0 : Int) (a0_1 : ByteArray) : Option (Bool) := spec_l4Acyclic.l0 k 0 a0_0 a0_1
set_option maxHeartbeats 8000000 in
set_option maxRecDepth 100000 in
theorem spec_l4Acyclic.calls (k : Nat) (a0_0 : Int) (a0_1 : ByteArray) (r : Bool) (w : World) (h : spec_l4Acyclic.f k a0_0 a0_1 = some r) :
  Calls Try.prog 99 #[.agg #[.int .i64 a0_0, .string a0_1]] w fun e w' => e = .returned (.bool r) ∧ Below w.heap.size w w' := by
 have hu25 := Try.underlying25
 have HB := Aside0.mk (Below.refl w.heap.size w)
 have H : (spec_l4Acyclic.l0 k 0 a0_0 a0_1) = some r := h
 clear h
 have H' := Aside0.mk H; clear H
 go_enter Try.func99, Try.ntmps99
 go_wp2_with (first | ((with_reducible refine gate_dst (N := 1) rfl ?_); refine zBx (N := 1) #[.int .i64 a0_0, .string a0_1] 25 ?_; intro gb551 hg w2 hbox hb; have BK551 := Aside0.mk (hbox); have GW551 := zS hg; have GE551 := zS hg; replace HB := zX hb; clear hb hbox hg))
 go_loopg [3] k (fun kq v3 w' => ∃ (x3_1 : Int), v3 = .int .i64 x3_1 ∧ Aside0 (spec_l4Acyclic.l0 kq x3_1 a0_0 a0_1 = some r) ∧ Aside0 (kq ≤ k) ∧ Aside0 (w'.heap[gb551]? = some (.cells #[.int .i64 a0_0, .string a0_1] 25 (0, 0))) ∧ Aside0 (Below w.heap.size w w'))
 case atStart => exact ⟨(0), zF, H', ⟨Nat.le_refl _⟩, ⟨zK BK551.out⟩, ⟨zG GE551.out⟩⟩
 case round =>
 clear H'
 obtain ⟨x3_1, rfl, HA, HK1, BK551, HB⟩ := hrel
 cases gk with
 | zero => exact absurd HA.out (by simp [spec_l4Acyclic.l0])
 | succ k1 =>
 have H := HA.out
 clear HA
 simp only [spec_l4Acyclic.l0] at H
 by_cases c3 : x3_1 < a0_0
 ·rw [if_pos c3] at H
  have c3b0 : decide (x3_1 < a0_0) = true := decide_eq_true c3
  clear c3
  have H' := Aside0.mk H; clear H
  obtain ⟨hcz4_0, hcz4_1, hfz4_0, hfz4_1⟩ := zq2 BK551.out
  go_wp2
  go_loopg [4] k1 (fun kq v4 w' => ∃ (x4_2 : Int), v4 = .int .i64 x4_2 ∧ Aside0 (spec_l4Acyclic.l1 kq x3_1 x4_2 a0_0 a0_1 = some r) ∧ Aside0 (kq ≤ k1) ∧ Aside0 (w'.heap[gb551]? = some (.cells #[.int .i64 a0_0, .string a0_1] 25 (0, 0))) ∧ Aside0 (Below w.heap.size w w'))
  case atStart => exact ⟨(wrap64 (x3_1 + 1)), zF, H', ⟨Nat.le_refl _⟩, ⟨zK BK551.out⟩, ⟨zG GE551.out⟩⟩
  case round =>
  clear H'
  try clear c3
  try clear c3b0
  try clear hcz4_0
  try clear hcz4_1
  try clear hfz4_0
  try clear hfz4_1
  obtain ⟨x4_2, rfl, HA, HK2, BK551, HB⟩ := hrel
  cases gk with
  | zero => exact absurd HA.out (by simp [spec_l4Acyclic.l1])
  | succ k2 =>
  have H := HA.out
  clear HA
  simp only [spec_l4Acyclic.l1] at H
  by_cases c5 : x4_2 < a0_0
  ·rw [if_pos c5] at H
   have c5b0 : decide (x4_2 < a0_0) = true := decide_eq_true c5
   clear c5
   have H' := Aside0.mk H; clear H
   obtain ⟨hcz6_0, hcz6_1, hfz6_0, hfz6_1⟩ := zq2 BK551.out
   go_wp2
   go_loopg [5] k2 (fun kq v5 w' => ∃ (x5_3 : Int), v5 = .int .i64 x5_3 ∧ Aside0 (spec_l4Acyclic.l2 kq x3_1 x4_2 x5_3 a0_0 a0_1 = some r) ∧ Aside0 (kq ≤ k2) ∧ Aside0 (w'.heap[gb551]? = some (.cells #[.int .i64 a0_0, .string a0_1] 25 (0, 0))) ∧ Aside0 (Below w.heap.size w w'))
   case atStart => exact ⟨(wrap64 (x4_2 + 1)), zF, H', ⟨Nat.le_refl _⟩, ⟨zK BK551.out⟩, ⟨zG GE551.out⟩⟩
   case round =>
   clear H'
   try clear c3
   try clear c3b0
   try clear c5
   try clear c5b0
   try clear hcz4_0
   try clear hcz4_1
   try clear hcz6_0
   try clear hcz6_1
   try clear hfz4_0
   try clear hfz4_1
   try clear hfz6_0
   try clear hfz6_1
   obtain ⟨x5_3, rfl, HA, HK3, BK551, HB⟩ := hrel
   cases gk with
   | zero => exact absurd HA.out (by simp [spec_l4Acyclic.l2])
   | succ k3 =>
   have H := HA.out
   clear HA
   simp only [spec_l4Acyclic.l2] at H
   by_cases c7 : x5_3 < a0_0
   ·rw [if_pos c7] at H
    have c7b0 : decide (x5_3 < a0_0) = true := decide_eq_true c7
    clear c7
    have H' := Aside0.mk H; clear H
    obtain ⟨hcz8_0, hcz8_1, hfz8_0, hfz8_1⟩ := zq2 BK551.out
    go_wp2
    go_loopg [6] k3 (fun kq v6 w' => ∃ (x6_4 : Int), v6 = .int .i64 x6_4 ∧ Aside0 (spec_l4Acyclic.l3 kq x3_1 x4_2 x5_3 x6_4 a0_0 a0_1 = some r) ∧ Aside0 (kq ≤ k3) ∧ Aside0 (w'.heap[gb551]? = some (.cells #[.int .i64 a0_0, .string a0_1] 25 (0, 0))) ∧ Aside0 (Below w.heap.size w w'))
    case atStart => exact ⟨(wrap64 (x5_3 + 1)), zF, H', ⟨Nat.le_refl _⟩, ⟨zK BK551.out⟩, ⟨zG GE551.out⟩⟩
    case round =>
    clear H'
    try clear c3
    try clear c3b0
    try clear c5
    try clear c5b0
    try clear c7
    try clear c7b0
    try clear hcz4_0
    try clear hcz4_1
    try clear hcz6_0
    try clear hcz6_1
    try clear hcz8_0
    try clear hcz8_1
    try clear hfz4_0
    try clear hfz4_1
    try clear hfz6_0
    try clear hfz6_1
    try clear hfz8_0
    try clear hfz8_1
    obtain ⟨x6_4, rfl, HA, HK4, BK551, HB⟩ := hrel
    cases gk with
    | zero => exact absurd HA.out (by simp [spec_l4Acyclic.l3])
    | succ k4 =>
    have H := HA.out
    clear HA
    simp only [spec_l4Acyclic.l3] at H
    by_cases c9 : x6_4 < a0_0
    ·rw [if_pos c9] at H
     have c9b0 : decide (x6_4 < a0_0) = true := decide_eq_true c9
     clear c9
     obtain ⟨t552, A10, H⟩ := zO H
     by_cases c11 : t552.toList = ([43, 43, 43, 43] : List UInt8)
     ·rw [if_pos c11] at H
      have c11b0 : (t552.toList == ([43, 43, 43, 43] : List UInt8)) = true := beq_iff_eq.mpr c11
      have c11b1 : (t552.toList != ([43, 43, 43, 43] : List UInt8)) = false := bne_eq_false_iff_eq.mpr c11
      clear c11
      obtain rfl := Option.some.inj H
      obtain ⟨hcz12_0, hcz12_1, hfz12_0, hfz12_1⟩ := zq2 BK551.out
      go_wp2_with (first | ((with_reducible refine gate_callee (f := 98) rfl ?_); refine zD (some 42) Try.func98 #[.agg #[.int .i64 a0_0, .string a0_1], .int .i64 x3_1, .int .i64 x4_2, .int .i64 x5_3, .int .i64 x6_4] ?_; (with_reducible refine (spec_l4Circuit.calls k4 a0_0 a0_1 x3_1 x4_2 x5_3 x6_4 t552 _ A10.out).mono ?_); rintro e w13 ⟨rfl, hb⟩; refine ⟨_, rfl, ?_⟩; replace BK551 := zV BK551.out hb; replace HB := zX1 GE551.out hb; (try clear hb)))
      go_ret
      exact ⟨zE, zG GE551.out⟩
     rw [if_neg c11] at H
     have c11b0 : (t552.toList == ([43, 43, 43, 43] : List UInt8)) = false := beq_eq_false_iff_ne.mpr c11
     have c11b1 : (t552.toList != ([43, 43, 43, 43] : List UInt8)) = true := bne_iff_ne.mpr c11
     have H' := Aside0.mk H; clear H
     obtain ⟨hcz14_0, hcz14_1, hfz14_0, hfz14_1⟩ := zq2 BK551.out
     go_wp2_with (first | ((with_reducible refine gate_callee (f := 98) rfl ?_); refine zD (some 42) Try.func98 #[.agg #[.int .i64 a0_0, .string a0_1], .int .i64 x3_1, .int .i64 x4_2, .int .i64 x5_3, .int .i64 x6_4] ?_; (with_reducible refine (spec_l4Circuit.calls k4 a0_0 a0_1 x3_1 x4_2 x5_3 x6_4 t552 _ A10.out).mono ?_); rintro e w15 ⟨rfl, hb⟩; refine ⟨_, rfl, ?_⟩; replace BK551 := zV BK551.out hb; replace HB := zX1 GE551.out hb; (try clear hb)))
     go_roundg k4
     case measure => have := HK1.out; have := HK2.out; have := HK3.out; have := HK4.out; omega
     case rel => exact ⟨(wrap64 (x6_4 + 1)), zF, H', ⟨by have := HK1.out; have := HK2.out; have := HK3.out; have := HK4.out; omega⟩, ⟨zK BK551.out⟩, ⟨zG GE551.out⟩⟩
    rw [if_neg c9] at H
    have c9b0 : decide (x6_4 < a0_0) = false := decide_eq_false c9
    clear c9
    have H' := Aside0.mk H; clear H
    obtain ⟨hcz16_0, hcz16_1, hfz16_0, hfz16_1⟩ := zq2 BK551.out
    go_wp2
    go_roundg k4
    case measure => have := HK1.out; have := HK2.out; have := HK3.out; have := HK4.out; omega
    case rel => exact ⟨(wrap64 (x5_3 + 1)), zF, H', ⟨by have := HK1.out; have := HK2.out; have := HK3.out; have := HK4.out; omega⟩, ⟨zK BK551.out⟩, ⟨zG GE551.out⟩⟩
   rw [if_neg c7] at H
   have c7b0 : decide (x5_3 < a0_0) = false := decide_eq_false c7
   clear c7
   have H' := Aside0.mk H; clear H
   obtain ⟨hcz17_0, hcz17_1, hfz17_0, hfz17_1⟩ := zq2 BK551.out
   go_wp2
   go_roundg k3
   case measure => have := HK1.out; have := HK2.out; have := HK3.out; omega
   case rel => exact ⟨(wrap64 (x4_2 + 1)), zF, H', ⟨by have := HK1.out; have := HK2.out; have := HK3.out; omega⟩, ⟨zK BK551.out⟩, ⟨zG GE551.out⟩⟩
  rw [if_neg c5] at H
  have c5b0 : decide (x4_2 < a0_0) = false := decide_eq_false c5
  clear c5
  have H' := Aside0.mk H; clear H
  obtain ⟨hcz18_0, hcz18_1, hfz18_0, hfz18_1⟩ := zq2 BK551.out
  go_wp2
  go_roundg k2
  case measure => have := HK1.out; have := HK2.out; omega
  case rel => exact ⟨(wrap64 (x3_1 + 1)), zF, H', ⟨by have := HK1.out; have := HK2.out; omega⟩, ⟨zK BK551.out⟩, ⟨zG GE551.out⟩⟩
 rw [if_neg c3] at H
 have c3b0 : decide (x3_1 < a0_0) = false := decide_eq_false c3
 clear c3
 obtain rfl := Option.some.inj H
 obtain ⟨hcz19_0, hcz19_1, hfz19_0, hfz19_1⟩ := zq2 BK551.out
 go_wp2
 go_ret
 exact ⟨zE, zG GE551.out⟩
/-! ### spec_IsAcyclic: function 24 -/
def spec_IsAcyclic.f (k : Nat) (a0_0 : Int) (a0_1 : ByteArray) : Option (Bool) := (spec_IsMatroid.f k a0_0 a0_1).bind fun t571 => (if t571 = true then ((spec_l4Acyclic.f k a0_0 a0_1).bind fun t572 => (some t572)) else (some false))
set_option maxHeartbeats 8000000 in
set_option maxRecDepth 100000 in
theorem spec_IsAcyclic.calls (k : Nat) (a0_0 : Int) (a0_1 : ByteArray) (r : Bool) (w : World) (h : spec_IsAcyclic.f k a0_0 a0_1 = some r) :
  Calls Try.prog 24 #[.agg #[.int .i64 a0_0, .string a0_1]] w fun e w' => e = .returned (.bool r) ∧ Below w.heap.size w w' := by
 have hu25 := Try.underlying25
 have HB := Aside0.mk (Below.refl w.heap.size w)
 have H : ((spec_IsMatroid.f k a0_0 a0_1).bind fun t571 => (if t571 = true then ((spec_l4Acyclic.f k a0_0 a0_1).bind fun t572 => (some t572)) else (some false))) = some r := h
 clear h
 obtain ⟨t571, A2, H⟩ := zO H
 by_cases c3 : t571 = true
 ·subst c3
  replace H := (if_pos rfl).symm.trans H
  obtain ⟨t572, A4, H⟩ := zO H
  obtain rfl := Option.some.inj H
  go_enter Try.func24, Try.ntmps24
  go_wp2_with (first | ((with_reducible refine gate_dst (N := 1) rfl ?_); refine zBx (N := 1) #[.int .i64 a0_0, .string a0_1] 25 ?_; intro gb570 hg w5 hbox hb; have BK570 := Aside0.mk (hbox); have GW570 := zS hg; have GE570 := zS hg; replace HB := zX hb; clear hb hbox hg; obtain ⟨hcz6_0, hcz6_1, hfz6_0, hfz6_1⟩ := zq2 BK570.out) | ((with_reducible refine gate_callee (f := 22) rfl ?_); refine zD (some 4) Try.func22 #[.agg #[.int .i64 a0_0, .string a0_1]] ?_; (with_reducible refine (spec_IsMatroid.calls k a0_0 a0_1 true _ A2.out).mono ?_); rintro e w7 ⟨rfl, hb⟩; refine ⟨_, rfl, ?_⟩; replace BK570 := zV BK570.out hb; replace HB := zX1 GE570.out hb; (try clear hb); obtain ⟨hcz8_0, hcz8_1, hfz8_0, hfz8_1⟩ := zq2 BK570.out) | (go_at_call 99; (with_reducible refine (spec_l4Acyclic.calls k a0_0 a0_1 t572 _ A4.out).mono ?_); rintro e w9 ⟨rfl, hb⟩; replace BK570 := zV BK570.out hb; replace HB := zX1 GE570.out hb; (try clear hb); (try clear hb2); (try clear hk); (try clear hi)))
  go_ret
  exact ⟨zE, zG GE570.out⟩
 replace c3 := Bool.eq_false_iff.mpr c3
 subst c3
 replace H := (if_neg zFf).symm.trans H
 obtain rfl := Option.some.inj H
 go_enter Try.func24, Try.ntmps24
 go_wp2_with (first | ((with_reducible refine gate_dst (N := 1) rfl ?_); refine zBx (N := 1) #[.int .i64 a0_0, .string a0_1] 25 ?_; intro gb570 hg w10 hbox hb; have BK570 := Aside0.mk (hbox); have GW570 := zS hg; have GE570 := zS hg; replace HB := zX hb; clear hb hbox hg; obtain ⟨hcz11_0, hcz11_1, hfz11_0, hfz11_1⟩ := zq2 BK570.out) | ((with_reducible refine gate_callee (f := 22) rfl ?_); refine zD (some 4) Try.func22 #[.agg #[.int .i64 a0_0, .string a0_1]] ?_; (with_reducible refine (spec_IsMatroid.calls k a0_0 a0_1 false _ A2.out).mono ?_); rintro e w12 ⟨rfl, hb⟩; refine ⟨_, rfl, ?_⟩; replace BK570 := zV BK570.out hb; replace HB := zX1 GE570.out hb; (try clear hb)))
 go_ret
 exact ⟨zE, zG GE570.out⟩
def IsS110 (w0 W : World) (g : Nat) (f0 : List Int) (f1 : Int) (f2 : Int) : Prop := ∃ A0 c0, W.heap[g]? = some (.cells #[.slice A0 f0.length c0, .int .i64 f1, .int .i64 f2] 110 (0, 0)) ∧ w0.heap.size ≤ g ∧ Kd.C (Kd.int .u8) w0 A0 f0.length f0
theorem IsS110.grown {w0 W : World} {g : Nat} {f0 : List Int} {f1 : Int} {f2 : Int} {W1 : World} {row : Option Nat} (h : IsS110 w0 W g f0 f1 f2) (hw : W.grownBy W1 row) (hne : some g ≠ row) : IsS110 w0 W1 g f0 f1 f2 := by
 obtain ⟨A0, c0, hb, hg, hr0⟩ := h
 exact ⟨A0, c0, blk_grown hb hw hne, hg, hr0⟩
theorem IsS110.below {w0 W : World} {g : Nat} {f0 : List Int} {f1 : Int} {f2 : Int} {W1 : World} (h : IsS110 w0 W g f0 f1 f2) (hw : Below W.heap.size W W1) : IsS110 w0 W1 g f0 f1 f2 := h.grown (grown_of_below hw none) (by simp)
theorem IsS110.alloc {w0 W : World} {g : Nat} {f0 : List Int} {f1 : Int} {f2 : Int} (h : IsS110 w0 W g f0 f1 f2) (o : Obj) : IsS110 w0 (W.alloc o) g f0 f1 f2 := h.below (below_alloc (Below.refl _ _) o)
theorem IsS110.drewN {w0 W : World} {g : Nat} {f0 : List Int} {f1 : Int} {f2 : Int} (h : IsS110 w0 W g f0 f1 f2) (m : Nat) : IsS110 w0 (W.drewN m) g f0 f1 f2 := h
theorem IsS110.drew {w0 W : World} {g : Nat} {f0 : List Int} {f1 : Int} {f2 : Int} (h : IsS110 w0 W g f0 f1 f2) : IsS110 w0 W.drew g f0 f1 f2 := h
theorem IsS110.apart {w0 W : World} {g : Nat} {f0 : List Int} {f1 : Int} {f2 : Int} {α : Type} {d : Kd α} {e : Nat} {base : Nat} {ok : Nat → Prop} {v : Value} {xs : List α} (h : IsS110 w0 W g f0 f1 f2) (ho : d.R e W base ok v xs) (ht : ∀ q, q ∈ e :: d.E → q ≠ 110) : d.R e W base (fun k => ok k ∧ k ≠ g) v xs := by
 obtain ⟨A0, c0, hb, hg, hr0⟩ := h
 exact Kd.R_types ho hb ht
theorem IsS110.own_ne {w0 W : World} {g : Nat} {f0 : List Int} {f1 : Int} {f2 : Int} {α : Type} {d : Kd α} {e : Nat} {base : Nat} {ok : Nat → Prop} {v : Value} {xs : List α} (h : IsS110 w0 W g f0 f1 f2) (ho : d.R e W base ok v xs) (ht : e ≠ 110) : some g ≠ v.ownBlock := by
 obtain ⟨A0, c0, hb, hg, hr0⟩ := h
 exact Kd.R_ne ho hb ht
theorem IsS110.lt {w0 W : World} {g : Nat} {f0 : List Int} {f1 : Int} {f2 : Int} (h : IsS110 w0 W g f0 f1 f2) : g < W.heap.size := by
 obtain ⟨A0, c0, hb, hg, hr0⟩ := h
 exact blk_lt hb
theorem IsS110.ge {w0 W : World} {g : Nat} {f0 : List Int} {f1 : Int} {f2 : Int} (h : IsS110 w0 W g f0 f1 f2) : w0.heap.size ≤ g := by
 obtain ⟨A0, c0, hb, hg, hr0⟩ := h
 exact hg
theorem IsS110.ne_blk {w0 W : World} {g : Nat} {f0 : List Int} {f1 : Int} {f2 : Int} {a : Nat} {cs : Array Value} {t : TypeId} {fr : Nat × Nat} (h : IsS110 w0 W g f0 f1 f2) (hb2 : W.heap[a]? = some (.cells cs t fr)) (ht : t ≠ 110) : g ≠ a := by
 obtain ⟨A0, c0, hb, hg, hr0⟩ := h
 rintro rfl
 rw [hb] at hb2
 injection hb2 with hb2
 injection hb2 with _ ht2
 exact ht ht2.symm
theorem IsS110.far {w0 W : World} {g : Nat} {f0 : List Int} {f1 : Int} {f2 : Int} {p : Addr} (h : IsS110 w0 W g f0 f1 f2) (hne : g ≠ p.block) (u : Value) : IsS110 w0 (W.setCell p u) g f0 f1 f2 := by
 obtain ⟨A0, c0, hb, hg, hr0⟩ := h
 exact ⟨A0, c0, blk_far hb hne u, hg, hr0⟩
theorem cellS110_0 {W : World} {g : Nat} {A0 : Option Addr} {c0 : Nat} {f0 : List Int} {f1 : Int} {f2 : Int} (h : W.heap[g]? = some (.cells #[.slice A0 f0.length c0, .int .i64 f1, .int .i64 f2] 110 (0, 0))) : W.cell? ⟨g, 0, none⟩ = some (.slice A0 f0.length c0) := (blk_cell h 0).trans rfl
theorem cellS110_1 {W : World} {g : Nat} {A0 : Option Addr} {c0 : Nat} {f0 : List Int} {f1 : Int} {f2 : Int} (h : W.heap[g]? = some (.cells #[.slice A0 f0.length c0, .int .i64 f1, .int .i64 f2] 110 (0, 0))) : W.cell? ⟨g, 1, none⟩ = some (.int .i64 f1) := (blk_cell h 1).trans rfl
theorem IsS110.set_1 {w0 W : World} {g : Nat} {f0 : List Int} {f1 : Int} {f2 : Int} (h : IsS110 w0 W g f0 f1 f2) (x : Int) : IsS110 w0 (W.setCell ⟨g, 1, none⟩ (.int .i64 x)) g f0 x f2 := by
 obtain ⟨A0, c0, hb, hg, hr0⟩ := h
 exact ⟨A0, c0, by simpa using blk_set hb 1 (.int .i64 x), hg, hr0⟩
theorem cellS110_2 {W : World} {g : Nat} {A0 : Option Addr} {c0 : Nat} {f0 : List Int} {f1 : Int} {f2 : Int} (h : W.heap[g]? = some (.cells #[.slice A0 f0.length c0, .int .i64 f1, .int .i64 f2] 110 (0, 0))) : W.cell? ⟨g, 2, none⟩ = some (.int .i64 f2) := (blk_cell h 2).trans rfl
theorem IsS110.set_2 {w0 W : World} {g : Nat} {f0 : List Int} {f1 : Int} {f2 : Int} (h : IsS110 w0 W g f0 f1 f2) (x : Int) : IsS110 w0 (W.setCell ⟨g, 2, none⟩ (.int .i64 x)) g f0 f1 x := by
 obtain ⟨A0, c0, hb, hg, hr0⟩ := h
 exact ⟨A0, c0, by simpa using blk_set hb 2 (.int .i64 x), hg, hr0⟩
/-! ### spec_l1Byte: function 151 -/
def spec_l1Byte.f (s0_0 : List Int) (s0_1 : Int) (s0_2 : Int) : Option (Int × Int × Int) := if s0_1 < (s0_0.length : Int) then (if 0 ≤ s0_1 then (some (Go.bits .and .i64 (wrap64 ((Go.bits .and .i64 (Go.bits .xor .i64 ((wrap64 ((wrap64 (s0_2 * 6364136223846793005)) + 1442695040888963407)) / 8589934592) ((wrap64 ((wrap64 (s0_2 * 6364136223846793005)) + 1442695040888963407)) / 35184372088832)) 255) + (wrap64 (rd s0_0 s0_1)))) 255, wrap64 (s0_1 + 1), wrap64 ((wrap64 (s0_2 * 6364136223846793005)) + 1442695040888963407))) else (none)) else (some (Go.bits .and .i64 (Go.bits .xor .i64 ((wrap64 ((wrap64 (s0_2 * 6364136223846793005)) + 1442695040888963407)) / 8589934592) ((wrap64 ((wrap64 (s0_2 * 6364136223846793005)) + 1442695040888963407)) / 35184372088832)) 255, s0_1, wrap64 ((wrap64 (s0_2 * 6364136223846793005)) + 1442695040888963407)))
theorem zl10_0 {p q : Prop} (g : p) (h : p → q := by intro zg_; repeat (first | (with_reducible first | exact zg_ | apply IsS110.alloc | apply IsS110.drewN | apply IsS110.drew | apply IsS110.set_1 | apply IsS110.set_2) | exact zg_)) : q := h g
theorem zl10_1 {p q : Prop} (g : p) (h : p → q := by intro zg_; repeat (first | (with_reducible first | exact zg_ | apply KeepBut.set_ | apply keep_drewN | apply keep_drew | apply keep_alloc) | exact zg_)) : q := h g
set_option maxHeartbeats 8000000 in
set_option maxRecDepth 100000 in
theorem spec_l1Byte.calls (g : Nat) (s0_0 : List Int) (s0_1 : Int) (s0_2 : Int) (r1 : Int) (r2 : Int) (r3 : Int) (w0 w : World) (hI : IsS110 w0 w g s0_0 s0_1 s0_2) (hB : Below w0.heap.size w0 w) (h : spec_l1Byte.f s0_0 s0_1 s0_2 = some (r1, r2, r3)) :
  Calls Try.prog 151 #[.pointer (some ⟨g, 0, none⟩)] w fun e w' => e = .returned (.int .i64 r1) ∧ IsS110 w0 w' g s0_0 r2 r3 ∧ Below w0.heap.size w0 w' ∧ KeepBut w w' g none := by
 have HI0 := Aside0.mk hI
 have HK := Aside0.mk (KeepBut.refl w g none)
 have HL := Aside0.mk hB.size
 clear hI
 have HW0 := Aside0.mk hB.size
 have HB := Aside0.mk hB
 clear hB
 have H : (if s0_1 < (s0_0.length : Int) then (if 0 ≤ s0_1 then (some (Go.bits .and .i64 (wrap64 ((Go.bits .and .i64 (Go.bits .xor .i64 ((wrap64 ((wrap64 (s0_2 * 6364136223846793005)) + 1442695040888963407)) / 8589934592) ((wrap64 ((wrap64 (s0_2 * 6364136223846793005)) + 1442695040888963407)) / 35184372088832)) 255) + (wrap64 (rd s0_0 s0_1)))) 255, wrap64 (s0_1 + 1), wrap64 ((wrap64 (s0_2 * 6364136223846793005)) + 1442695040888963407))) else (none)) else (some (Go.bits .and .i64 (Go.bits .xor .i64 ((wrap64 ((wrap64 (s0_2 * 6364136223846793005)) + 1442695040888963407)) / 8589934592) ((wrap64 ((wrap64 (s0_2 * 6364136223846793005)) + 1442695040888963407)) / 35184372088832)) 255, s0_1, wrap64 ((wrap64 (s0_2 * 6364136223846793005)) + 1442695040888963407)))) = some (r1, r2, r3) := h
 clear h
 by_cases c2 : s0_1 < (s0_0.length : Int)
 ·rw [if_pos c2] at H
  have c2b0 : decide (s0_1 < (s0_0.length : Int)) = true := decide_eq_true c2
  clear c2
  by_cases c3 : 0 ≤ s0_1
  ·rw [if_pos c3] at H
   have c3b0 : decide (0 ≤ s0_1) = true := decide_eq_true c3
   clear c3
   simp only [Option.some.injEq, Prod.mk.injEq] at H
   obtain ⟨rfl, rfl, rfl⟩ := H
   obtain ⟨ASz4_0, cSz4_0, HGz4, hgz4, HSz4_0⟩ := HI0.out
   have hcz4_0 := cellS110_0 HGz4
   have hcz4_1 := cellS110_1 HGz4
   have hcz4_2 := cellS110_2 HGz4
   have hfz4_1 := blk_frozen HGz4 1
   have hfz4_2 := blk_frozen HGz4 2
   clear HGz4 hgz4
   have p112 : 0 ≤ (s0_1 : Int) := zA
   have q112 : s0_1 < (s0_0.length : Int) := zA
   obtain ⟨ad112, e112, hx112_0⟩ := Kd.at_int HSz4_0 s0_1 p112 q112
   cases e112
   have hn112_0 : ad112.block ≠ g := Nat.ne_of_lt (Nat.lt_of_lt_of_le (by have := World.block_lt_of_cell? _ _ hx112_0; first | rwa [add_block] at this | exact this) (IsS110.ge HI0.out))
   replace hx112_0 := pw_cell_below HB.out hx112_0
   replace hx112_0 := (cell_far (p := ⟨g, 2, none⟩) (by first | (rw [add_block]; exact hn112_0) | (show (Addr.add _ _).block ≠ _; rw [add_block]; exact hn112_0) | exact hn112_0) (.int .i64 (wrap64 ((wrap64 (s0_2 * 6364136223846793005)) + 1442695040888963407)))).trans hx112_0
   (try have hy112_0 := fun (n_ : Nat) => (show (((w.drewN n_).setCell ⟨g, 2, none⟩ (.int .i64 (wrap64 ((wrap64 (s0_2 * 6364136223846793005)) + 1442695040888963407))))).cell? _ = some _ from hx112_0))
   clear hn112_0
   replace p112 := eq_true p112
   replace q112 := eq_true q112
   go_enter Try.func151, Try.ntmps151
   go_wp2
   repeat (go_quiet (fail); try go_wp2)
   go_ret
   exact ⟨zE, (zl10_0 HI0.out), zG (IsS110.ge HI0.out), (zl10_1 HK.out)⟩
  rw [if_neg c3] at H
  exact absurd H (by simp)
 rw [if_neg c2] at H
 have c2b0 : decide (s0_1 < (s0_0.length : Int)) = false := decide_eq_false c2
 clear c2
 simp only [Option.some.injEq, Prod.mk.injEq] at H
 obtain ⟨rfl, rfl, rfl⟩ := H
 obtain ⟨ASz5_0, cSz5_0, HGz5, hgz5, HSz5_0⟩ := HI0.out
 have hcz5_0 := cellS110_0 HGz5
 have hcz5_1 := cellS110_1 HGz5
 have hcz5_2 := cellS110_2 HGz5
 have hfz5_1 := blk_frozen HGz5 1
 have hfz5_2 := blk_frozen HGz5 2
 clear HGz5 hgz5
 go_enter Try.func151, Try.ntmps151
 go_wp2
 repeat (go_quiet (fail); try go_wp2)
 go_ret
 exact ⟨zE, (zl10_0 HI0.out), zG (IsS110.ge HI0.out), (zl10_1 HK.out)⟩
/-! ### spec_l1Below: function 125 -/
def spec_l1Below.f (s0_0 : List Int) (s0_1 : Int) (s0_2 : Int) (a1 : Int) : Option (Int × Int × Int) := if a1 ≤ 0 then (some (0, s0_1, s0_2)) else (if a1 ≤ 256 then ((spec_l1Byte.f s0_0 s0_1 s0_2).bind fun bt113 => (if a1 = 0 then (none) else (some (Int.tmod bt113.1 a1, bt113.2.1, bt113.2.2)))) else ((spec_l1Byte.f s0_0 s0_1 s0_2).bind fun bt116 => ((spec_l1Byte.f s0_0 bt116.2.1 bt116.2.2).bind fun bt119 => ((spec_l1Byte.f s0_0 bt119.2.1 bt119.2.2).bind fun bt122 => ((spec_l1Byte.f s0_0 bt122.2.1 bt122.2.2).bind fun bt125 => (if a1 = 0 then (none) else (some (Int.tmod (wrap64 ((wrap64 ((wrap64 ((wrap64 (bt116.1 * 16777216)) + (wrap64 (bt119.1 * 65536)))) + (wrap64 (bt122.1 * 256)))) + bt125.1)) a1, bt125.2.1, bt125.2.2))))))))
theorem zl11_0 {p q : Prop} (g : p) (h : p → q := by intro zg_; repeat (first | (with_reducible first | exact zg_ | apply IsS110.alloc | apply IsS110.drewN | apply IsS110.drew | apply IsS110.set_1 | apply IsS110.set_2) | exact zg_)) : q := h g
theorem zl11_1 {p q : Prop} (g : p) (h : p → q := by intro zg_; repeat (first | (with_reducible first | exact zg_ | apply KeepBut.set_ | apply keep_drewN | apply keep_drew | apply keep_alloc) | exact zg_)) : q := h g
theorem zl11_2 {p q p0 : Prop} (g : p) (g0 : p0) (h : p → p0 → q := by intro zg_ z0_; repeat (first | (with_reducible first | exact zg_ | apply below_alloc | apply pw_below_drewN | apply below_drew1 | refine below_set ?_ z0_) | exact zg_)) : q := h g g0
set_option maxHeartbeats 8000000 in
set_option maxRecDepth 100000 in
theorem spec_l1Below.calls (g : Nat) (s0_0 : List Int) (s0_1 : Int) (s0_2 : Int) (a1 : Int) (r1 : Int) (r2 : Int) (r3 : Int) (w0 w : World) (hI : IsS110 w0 w g s0_0 s0_1 s0_2) (hB : Below w0.heap.size w0 w) (h : spec_l1Below.f s0_0 s0_1 s0_2 a1 = some (r1, r2, r3)) :
  Calls Try.prog 125 #[.pointer (some ⟨g, 0, none⟩), .int .i64 a1] w fun e w' => e = .returned (.int .i64 r1) ∧ IsS110 w0 w' g s0_0 r2 r3 ∧ Below w0.heap.size w0 w' ∧ KeepBut w w' g none := by
 have HI0 := Aside0.mk hI
 have HK := Aside0.mk (KeepBut.refl w g none)
 have HL := Aside0.mk hB.size
 clear hI
 have HW0 := Aside0.mk hB.size
 have HB := Aside0.mk hB
 clear hB
 have H : (if a1 ≤ 0 then (some (0, s0_1, s0_2)) else (if a1 ≤ 256 then ((spec_l1Byte.f s0_0 s0_1 s0_2).bind fun bt113 => (if a1 = 0 then (none) else (some (Int.tmod bt113.1 a1, bt113.2.1, bt113.2.2)))) else ((spec_l1Byte.f s0_0 s0_1 s0_2).bind fun bt116 => ((spec_l1Byte.f s0_0 bt116.2.1 bt116.2.2).bind fun bt119 => ((spec_l1Byte.f s0_0 bt119.2.1 bt119.2.2).bind fun bt122 => ((spec_l1Byte.f s0_0 bt122.2.1 bt122.2.2).bind fun bt125 => (if a1 = 0 then (none) else (some (Int.tmod (wrap64 ((wrap64 ((wrap64 ((wrap64 (bt116.1 * 16777216)) + (wrap64 (bt119.1 * 65536)))) + (wrap64 (bt122.1 * 256)))) + bt125.1)) a1, bt125.2.1, bt125.2.2))))))))) = some (r1, r2, r3) := h
 clear h
 by_cases c3 : a1 ≤ 0
 ·rw [if_pos c3] at H
  have c3b0 : decide (a1 ≤ 0) = true := decide_eq_true c3
  clear c3
  simp only [Option.some.injEq, Prod.mk.injEq] at H
  obtain ⟨rfl, rfl, rfl⟩ := H
  go_enter Try.func125, Try.ntmps125
  go_wp2
  go_ret
  exact ⟨zE, (zl11_0 HI0.out), zG (IsS110.ge HI0.out), (zl11_1 HK.out)⟩
 rw [if_neg c3] at H
 have c3b0 : decide (a1 ≤ 0) = false := decide_eq_false c3
 clear c3
 by_cases c4 : a1 ≤ 256
 ·rw [if_pos c4] at H
  have c4b0 : decide (a1 ≤ 256) = true := decide_eq_true c4
  clear c4
  obtain ⟨⟨t113, t114, t115⟩, A5, H⟩ := zO H
  dsimp only at H
  by_cases c6 : a1 = 0
  ·rw [if_pos c6] at H
   exact absurd H (by simp)
  rw [if_neg c6] at H
  have c6b0 : (a1 == 0) = false := beq_eq_false_iff_ne.mpr c6
  have c6b1 : (a1 != 0) = true := bne_iff_ne.mpr c6
  simp only [Option.some.injEq, Prod.mk.injEq] at H
  obtain ⟨rfl, rfl, rfl⟩ := H
  go_enter Try.func125, Try.ntmps125
  go_wp2_with (first | ((with_reducible refine gate_callee (f := 151) rfl ?_); refine zD (some 14) Try.func151 #[.pointer (some ⟨g, 0, none⟩)] ?_; (with_reducible refine (spec_l1Byte.calls g s0_0 s0_1 s0_2 t113 t114 t115 w0 _ ?side1 ?side2 A5.out).mono ?_); (case side1 => exact (zl11_0 HI0.out)); (case side2 => exact (zl11_2 HB.out (IsS110.ge HI0.out))); rintro e w7 ⟨rfl, hi, hb, hk⟩; refine ⟨_, rfl, ?_⟩; replace HK := Aside0.mk (KeepBut.trans (zl11_1 HK.out) hk (.inl rfl)); replace HI0 := Aside0.mk (hi); replace HB := Aside0.mk (hb); (try clear hb); (try clear hk); (try clear hi)))
  go_ret
  exact ⟨zE, (zl11_0 HI0.out), zG (IsS110.ge HI0.out), (zl11_1 HK.out)⟩
 rw [if_neg c4] at H
 have c4b0 : decide (a1 ≤ 256) = false := decide_eq_false c4
 clear c4
 obtain ⟨⟨t116, t117, t118⟩, A8, H⟩ := zO H
 dsimp only at H
 obtain ⟨⟨t119, t120, t121⟩, A9, H⟩ := zO H
 dsimp only at H
 obtain ⟨⟨t122, t123, t124⟩, A10, H⟩ := zO H
 dsimp only at H
 obtain ⟨⟨t125, t126, t127⟩, A11, H⟩ := zO H
 dsimp only at H
 by_cases c12 : a1 = 0
 ·rw [if_pos c12] at H
  exact absurd H (by simp)
 rw [if_neg c12] at H
 have c12b0 : (a1 == 0) = false := beq_eq_false_iff_ne.mpr c12
 have c12b1 : (a1 != 0) = true := bne_iff_ne.mpr c12
 simp only [Option.some.injEq, Prod.mk.injEq] at H
 obtain ⟨rfl, rfl, rfl⟩ := H
 go_enter Try.func125, Try.ntmps125
 go_wp2_with (first | ((with_reducible refine gate_callee (f := 151) rfl ?_); refine zD (some 18) Try.func151 #[.pointer (some ⟨g, 0, none⟩)] ?_; (with_reducible refine (spec_l1Byte.calls g s0_0 s0_1 s0_2 t116 t117 t118 w0 _ ?side1 ?side2 A8.out).mono ?_); (case side1 => exact (zl11_0 HI0.out)); (case side2 => exact (zl11_2 HB.out (IsS110.ge HI0.out))); rintro e w13 ⟨rfl, hi, hb, hk⟩; refine ⟨_, rfl, ?_⟩; replace HK := Aside0.mk (KeepBut.trans (zl11_1 HK.out) hk (.inl rfl)); replace HI0 := Aside0.mk (hi); replace HB := Aside0.mk (hb); (try clear hb); (try clear hk); (try clear hi)) | ((with_reducible refine gate_callee (f := 151) rfl ?_); refine zD (some 20) Try.func151 #[.pointer (some ⟨g, 0, none⟩)] ?_; (with_reducible refine (spec_l1Byte.calls g s0_0 t117 t118 t119 t120 t121 w0 _ ?side1 ?side2 A9.out).mono ?_); (case side1 => exact (zl11_0 HI0.out)); (case side2 => exact (zl11_2 HB.out (IsS110.ge HI0.out))); rintro e w14 ⟨rfl, hi, hb, hk⟩; refine ⟨_, rfl, ?_⟩; replace HK := Aside0.mk (KeepBut.trans (zl11_1 HK.out) hk (.inl rfl)); replace HI0 := Aside0.mk (hi); replace HB := Aside0.mk (hb); (try clear hb); (try clear hk); (try clear hi)) | ((with_reducible refine gate_callee (f := 151) rfl ?_); refine zD (some 22) Try.func151 #[.pointer (some ⟨g, 0, none⟩)] ?_; (with_reducible refine (spec_l1Byte.calls g s0_0 t120 t121 t122 t123 t124 w0 _ ?side1 ?side2 A10.out).mono ?_); (case side1 => exact (zl11_0 HI0.out)); (case side2 => exact (zl11_2 HB.out (IsS110.ge HI0.out))); rintro e w15 ⟨rfl, hi, hb, hk⟩; refine ⟨_, rfl, ?_⟩; replace HK := Aside0.mk (KeepBut.trans (zl11_1 HK.out) hk (.inl rfl)); replace HI0 := Aside0.mk (hi); replace HB := Aside0.mk (hb); (try clear hb); (try clear hk); (try clear hi)) | ((with_reducible refine gate_callee (f := 151) rfl ?_); refine zD (some 24) Try.func151 #[.pointer (some ⟨g, 0, none⟩)] ?_; (with_reducible refine (spec_l1Byte.calls g s0_0 t123 t124 t125 t126 t127 w0 _ ?side1 ?side2 A11.out).mono ?_); (case side1 => exact (zl11_0 HI0.out)); (case side2 => exact (zl11_2 HB.out (IsS110.ge HI0.out))); rintro e w16 ⟨rfl, hi, hb, hk⟩; refine ⟨_, rfl, ?_⟩; replace HK := Aside0.mk (KeepBut.trans (zl11_1 HK.out) hk (.inl rfl)); replace HI0 := Aside0.mk (hi); replace HB := Aside0.mk (hb); (try clear hb); (try clear hk); (try clear hi)))
 go_ret
 exact ⟨zE, (zl11_0 HI0.out), zG (IsS110.ge HI0.out), (zl11_1 HK.out)⟩
/-! ### spec_l1Once: function 127 -/
def spec_l1Once.f (s0_0 : List Int) (s0_1 : Int) (s0_2 : Int) (a1 : Int) : Option (Bool × Int × Int) := (spec_l1Below.f s0_0 s0_1 s0_2 a1).bind fun bt128 => (some ((bt128.1 == 0), bt128.2.1, bt128.2.2))
theorem zl12_0 {p q : Prop} (g : p) (h : p → q := by intro zg_; repeat (first | (with_reducible first | exact zg_ | apply IsS110.alloc | apply IsS110.drewN | apply IsS110.drew | apply IsS110.set_1 | apply IsS110.set_2) | exact zg_)) : q := h g
theorem zl12_1 {p q p0 : Prop} (g : p) (g0 : p0) (h : p → p0 → q := by intro zg_ z0_; repeat (first | (with_reducible first | exact zg_ | apply below_alloc | apply pw_below_drewN | apply below_drew1 | refine below_set ?_ z0_) | exact zg_)) : q := h g g0
theorem zl12_2 {p q : Prop} (g : p) (h : p → q := by intro zg_; repeat (first | (with_reducible first | exact zg_ | apply KeepBut.set_ | apply keep_drewN | apply keep_drew | apply keep_alloc) | exact zg_)) : q := h g
set_option maxHeartbeats 8000000 in
set_option maxRecDepth 100000 in
theorem spec_l1Once.calls (g : Nat) (s0_0 : List Int) (s0_1 : Int) (s0_2 : Int) (a1 : Int) (r1 : Bool) (r2 : Int) (r3 : Int) (w0 w : World) (hI : IsS110 w0 w g s0_0 s0_1 s0_2) (hB : Below w0.heap.size w0 w) (h : spec_l1Once.f s0_0 s0_1 s0_2 a1 = some (r1, r2, r3)) :
  Calls Try.prog 127 #[.pointer (some ⟨g, 0, none⟩), .int .i64 a1] w fun e w' => e = .returned (.bool r1) ∧ IsS110 w0 w' g s0_0 r2 r3 ∧ Below w0.heap.size w0 w' ∧ KeepBut w w' g none := by
 have HI0 := Aside0.mk hI
 have HK := Aside0.mk (KeepBut.refl w g none)
 have HL := Aside0.mk hB.size
 clear hI
 have HW0 := Aside0.mk hB.size
 have HB := Aside0.mk hB
 clear hB
 have H : ((spec_l1Below.f s0_0 s0_1 s0_2 a1).bind fun bt128 => (some ((bt128.1 == 0), bt128.2.1, bt128.2.2))) = some (r1, r2, r3) := h
 clear h
 obtain ⟨⟨t128, t129, t130⟩, A3, H⟩ := zO H
 replace H : (some ((t128 == 0), t129, t130)) = some (r1, r2, r3) := H
 simp only [Option.some.injEq, Prod.mk.injEq] at H
 obtain ⟨rfl, rfl, rfl⟩ := H
 go_enter Try.func127, Try.ntmps127
 go_wp2_with (first | ((with_reducible refine gate_callee (f := 125) rfl ?_); refine zD (some 7) Try.func125 #[.pointer (some ⟨g, 0, none⟩), .int .i64 a1] ?_; (with_reducible refine (spec_l1Below.calls g s0_0 s0_1 s0_2 a1 t128 t129 t130 w0 _ ?side1 ?side2 A3.out).mono ?_); (case side1 => exact (zl12_0 HI0.out)); (case side2 => exact (zl12_1 HB.out (IsS110.ge HI0.out))); rintro e w4 ⟨rfl, hi, hb, hk⟩; refine ⟨_, rfl, ?_⟩; replace HK := Aside0.mk (KeepBut.trans (zl12_2 HK.out) hk (.inl rfl)); replace HI0 := Aside0.mk (hi); replace HB := Aside0.mk (hb); (try clear hb); (try clear hk); (try clear hi)))
 go_ret
 exact ⟨zE, (zl12_0 HI0.out), zG (IsS110.ge HI0.out), (zl12_2 HK.out)⟩
/-! ### spec_l1New: function 81 -/
def spec_l1New.l0 : Nat → List Int → Int → Int → Option (List Int × Int × Int)
 | 0, _, _, _ => none
 | k + 1, x0, x3, x4 => if x4 < (x0.length : Int) then (if x4 < 4000 then (if 0 ≤ x4 then (spec_l1New.l0 k x0 (Go.bits .and .i64 (wrap64 ((wrap64 ((wrap64 (x3 * 131)) + (wrap64 (rd x0 x4)))) + 7)) 1073741823) (wrap64 (x4 + 1))) else (none)) else (some (x0, 0, x3))) else (some (x0, 0, x3))
def spec_l1New.f (k : Nat) (l0 : List Int) : Option (List Int × Int × Int) := spec_l1New.l0 k l0 (wrap64 (26583 + (l0.length : Int))) 0
theorem zl23_0 {p q : Prop} (g : p) (h : p → q := by intro zg_; repeat (first | (with_reducible first | exact zg_ | apply below_alloc | apply pw_below_drewN | apply below_drew1) | exact zg_)) : q := h g
theorem zl23_1 {p q p0 : Prop} (g : p) (g0 : p0) (h : p → p0 → q := by intro zg_ z0_; repeat (first | (with_reducible first | exact zg_ | apply below_alloc | apply pw_below_drewN | apply below_drew1 | refine below_set ?_ z0_) | exact zg_)) : q := h g g0
set_option maxHeartbeats 8000000 in
set_option maxRecDepth 100000 in
theorem spec_l1New.calls (k : Nat) (A0 : Option Addr) (c0 : Nat) (l0 : List Int) (r1 : List Int) (r2 : Int) (r3 : Int) (w0 w : World) (hB : Below w0.heap.size w0 w) (hr0 : Kd.C (Kd.int .u8) w0 A0 l0.length l0) (hc0 : l0.length ≤ c0) (h : spec_l1New.f k l0 = some (r1, r2, r3)) :
  Calls Try.prog 81 #[.slice A0 l0.length c0] w fun e w' => ∃ g_ : Nat, e = .returned (.pointer (some ⟨g_, 0, none⟩)) ∧ IsS110 w0 w' g_ r1 r2 r3 ∧ Below w0.heap.size w0 w' ∧ Below w.heap.size w w' := by
 have hu110 := Try.underlying110
 have HR0 := Aside0.mk hr0
 have HC0 := Aside0.mk hc0
 clear hr0 hc0
 have HBW := Aside0.mk (Below.refl w.heap.size w)
 have HW0 := Aside0.mk hB.size
 have HB := Aside0.mk hB
 clear hB
 have H : (spec_l1New.l0 k l0 (wrap64 (26583 + (l0.length : Int))) 0) = some (r1, r2, r3) := h
 clear h
 have H' := Aside0.mk H; clear H
 go_enter Try.func81, Try.ntmps81
 go_wp2
 go_loopg [3, 4] k (fun kq v3 v4 w' => ∃ (x3_1 : Int) (x4_1 : Int), v3 = .int .i64 x3_1 ∧ v4 = .int .i64 x4_1 ∧ Aside0 (spec_l1New.l0 kq l0 x3_1 x4_1 = some (r1, r2, r3)) ∧ Aside0 (kq ≤ k) ∧ Aside0 (Below w0.heap.size w0 w') ∧ Aside0 (Below w.heap.size w w'))
 case atStart => exact ⟨(wrap64 (26583 + (l0.length : Int))), (0), zF, zF, H', ⟨Nat.le_refl _⟩, ⟨zB⟩, ⟨(zl23_0 HBW.out)⟩⟩
 case round =>
 clear H'
 obtain ⟨x3_1, x4_1, rfl, rfl, HA, HK1, HB, HBW⟩ := hrel
 cases gk with
 | zero => exact absurd HA.out (by simp [spec_l1New.l0])
 | succ k1 =>
 have H := HA.out
 clear HA
 simp only [spec_l1New.l0] at H
 by_cases c2 : x4_1 < (l0.length : Int)
 ·rw [if_pos c2] at H
  have c2b0 : decide (x4_1 < (l0.length : Int)) = true := decide_eq_true c2
  clear c2
  by_cases c3 : x4_1 < 4000
  ·rw [if_pos c3] at H
   have c3b0 : decide (x4_1 < 4000) = true := decide_eq_true c3
   clear c3
   by_cases c4 : 0 ≤ x4_1
   ·rw [if_pos c4] at H
    have c4b0 : decide (0 ≤ x4_1) = true := decide_eq_true c4
    clear c4
    have H' := Aside0.mk H; clear H
    have p242 : 0 ≤ (x4_1 : Int) := zA
    have q242 : x4_1 < (l0.length : Int) := zA
    obtain ⟨ad242, e242, hx242_0⟩ := Kd.at_int HR0.out x4_1 p242 q242
    cases e242
    replace hx242_0 := pw_cell_below HB.out hx242_0
    replace p242 := eq_true p242
    replace q242 := eq_true q242
    go_wp2
    go_roundg k1
    case measure => have := HK1.out; omega
    case rel => exact ⟨(Go.bits .and .i64 (wrap64 ((wrap64 ((wrap64 (x3_1 * 131)) + (wrap64 (rd l0 x4_1)))) + 7)) 1073741823), (wrap64 (x4_1 + 1)), zF, zF, H', ⟨by have := HK1.out; omega⟩, ⟨zB⟩, ⟨(zl23_0 HBW.out)⟩⟩
   rw [if_neg c4] at H
   exact absurd H (by simp)
  rw [if_neg c3] at H
  have c3b0 : decide (x4_1 < 4000) = false := decide_eq_false c3
  clear c3
  simp only [Option.some.injEq, Prod.mk.injEq] at H
  obtain ⟨rfl, rfl, rfl⟩ := H
  go_wp2_with (first | ((with_reducible refine gate_dst (N := 31) rfl ?_); refine zBx (N := 31) #[.slice A0 l0.length c0, .int .i64 0, .int .i64 x3_1] 110 ?_; intro gb243 hg w5 hbox hb; have BK243 := Aside0.mk (hbox); have GW243 := Aside0.mk ((by rw [hg]; exact (below_size (zl23_0 HBW.out)) : w.heap.size ≤ gb243)); have GE243 := Aside0.mk ((Nat.le_trans HW0.out (by rw [hg]; exact (below_size (zl23_0 HBW.out)) : w.heap.size ≤ gb243) : w0.heap.size ≤ gb243)); replace HBW := Aside0.mk (below_step HBW.out hb); replace HB := zX hb; clear hb hbox hg))
  go_ret
  exact ⟨_, rfl, (show IsS110 w0 _ gb243 l0 0 x3_1 from ⟨_, _, zK BK243.out, GE243.out, HR0.out⟩), zG GE243.out, (zl23_1 HBW.out GW243.out)⟩
 rw [if_neg c2] at H
 have c2b0 : decide (x4_1 < (l0.length : Int)) = false := decide_eq_false c2
 clear c2
 simp only [Option.some.injEq, Prod.mk.injEq] at H
 obtain ⟨rfl, rfl, rfl⟩ := H
 go_wp2_with (first | ((with_reducible refine gate_dst (N := 31) rfl ?_); refine zBx (N := 31) #[.slice A0 l0.length c0, .int .i64 0, .int .i64 x3_1] 110 ?_; intro gb244 hg w6 hbox hb; have BK244 := Aside0.mk (hbox); have GW244 := Aside0.mk ((by rw [hg]; exact (below_size (zl23_0 HBW.out)) : w.heap.size ≤ gb244)); have GE244 := Aside0.mk ((Nat.le_trans HW0.out (by rw [hg]; exact (below_size (zl23_0 HBW.out)) : w.heap.size ≤ gb244) : w0.heap.size ≤ gb244)); replace HBW := Aside0.mk (below_step HBW.out hb); replace HB := zX hb; clear hb hbox hg))
 go_ret
 exact ⟨_, rfl, (show IsS110 w0 _ gb244 l0 0 x3_1 from ⟨_, _, zK BK244.out, GE244.out, HR0.out⟩), zG GE244.out, (zl23_1 HBW.out GW244.out)⟩
/-! ### spec_l1Max: function 112 -/
def spec_l1Max.f (a0 : Int) (a1 : Int) : Option (Int) := if a0 > a1 then (some a0) else (some a1)
set_option maxHeartbeats 8000000 in
set_option maxRecDepth 100000 in
theorem spec_l1Max.calls (a0 : Int) (a1 : Int) (r : Int) (w : World) (h : spec_l1Max.f a0 a1 = some r) :
  Calls Try.prog 112 #[.int .i64 a0, .int .i64 a1] w fun e w' => e = .returned (.int .i64 r) ∧ Drawn0 w w' := by
 have H : (if a0 > a1 then (some a0) else (some a1)) = some r := h
 clear h
 by_cases c3 : a0 > a1
 ·rw [if_pos c3] at H
  have c3b0 : decide (a1 < a0) = true := decide_eq_true c3
  clear c3
  obtain rfl := Option.some.inj H
  go_enter Try.func112, Try.ntmps112
  go_wp2
  go_ret
  exact ⟨by first | rfl | (simp; done) | (simp [*]; done), by repeat (first | exact Drawn0.refl _ | apply Drawn0.step)⟩
 rw [if_neg c3] at H
 have c3b0 : decide (a1 < a0) = false := decide_eq_false c3
 clear c3
 obtain rfl := Option.some.inj H
 go_enter Try.func112, Try.ntmps112
 go_wp2
 go_ret
 exact ⟨by first | rfl | (simp; done) | (simp [*]; done), by repeat (first | exact Drawn0.refl _ | apply Drawn0.step)⟩
/-! ### spec_l3Order: function 145 -/
def spec_l3Order.l0 : Nat → Int → List Int → Int → List Int → Int → Int → Option (List Int × Int × Int)
 | 0, _, _, _, _, _, _ => none
 | k + 1, x1, x5, x6, x1000, x1001, x1002 => if x6 < x1 then ((spec_l1Below.f x1000 x1001 x1002 (wrap64 ((x5.length : Int) + 1))).bind fun bt371 => ((some (([] : List Int) : List Int)).bind fun y374 => (if 0 ≤ bt371.1 then (if bt371.1 ≤ (x5.length : Int) then ((some (x5.drop (bt371.1 : Int).toNat : List Int)).bind fun y377 => (if y374.length + y377.length < 17592186044416 then ((some (y374 ++ y377 : List Int)).bind fun y381 => ((some (x5.take (bt371.1 : Int).toNat : List Int)).bind fun y384 => (if y384.length < 17592186044416 then ((some (y384 ++ [x6] : List Int)).bind fun y387 => (if y387.length + y381.length < 17592186044416 then (spec_l3Order.l0 k x1 (y387 ++ y381) (wrap64 (x6 + 1)) x1000 bt371.2.1 bt371.2.2) else (none))) else (none)))) else (none))) else (none)) else (none)))) else (some (x5, x1001, x1002))
def spec_l3Order.f (k : Nat) (s0_0 : List Int) (s0_1 : Int) (s0_2 : Int) (a1 : Int) : Option (List Int × Int × Int) := spec_l3Order.l0 k a1 (([] : List Int)) 0 s0_0 s0_1 s0_2
theorem zl41_0 {p q : Prop} (g : p) (h : p → q := by intro zg_; repeat (first | (with_reducible first | exact zg_ | apply KeepBut.set_ | apply keep_drewN | apply keep_drew | apply keep_alloc) | exact zg_)) : q := h g
theorem zl41_1 {p q : Prop} (g : p) (h : p → q := by intro zg_; repeat (first | (with_reducible first | exact zg_ | apply IsS110.alloc | apply IsS110.drewN | apply IsS110.drew | apply IsS110.set_1 | apply IsS110.set_2) | exact zg_)) : q := h g
theorem zl41_2 {p q p0 : Prop} (g : p) (g0 : p0) (h : p → p0 → q := by intro zg_ z0_; repeat (first | (with_reducible first | exact zg_ | apply below_alloc | apply pw_below_drewN | apply below_drew1 | refine below_set ?_ z0_) | exact zg_)) : q := h g g0
set_option maxHeartbeats 8000000 in
set_option maxRecDepth 100000 in
theorem spec_l3Order.calls (k : Nat) (g : Nat) (s0_0 : List Int) (s0_1 : Int) (s0_2 : Int) (a1 : Int) (r1 : List Int) (r2 : Int) (r3 : Int) (w0 w : World) (hI : IsS110 w0 w g s0_0 s0_1 s0_2) (hB : Below w0.heap.size w0 w) (h : spec_l3Order.f k s0_0 s0_1 s0_2 a1 = some (r1, r2, r3)) :
  Calls Try.prog 145 #[.pointer (some ⟨g, 0, none⟩), .int .i64 a1] w fun e w' => ∃ v0_ : Value, e = .returned (v0_) ∧ Kd.R (Kd.int .i64) 3 w' w.heap.size (fun _ => True) v0_ r1 ∧ IsS110 w0 w' g s0_0 r2 r3 ∧ Below w0.heap.size w0 w' ∧ KeepBut w w' g none := by
 have HI0 := Aside0.mk hI
 have HK := Aside0.mk (KeepBut.refl w g none)
 have HL := Aside0.mk hB.size
 clear hI
 have HW0 := Aside0.mk hB.size
 have HB := Aside0.mk hB
 clear hB
 have H : (spec_l3Order.l0 k a1 (([] : List Int)) 0 s0_0 s0_1 s0_2) = some (r1, r2, r3) := h
 clear h
 obtain ⟨y368, hy368⟩ : ∃ y_ : List Int, y_ = (([] : List Int)) := ⟨_, rfl⟩
 replace H : (spec_l3Order.l0 k a1 y368 0 s0_0 s0_1 s0_2) = some (r1, r2, r3) := by first | (rw [hy368]; with_reducible exact H) | (have H2_ := (Option.bind_some _ _).symm.trans H; rw [hy368]; with_reducible exact H2_) | (have H2_ := (Option.bind_some _ _).symm.trans H; with_reducible exact H2_) | with_reducible exact H | (rw [hy368]; exact H) | exact H
 have Ny368 := Aside0.mk hy368
 clear hy368
 have H' := Aside0.mk H; clear H
 go_enter Try.func145, Try.ntmps145
 go_wp2_with (first | ((with_reducible refine gate_dst (N := 9) rfl ?_); refine Kd.R_lit (Kd.int .i64) _ 3 ?hg (N := 9) ?hd (xs := ([] : List Int)) (inner := []) (ok := fun _ => True) (okp := fun _ => True) ?hr ?hp (fun _ hk => hk) trivial (Below.refl _ _) (Nat.le_refl _) (by simp) ?_; (case hd => rfl); (case hg => rfl); (case hr => first | (go_simp; done) | (go_simp; rfl)); (case hp => exact (Reps.none _ _)); intro v369 w3 ho4 hb hg_ hnew_; clear hg_ hnew_; (first | rw [← Ny368.out] at ho4 | (simp only [Int.reduceToNat] at ho4; rw [← Ny368.out] at ho4)); have n0_ := Aside0.mk (Kd.R_lower ho4 (keep_size (w := w) (g := g) (row := none) (zl41_0 HK.out))); have n1_ := Aside0.mk (IsS110.below (zl41_1 HI0.out) hb); have n2_ := Aside0.mk (KeepBut.trans (zl41_0 HK.out) (KeepBut.of_below hb g none) (.inl rfl)); have n3_ := Aside0.mk (below_step (zG (IsS110.ge HI0.out)) hb); clear HI0; clear HK; clear HB; have HO370 := n0_; have HI0 := n1_; have HK := n2_; have HB := n3_; clear n0_ n1_ n2_ n3_; clear hb ho4))
 go_loopg [5, 6] k (fun kq v5 v6 w' => ∃ (x5_1 : List Int) (x6_1 : Int) (x1001_1 : Int) (x1002_1 : Int), v6 = .int .i64 x6_1 ∧ Aside0 (spec_l3Order.l0 kq a1 x5_1 x6_1 s0_0 x1001_1 x1002_1 = some (r1, r2, r3)) ∧ Aside0 (kq ≤ k) ∧ Aside0 (Kd.R (Kd.int .i64) 3 w' w.heap.size (fun _ => True) v5 x5_1) ∧ Aside0 (IsS110 w0 w' g s0_0 x1001_1 x1002_1) ∧ Aside0 (KeepBut w w' g none) ∧ Aside0 (Below w0.heap.size w0 w'))
 case atStart => exact ⟨(y368), (0), (s0_1), (s0_2), zF, H', ⟨Nat.le_refl _⟩, ⟨zR HO370.out⟩, ⟨(zl41_1 HI0.out)⟩, ⟨(zl41_0 HK.out)⟩, ⟨zG (IsS110.ge HI0.out)⟩⟩
 case round =>
 clear H'
 obtain ⟨x5_1, x6_1, x1001_1, x1002_1, rfl, HA, HK1, HO_5, HI0, HK, HB⟩ := hrel
 cases gk with
 | zero => exact absurd HA.out (by simp [spec_l3Order.l0])
 | succ k1 =>
 have H := HA.out
 clear HA
 simp only [spec_l3Order.l0] at H
 by_cases c5 : x6_1 < a1
 ·rw [if_pos c5] at H
  have c5b0 : decide (x6_1 < a1) = true := decide_eq_true c5
  clear c5
  obtain ⟨⟨t371, t372, t373⟩, A6, H⟩ := zO H
  dsimp only at H
  obtain ⟨y374, hy374⟩ : ∃ y_ : List Int, y_ = (([] : List Int)) := ⟨_, rfl⟩
  replace H : (if 0 ≤ t371 then (if t371 ≤ (x5_1.length : Int) then ((some (x5_1.drop (t371 : Int).toNat : List Int)).bind fun y377 => (if y374.length + y377.length < 17592186044416 then ((some (y374 ++ y377 : List Int)).bind fun y381 => ((some (x5_1.take (t371 : Int).toNat : List Int)).bind fun y384 => (if y384.length < 17592186044416 then ((some (y384 ++ [x6_1] : List Int)).bind fun y387 => (if y387.length + y381.length < 17592186044416 then (spec_l3Order.l0 k1 a1 (y387 ++ y381) (wrap64 (x6_1 + 1)) s0_0 t372 t373) else (none))) else (none)))) else (none))) else (none)) else (none)) = some (r1, r2, r3) := by first | (rw [hy374]; with_reducible exact H) | (have H2_ := (Option.bind_some _ _).symm.trans H; rw [hy374]; with_reducible exact H2_) | (have H2_ := (Option.bind_some _ _).symm.trans H; with_reducible exact H2_) | with_reducible exact H | (rw [hy374]; exact H) | exact H
  have Ny374 := Aside0.mk hy374
  clear hy374
  by_cases c7 : 0 ≤ t371
  ·rw [if_pos c7] at H
   have c7b0 := eq_true c7
   have c7b1 : decide (0 ≤ t371) = true := decide_eq_true c7
   clear c7
   by_cases c8 : t371 ≤ (x5_1.length : Int)
   ·rw [if_pos c8] at H
    have c8b0 := eq_true c8
    have c8b1 : decide (t371 ≤ (x5_1.length : Int)) = true := decide_eq_true c8
    clear c8
    obtain ⟨y377, hy377⟩ : ∃ y_ : List Int, y_ = (x5_1.drop (t371 : Int).toNat) := ⟨_, rfl⟩
    replace H : (if y374.length + y377.length < 17592186044416 then ((some (y374 ++ y377 : List Int)).bind fun y381 => ((some (x5_1.take (t371 : Int).toNat : List Int)).bind fun y384 => (if y384.length < 17592186044416 then ((some (y384 ++ [x6_1] : List Int)).bind fun y387 => (if y387.length + y381.length < 17592186044416 then (spec_l3Order.l0 k1 a1 (y387 ++ y381) (wrap64 (x6_1 + 1)) s0_0 t372 t373) else (none))) else (none)))) else (none)) = some (r1, r2, r3) := by first | (rw [hy377]; with_reducible exact H) | (have H2_ := (Option.bind_some _ _).symm.trans H; rw [hy377]; with_reducible exact H2_) | (have H2_ := (Option.bind_some _ _).symm.trans H; with_reducible exact H2_) | with_reducible exact H | (rw [hy377]; exact H) | exact H
    have Ny377 := Aside0.mk hy377
    clear hy377
    by_cases c9 : y374.length + y377.length < 17592186044416
    ·rw [if_pos c9] at H
     have LMc9 := Aside0.mk c9
     clear c9
     obtain ⟨y381, hy381⟩ : ∃ y_ : List Int, y_ = (y374 ++ y377) := ⟨_, rfl⟩
     replace H : ((some (x5_1.take (t371 : Int).toNat : List Int)).bind fun y384 => (if y384.length < 17592186044416 then ((some (y384 ++ [x6_1] : List Int)).bind fun y387 => (if y387.length + y381.length < 17592186044416 then (spec_l3Order.l0 k1 a1 (y387 ++ y381) (wrap64 (x6_1 + 1)) s0_0 t372 t373) else (none))) else (none))) = some (r1, r2, r3) := by first | (rw [hy381]; with_reducible exact H) | (have H2_ := (Option.bind_some _ _).symm.trans H; rw [hy381]; with_reducible exact H2_) | (have H2_ := (Option.bind_some _ _).symm.trans H; with_reducible exact H2_) | with_reducible exact H | (rw [hy381]; exact H) | exact H
     have Ny381 := Aside0.mk hy381
     clear hy381
     have c10b0 := eq_true (zA : t371 ≤ (x5_1.length : Int))
     obtain ⟨y384, hy384⟩ : ∃ y_ : List Int, y_ = (x5_1.take (t371 : Int).toNat) := ⟨_, rfl⟩
     replace H : (if y384.length < 17592186044416 then ((some (y384 ++ [x6_1] : List Int)).bind fun y387 => (if y387.length + y381.length < 17592186044416 then (spec_l3Order.l0 k1 a1 (y387 ++ y381) (wrap64 (x6_1 + 1)) s0_0 t372 t373) else (none))) else (none)) = some (r1, r2, r3) := by first | (rw [hy384]; with_reducible exact H) | (have H2_ := (Option.bind_some _ _).symm.trans H; rw [hy384]; with_reducible exact H2_) | (have H2_ := (Option.bind_some _ _).symm.trans H; with_reducible exact H2_) | with_reducible exact H | (rw [hy384]; exact H) | exact H
     have Ny384 := Aside0.mk hy384
     clear hy384
     by_cases c11 : y384.length < 17592186044416
     ·rw [if_pos c11] at H
      have LMc11 := Aside0.mk c11
      clear c11
      obtain ⟨y387, hy387⟩ : ∃ y_ : List Int, y_ = (y384 ++ [x6_1]) := ⟨_, rfl⟩
      replace H : (if y387.length + y381.length < 17592186044416 then (spec_l3Order.l0 k1 a1 (y387 ++ y381) (wrap64 (x6_1 + 1)) s0_0 t372 t373) else (none)) = some (r1, r2, r3) := by first | (rw [hy387]; with_reducible exact H) | (have H2_ := (Option.bind_some _ _).symm.trans H; rw [hy387]; with_reducible exact H2_) | (have H2_ := (Option.bind_some _ _).symm.trans H; with_reducible exact H2_) | with_reducible exact H | (rw [hy387]; exact H) | exact H
      have Ny387 := Aside0.mk hy387
      clear hy387
      by_cases c12 : y387.length + y381.length < 17592186044416
      ·rw [if_pos c12] at H
       have LMc12 := Aside0.mk c12
       clear c12
       obtain ⟨y390, hy390⟩ : ∃ y_ : List Int, y_ = (y387 ++ y381) := ⟨_, rfl⟩
       replace H : (spec_l3Order.l0 k1 a1 y390 (wrap64 (x6_1 + 1)) s0_0 t372 t373) = some (r1, r2, r3) := by first | (rw [hy390]; with_reducible exact H) | (have H2_ := (Option.bind_some _ _).symm.trans H; rw [hy390]; with_reducible exact H2_) | (have H2_ := (Option.bind_some _ _).symm.trans H; with_reducible exact H2_) | with_reducible exact H | (rw [hy390]; exact H) | exact H
       have Ny390 := Aside0.mk hy390
       clear hy390
       have H' := Aside0.mk H; clear H
       obtain ⟨Ao13, co13, eo13⟩ := Kd.R_slice HO_5.out
       subst eo13
       go_wp2_with (first | ((with_reducible refine gate_callee (f := 125) rfl ?_); refine zD (some 19) Try.func125 #[.pointer (some ⟨g, 0, none⟩), .int .i64 (wrap64 ((x5_1.length : Int) + 1))] ?_; (with_reducible refine (spec_l1Below.calls g s0_0 x1001_1 x1002_1 (wrap64 ((x5_1.length : Int) + 1)) t371 t372 t373 w0 _ ?side1 ?side2 A6.out).mono ?_); (case side1 => exact (zl41_1 HI0.out)); (case side2 => exact (zl41_2 HB.out (IsS110.ge HI0.out))); rintro e w14 ⟨rfl, hi, hb, hk⟩; refine ⟨_, rfl, ?_⟩; replace HO_5 := Aside0.mk (Kd.R_mono (Kd.R_keep (IsS110.apart (show IsS110 w0 _ g s0_0 x1001_1 x1002_1 from (zl41_1 HI0.out)) (zR HO_5.out) (by decide)) hk (fun _ h => h.2)) (fun _ h => h.1)); replace HK := Aside0.mk (KeepBut.trans (zl41_0 HK.out) hk (.inl rfl)); replace HI0 := Aside0.mk (hi); replace HB := Aside0.mk (hb); (try clear hb); (try clear hk); (try clear hi)) | ((with_reducible refine gate_dst (N := 20) rfl ?_); refine Kd.R_lit (Kd.int .i64) _ 3 ?hg (N := 20) ?hd (xs := ([] : List Int)) (inner := []) (ok := fun _ => True) (okp := fun _ => True) ?hr ?hp (fun _ hk => hk) trivial (Below.refl _ _) (Nat.le_refl _) (by simp) ?_; (case hd => rfl); (case hg => rfl); (case hr => first | (go_simp; done) | (go_simp; rfl)); (case hp => exact (Reps.none _ _)); intro v375 w15 ho16 hb hg_ hnew_; clear hg_ hnew_; (first | rw [← Ny374.out] at ho16 | (simp only [Int.reduceToNat] at ho16; rw [← Ny374.out] at ho16)); have n0_ := Aside0.mk (Kd.R_elder' (zR HO_5.out) (Kd.R_base ho16) hb); have n1_ := Aside0.mk (Kd.R_lower (Kd.R_new' ho16 (Kd.R_lt (zR HO_5.out))) (keep_size (w := w) (g := g) (row := none) (zl41_0 HK.out))); have n2_ := Aside0.mk (IsS110.below (zl41_1 HI0.out) hb); have n3_ := Aside0.mk (KeepBut.trans (zl41_0 HK.out) (KeepBut.of_below hb g none) (.inl rfl)); have n4_ := Aside0.mk (below_step (zG (IsS110.ge HI0.out)) hb); clear HO_5; clear HI0; clear HK; clear HB; have HO_5 := n0_; have HO376 := n1_; have HI0 := n2_; have HK := n3_; have HB := n4_; clear n0_ n1_ n2_ n3_ n4_; clear hb ho16; have q17 : (t371 : Int) ≤ ((x5_1.length : Int) : Int) := zA; obtain ⟨i017, hi017, _, hsz17, _⟩ := info_parts info3; have hroom17 : x5_1.length ≤ co13 := (Kd.R_reads' HO_5.out).2.1; have hC17 : Kd.C (Kd.int .i64) _ Ao13 x5_1.length x5_1 := (Kd.R_reads' HO_5.out).2.2; have q017 : (0 : Int) ≤ (t371 : Int) := zA; have hcut17 := cut_from (P := Try.prog) 27 3 .i64 Try.underlying27 hi017 1 hsz17 Ao13 x5_1.length co13 t371 q017 q17; have hr17 := Kd.C_drop (m := (t371 : Int).toNat) (c := co13) hC17 (by omega) hroom17; obtain ⟨A17, hA17⟩ : ∃ A1, A1 = (if co13 = (t371 : Int).toNat then Ao13 else (Ao13 : Option Addr).map (·.add ((t371 : Int).toNat * 1))) := ⟨_, rfl⟩; obtain ⟨c17, hc17⟩ : ∃ c1, c1 = co13 - (t371 : Int).toNat := ⟨_, rfl⟩; have hy17 : y377.length = x5_1.length - (t371 : Int).toNat := (by rw [Ny377.out, List.length_drop] <;> omega); rw [show (x5_1).drop (t371 : Int).toNat = y377 from Ny377.out.symm] at hr17; replace hr17 : Kd.C (Kd.int .i64) _ A17 y377.length y377 := (by rw [hA17]; exact hr17); rw [← hy17, ← hA17, ← hc17] at hcut17; have HR380 := Aside0.mk hr17; have HC380 := Aside0.mk (show y377.length ≤ c17 from by rw [hy17, hc17]; exact Nat.sub_le_sub_right hroom17 _); clear hr17 hC17 hroom17 hi017 hsz17 hc17; have KY17 := Aside0.mk hy17; have KA17 := Aside0.mk hA17; clear hy17 hA17; have KL17 := Aside0.mk (show (t371 : Int).toNat ≤ x5_1.length from by omega); replace q17 := eq_true q17) | ((with_reducible refine gate_builtin (b := .append) (xs := #[.tmp 20, .tmp 23]) rfl ?_); at_builtin; refine Kd.R_append_rows (Kd.int .i64) w.heap.size rfl (.tmp 20) (.tmp 23) 27 3 (.int .i64 0) 8 rfl Try.underlying27 info3 rfl (by decide) (by omega) v375 y374 y377 _ _ _ (fun k_ => some k_ ≠ (.slice Ao13 x5_1.length co13 : Value).ownBlock) (fun _ => False) rfl rfl ?aO ?aR (fun _ _ h => h) (fun _ h => h.elim) ?aF (Below.refl _ _) ?aS ?aL ?_; (case aR => repeat (first | exact (by repeat (first | (with_reducible exact HR380.out) | (with_reducible refine Kd.C_alloc ?_ _) | (with_reducible refine Kd.C_drewN ?_ _) | (with_reducible refine Kd.C_drew ?_) | exact HR380.out)) | (with_reducible refine Kd.C_alloc ?_ _) | (with_reducible refine Kd.C_drewN ?_ _) | (with_reducible refine Kd.C_drew ?_))); (case aF => exact (fun k_ hk => Kd.fresh' (Kd.R_lt (zR HO_5.out)) k_ hk)); (case aO => exact (by (with_reducible repeat (first | apply Kd.R_alloc | apply Kd.R_drewN | apply Kd.R_drew)); exact Kd.R_mono HO376.out (fun _ hk => hk.2))); (case aS => exact (keep_size (w := w) (g := g) (row := none) (zl41_0 HK.out))); (case aL => have := LMc9.out; omega); intro v382 w18 ho hb hg hat; rw [← Ny381.out] at ho; have n0_ := Aside0.mk (Kd.R_after (ok := (fun _ => True)) (zR HO_5.out) hg hat); have n1_ := Aside0.mk (IsS110.grown (zl41_1 HI0.out) hg (IsS110.own_ne HI0.out HO376.out (by decide))); have n2_ := Aside0.mk (below_weaken (zG (IsS110.ge HI0.out)) HL.out hb); have n3_ := Aside0.mk (KeepBut.trans (zl41_0 HK.out) (KeepBut.of_grown hg g) (Kd.R_base2 HO376.out)); have n4_ := Aside0.mk ((show Kd.C (Kd.int .i64) w18 A17 y377.length y377 from by rw [Ny377.out, KA17.out]; exact Kd.C_drop (m := (t371 : Int).toNat) (c := co13) ((Kd.R_reads' (Kd.R_after (ok := (fun _ => True)) (zR HO_5.out) hg hat)).2.2) KL17.out ((Kd.R_reads' (Kd.R_after (ok := (fun _ => True)) (zR HO_5.out) hg hat)).2.1))); have n5_ := Aside0.mk (ho); clear HO_5; clear HI0; clear HB; clear HK; clear HR380; clear HO376; have HO_5 := n0_; have HI0 := n1_; have HB := n2_; have HK := n3_; have HR380 := n4_; have HO383 := n5_; clear n0_ n1_ n2_ n3_ n4_ n5_; clear ho hb hg hat; have q19 : (t371 : Int) ≤ ((x5_1.length : Int) : Int) := zA; obtain ⟨i019, hi019, _, hsz19, _⟩ := info_parts info3; have hcut19 := cut_to (P := Try.prog) 27 3 .i64 Try.underlying27 hi019 Ao13 x5_1.length co13 t371 (zA) q19 (Kd.R_reads' HO_5.out).2.1; have hr19 := Kd.R_take (m := (t371 : Int).toNat) HO_5.out (by omega); have hy19 : y384.length = (t371 : Int).toNat := (by rw [Ny384.out, List.length_take]; omega); rw [← Ny384.out] at hr19; rw [← hy19] at hr19 hcut19; clear hy19 hi019 hsz19 HO_5; have HO386 := Aside0.mk hr19; clear hr19; replace q19 := eq_true q19) | ((with_reducible refine gate_builtin (b := .append) (xs := #[.tmp 27, .tmp 29]) rfl ?_); at_builtin; refine Kd.R_append (Kd.int .i64) w.heap.size rfl (.tmp 27) (.tmp 29) 27 3 (.int .i64 0) 8 rfl Try.underlying27 info3 rfl (by decide) (by omega) (.slice Ao13 y384.length co13) y384 x6_1 [.int .i64 x6_1] (fun k_ => some k_ ≠ (v382 : Value).ownBlock) (fun _ => False) rfl rfl ?aP (fun _ hk => hk.elim) ?aF ?aO (Below.refl _ _) ?aS ?aL ?_; (case aP => exact rfl); (case aF => exact (fun k_ hk => Kd.fresh' (Kd.R_lt (zR HO383.out)) k_ hk)); (case aO => exact (by (with_reducible repeat (first | apply Kd.R_alloc | apply Kd.R_drewN | apply Kd.R_drew)); exact Kd.R_mono HO386.out (fun _ hk => hk.2))); (case aS => exact (keep_size (w := w) (g := g) (row := none) (zl41_0 HK.out))); (case aL => have := LMc11.out; omega); intro v388 w20 ho hb hg hat; rw [← Ny387.out] at ho; have n0_ := Aside0.mk (IsS110.grown (zl41_1 HI0.out) hg (IsS110.own_ne HI0.out HO386.out (by decide))); have n1_ := Aside0.mk (Kd.R_after (ok := (fun _ => True)) (by (with_reducible repeat (first | apply Kd.R_alloc | apply Kd.R_drewN | apply Kd.R_drew)); exact Kd.R_mono HO383.out (fun _ hk => ⟨trivial, by first | exact hk | exact fun e_ => hk (e_.trans (ownB_len _ _ _ _ _))⟩)) hg hat); have n2_ := Aside0.mk (below_weaken (zG (IsS110.ge HI0.out)) HL.out hb); have n3_ := Aside0.mk (KeepBut.trans (zl41_0 HK.out) (KeepBut.of_grown hg g) (Kd.R_base2 HO386.out)); have n4_ := Aside0.mk (ho); clear HI0; clear HO383; clear HB; clear HK; clear HO386; have HI0 := n0_; have HO383 := n1_; have HB := n2_; have HK := n3_; have HO389 := n4_; clear n0_ n1_ n2_ n3_ n4_; clear ho hb hg hat; obtain ⟨Ao22, co22, eo22⟩ := Kd.R_slice HO383.out; subst eo22) | ((with_reducible refine gate_builtin (b := .append) (xs := #[.tmp 30, .tmp 31]) rfl ?_); at_builtin; refine Kd.R_append_rows (Kd.int .i64) w.heap.size rfl (.tmp 30) (.tmp 31) 27 3 (.int .i64 0) 8 rfl Try.underlying27 info3 rfl (by decide) (by omega) v388 y387 y381 _ _ _ (fun k_ => some k_ ≠ (.slice Ao22 y381.length co22 : Value).ownBlock) (fun _ => False) rfl rfl ?aO ?aR (fun _ _ h => h) (fun _ h => h.elim) ?aF (Below.refl _ _) ?aS ?aL ?_; (case aR => repeat (first | exact (Kd.R_reads' HO383.out).2.2 | (with_reducible refine Kd.C_alloc ?_ _) | (with_reducible refine Kd.C_drewN ?_ _) | (with_reducible refine Kd.C_drew ?_))); (case aF => exact (fun k_ hk => Kd.fresh' (Kd.R_lt (zR HO383.out)) k_ hk)); (case aO => exact (zR HO389.out)); (case aS => exact (keep_size (w := w) (g := g) (row := none) (zl41_0 HK.out))); (case aL => have := LMc12.out; omega); intro v391 w21 ho hb hg hat; rw [← Ny390.out] at ho; have n0_ := Aside0.mk (IsS110.grown (zl41_1 HI0.out) hg (IsS110.own_ne HI0.out HO389.out (by decide))); have n1_ := Aside0.mk (Kd.R_after (ok := (fun _ => True)) (zR HO383.out) hg hat); have n2_ := Aside0.mk (below_weaken (zG (IsS110.ge HI0.out)) HL.out hb); have n3_ := Aside0.mk (KeepBut.trans (zl41_0 HK.out) (KeepBut.of_grown hg g) (Kd.R_base2 HO389.out)); have n4_ := Aside0.mk (ho); clear HI0; clear HO383; clear HB; clear HK; clear HO389; have HI0 := n0_; have HO383 := n1_; have HB := n2_; have HK := n3_; have HO392 := n4_; clear n0_ n1_ n2_ n3_ n4_; clear ho hb hg hat))
       go_roundg k1
       case measure => have := HK1.out; omega
       case rel => exact ⟨(y390), (wrap64 (x6_1 + 1)), (t372), (t373), zF, H', ⟨by have := HK1.out; omega⟩, ⟨by (with_reducible repeat (first | apply Kd.R_alloc | apply Kd.R_drewN | apply Kd.R_drew)); exact Kd.R_mono HO392.out (fun _ hk => trivial)⟩, ⟨(zl41_1 HI0.out)⟩, ⟨(zl41_0 HK.out)⟩, ⟨zG (IsS110.ge HI0.out)⟩⟩
      rw [if_neg c12] at H
      exact absurd H (by simp)
     rw [if_neg c11] at H
     exact absurd H (by simp)
    rw [if_neg c9] at H
    exact absurd H (by simp)
   rw [if_neg c8] at H
   exact absurd H (by simp)
  rw [if_neg c7] at H
  exact absurd H (by simp)
 rw [if_neg c5] at H
 have c5b0 : decide (x6_1 < a1) = false := decide_eq_false c5
 clear c5
 simp only [Option.some.injEq, Prod.mk.injEq] at H
 obtain ⟨rfl, rfl, rfl⟩ := H
 go_wp2
 go_ret
 exact ⟨_, zE, zR HO_5.out, (zl41_1 HI0.out), zG (IsS110.ge HI0.out), (zl41_0 HK.out)⟩
/-! ### spec_l2Area: function 103 -/
def spec_l2Area.f (a0_0 : Int) (a0_1 : Int) (a1_0 : Int) (a1_1 : Int) (a2_0 : Int) (a2_1 : Int) : Option (Int) := some (wrap64 ((wrap64 ((wrap64 (a1_0 - a0_0)) * (wrap64 (a2_1 - a0_1)))) - (wrap64 ((wrap64 (a1_1 - a0_1)) * (wrap64 (a2_0 - a0_0))))))
set_option maxHeartbeats 8000000 in
set_option maxRecDepth 100000 in
theorem spec_l2Area.calls (a0_0 : Int) (a0_1 : Int) (a1_0 : Int) (a1_1 : Int) (a2_0 : Int) (a2_1 : Int) (r : Int) (w : World) (h : spec_l2Area.f a0_0 a0_1 a1_0 a1_1 a2_0 a2_1 = some r) :
  Calls Try.prog 103 #[.agg #[.int .i64 a0_0, .int .i64 a0_1], .agg #[.int .i64 a1_0, .int .i64 a1_1], .agg #[.int .i64 a2_0, .int .i64 a2_1]] w fun e w' => e = .returned (.int .i64 r) ∧ Below w.heap.size w w' := by
 have hu83 := Try.underlying83
 have HB := Aside0.mk (Below.refl w.heap.size w)
 have H : (some (wrap64 ((wrap64 ((wrap64 (a1_0 - a0_0)) * (wrap64 (a2_1 - a0_1)))) - (wrap64 ((wrap64 (a1_1 - a0_1)) * (wrap64 (a2_0 - a0_0))))))) = some r := h
 clear h
 obtain rfl := Option.some.inj H
 go_enter Try.func103, Try.ntmps103
 go_wp2_with (first | ((with_reducible refine gate_dst (N := 3) rfl ?_); refine zBx (N := 3) #[.int .i64 a0_0, .int .i64 a0_1] 83 ?_; intro gb135 hg w4 hbox hb; have BK135 := Aside0.mk (hbox); have GW135 := zS hg; have GE135 := zS hg; replace HB := zX hb; clear hb hbox hg) | ((with_reducible refine gate_dst (N := 4) rfl ?_); refine zBx (N := 4) #[.int .i64 a1_0, .int .i64 a1_1] 83 ?_; intro gb136 hg w5 hbox hb; have BK136 := Aside0.mk (hbox); have GW136 := zSg hg (zG GE135.out); have GE136 := zSg hg (zG GE135.out); have NB135_136 := zL hg BK135.out; have NB136_135 := zLg hg BK135.out; replace BK135 := zV BK135.out hb; replace HB := zX1 GE135.out hb; clear hb hbox hg) | ((with_reducible refine gate_dst (N := 5) rfl ?_); refine zBx (N := 5) #[.int .i64 a2_0, .int .i64 a2_1] 83 ?_; intro gb137 hg w6 hbox hb; have BK137 := Aside0.mk (hbox); have GW137 := zSg hg (zG2 GE135.out GE136.out); have GE137 := zSg hg (zG2 GE135.out GE136.out); have NB135_137 := zL hg BK135.out; have NB137_135 := zLg hg BK135.out; replace BK135 := zV BK135.out hb; have NB136_137 := zL hg BK136.out; have NB137_136 := zLg hg BK136.out; replace BK136 := zV BK136.out hb; replace HB := Aside0.mk (below_step (zG2 GE135.out GE136.out) hb); clear hb hbox hg; have hnb7 := NB136_135.out; have hnc7 := NB135_136.out; have hnb8 := NB136_137.out; have hnc8 := NB137_136.out; obtain ⟨hcz9_0, hcz9_1, hfz9_0, hfz9_1⟩ := zq2 BK136.out; have hnb10 := NB135_137.out; have hnc10 := NB137_135.out; obtain ⟨hcz11_0, hcz11_1, hfz11_0, hfz11_1⟩ := zq2 BK135.out; obtain ⟨hcz12_0, hcz12_1, hfz12_0, hfz12_1⟩ := zq2 BK137.out))
 go_ret
 exact ⟨zE, zG3 GE135.out GE136.out GE137.out⟩
/-! ### spec_l2Fits: function 149 -/
def spec_l2Fits.f (a0_0 : Int) (a0_1 : Int) (a1 : Int) : Option (Bool) := (spec_l1In.f a0_0 (wrap64 (-a1)) a1).bind fun t139 => (if t139 = true then ((spec_l1In.f a0_1 (wrap64 (-a1)) a1).bind fun t140 => (some t140)) else (some false))
set_option maxHeartbeats 8000000 in
set_option maxRecDepth 100000 in
theorem spec_l2Fits.calls (a0_0 : Int) (a0_1 : Int) (a1 : Int) (r : Bool) (w : World) (h : spec_l2Fits.f a0_0 a0_1 a1 = some r) :
  Calls Try.prog 149 #[.agg #[.int .i64 a0_0, .int .i64 a0_1], .int .i64 a1] w fun e w' => e = .returned (.bool r) ∧ Below w.heap.size w w' := by
 have hu83 := Try.underlying83
 have HB := Aside0.mk (Below.refl w.heap.size w)
 have H : ((spec_l1In.f a0_0 (wrap64 (-a1)) a1).bind fun t139 => (if t139 = true then ((spec_l1In.f a0_1 (wrap64 (-a1)) a1).bind fun t140 => (some t140)) else (some false))) = some r := h
 clear h
 obtain ⟨t139, A3, H⟩ := zO H
 by_cases c4 : t139 = true
 ·subst c4
  replace H := (if_pos rfl).symm.trans H
  obtain ⟨t140, A5, H⟩ := zO H
  obtain rfl := Option.some.inj H
  go_enter Try.func149, Try.ntmps149
  go_wp2_with (first | ((with_reducible refine gate_dst (N := 2) rfl ?_); refine zBx (N := 2) #[.int .i64 a0_0, .int .i64 a0_1] 83 ?_; intro gb138 hg w6 hbox hb; have BK138 := Aside0.mk (hbox); have GW138 := zS hg; have GE138 := zS hg; replace HB := zX hb; clear hb hbox hg; obtain ⟨hcz7_0, hcz7_1, hfz7_0, hfz7_1⟩ := zq2 BK138.out) | ((with_reducible refine gate_callee (f := 89) rfl ?_); refine zD (some 10) Try.func89 #[.int .i64 a0_0, .int .i64 (wrap64 (-a1)), .int .i64 a1] ?_; (with_reducible refine (spec_l1In.calls a0_0 (wrap64 (-a1)) a1 true _ A3.out).mono ?_); rintro e w' ⟨rfl, ⟨nd, rfl⟩⟩; refine ⟨_, rfl, ?_⟩) | (go_at_call 89; (with_reducible refine (spec_l1In.calls a0_1 (wrap64 (-a1)) a1 t140 _ A5.out).mono ?_); rintro e w' ⟨rfl, ⟨nd, rfl⟩⟩))
  go_ret
  exact ⟨zE, zG GE138.out⟩
 replace c4 := Bool.eq_false_iff.mpr c4
 subst c4
 replace H := (if_neg zFf).symm.trans H
 obtain rfl := Option.some.inj H
 go_enter Try.func149, Try.ntmps149
 go_wp2_with (first | ((with_reducible refine gate_dst (N := 2) rfl ?_); refine zBx (N := 2) #[.int .i64 a0_0, .int .i64 a0_1] 83 ?_; intro gb138 hg w8 hbox hb; have BK138 := Aside0.mk (hbox); have GW138 := zS hg; have GE138 := zS hg; replace HB := zX hb; clear hb hbox hg; obtain ⟨hcz9_0, hcz9_1, hfz9_0, hfz9_1⟩ := zq2 BK138.out) | ((with_reducible refine gate_callee (f := 89) rfl ?_); refine zD (some 10) Try.func89 #[.int .i64 a0_0, .int .i64 (wrap64 (-a1)), .int .i64 a1] ?_; (with_reducible refine (spec_l1In.calls a0_0 (wrap64 (-a1)) a1 false _ A3.out).mono ?_); rintro e w' ⟨rfl, ⟨nd, rfl⟩⟩; refine ⟨_, rfl, ?_⟩))
 go_ret
 exact ⟨zE, zG GE138.out⟩
/-! ### spec_ArePoints: function 101 -/
mutual
def spec_ArePoints.l0 : Nat → List (S83) → Int → Option (Bool)
 | 0, _, _ => none
 | k + 1, x0, x3 => if x3 < (x0.length : Int) then (if 0 ≤ x3 then ((spec_l2Fits.f ((rd_T83 x0 x3).f0) ((rd_T83 x0 x3).f1) 50).bind fun t143 => (if t143 = true then (spec_ArePoints.l1 k x0 x3 0) else (some false))) else (none)) else (some true)
def spec_ArePoints.l1 : Nat → List (S83) → Int → Int → Option (Bool)
 | 0, _, _, _ => none
 | k + 1, x0, x3, x4 => if x4 < x3 then (spec_ArePoints.l2 k x0 x3 x4 0) else (spec_ArePoints.l0 k x0 (wrap64 (x3 + 1)))
def spec_ArePoints.l2 : Nat → List (S83) → Int → Int → Int → Option (Bool)
 | 0, _, _, _, _ => none
 | k + 1, x0, x3, x4, x5 => if x5 < x4 then (if 0 ≤ x5 then (if x5 < (x0.length : Int) then (if 0 ≤ x4 then (if x4 < (x0.length : Int) then (if 0 ≤ x3 then (if x3 < (x0.length : Int) then ((spec_l2Area.f ((rd_T83 x0 x5).f0) ((rd_T83 x0 x5).f1) ((rd_T83 x0 x4).f0) ((rd_T83 x0 x4).f1) ((rd_T83 x0 x3).f0) ((rd_T83 x0 x3).f1)).bind fun t147 => (if t147 = 0 then (some false) else (spec_ArePoints.l2 k x0 x3 x4 (wrap64 (x5 + 1))))) else (none)) else (none)) else (none)) else (none)) else (none)) else (none)) else (spec_ArePoints.l1 k x0 x3 (wrap64 (x4 + 1)))
end
def spec_ArePoints.f (k : Nat) (l0 : List (S83)) : Option (Bool) := (spec_l1In.f (l0.length : Int) 3 7).bind fun t141 => (if t141 = true then (spec_ArePoints.l0 k l0 0) else (some false))
def spec_ArePoints.T14 : Bool × List (List Nat × List Nat) := (true, [([], []), ([], []), ([0, 1], [0, 1]), ([2], [2]), ([], []), ([], []), ([4, 5], [4, 5]), ([6], [6]), ([], []), ([], []), ([8, 9], [8, 9]), ([10], [10]), ([3, 7, 11], [3, 7, 11]), ([12], [12])])
def spec_ArePoints.B14 : List Nat := [0, 0, 3, 7, 0, 0, 48, 112, 0, 0, 768, 1792, 4095, 8191]
theorem spec_ArePoints.tab14 : rtab .any (opsOf Try.f101 14) = spec_ArePoints.T14 := by kernel_rfl
theorem spec_ArePoints.bits14 : waitsOk spec_ArePoints.T14.2 spec_ArePoints.B14 = true := by kernel_rfl
set_option maxHeartbeats 8000000 in
set_option maxRecDepth 100000 in
theorem spec_ArePoints.calls (k : Nat) (A0 : Option Addr) (c0 : Nat) (l0 : List (S83)) (r : Bool) (w : World) (hr0 : Kd.C k83 w A0 l0.length l0) (hc0 : l0.length ≤ c0) (h : spec_ArePoints.f k l0 = some r) :
  Calls Try.prog 101 #[.slice A0 l0.length c0] w fun e w' => e = .returned (.bool r) ∧ Below w.heap.size w w' := by
 have hu83 := Try.underlying83
 have HR0 := Aside0.mk hr0
 have HC0 := Aside0.mk hc0
 clear hr0 hc0
 have HB := Aside0.mk (Below.refl w.heap.size w)
 have H : ((spec_l1In.f (l0.length : Int) 3 7).bind fun t141 => (if t141 = true then (spec_ArePoints.l0 k l0 0) else (some false))) = some r := h
 clear h
 obtain ⟨t141, A2, H⟩ := zO H
 by_cases c3 : t141 = true
 ·subst c3
  replace H := (if_pos rfl).symm.trans H
  have H' := Aside0.mk H; clear H
  go_enter Try.func101, Try.ntmps101
  go_wp2_with (first | ((with_reducible refine gate_callee (f := 89) rfl ?_); refine zD (some 8) Try.func89 #[.int .i64 (l0.length : Int), .int .i64 3, .int .i64 7] ?_; (with_reducible refine (spec_l1In.calls (l0.length : Int) 3 7 true _ A2.out).mono ?_); rintro e w' ⟨rfl, ⟨nd, rfl⟩⟩; refine ⟨_, rfl, ?_⟩))
  go_loopg [3] k (fun kq v3 w' => ∃ (x3_1 : Int), v3 = .int .i64 x3_1 ∧ Aside0 (spec_ArePoints.l0 kq l0 x3_1 = some r) ∧ Aside0 (kq ≤ k) ∧ Aside0 (Below w.heap.size w w'))
  case atStart => exact ⟨(0), zF, H', ⟨Nat.le_refl _⟩, ⟨zB⟩⟩
  case round =>
  clear H'
  try clear c3
  obtain ⟨x3_1, rfl, HA, HK1, HB⟩ := hrel
  cases gk with
  | zero => exact absurd HA.out (by simp [spec_ArePoints.l0])
  | succ k1 =>
  have H := HA.out
  clear HA
  simp only [spec_ArePoints.l0] at H
  by_cases c4 : x3_1 < (l0.length : Int)
  ·rw [if_pos c4] at H
   have c4b0 : decide (x3_1 < (l0.length : Int)) = true := decide_eq_true c4
   clear c4
   by_cases c5 : 0 ≤ x3_1
   ·rw [if_pos c5] at H
    have c5b0 : decide (0 ≤ x3_1) = true := decide_eq_true c5
    clear c5
    obtain ⟨t143, A6, H⟩ := zO H
    by_cases c7 : t143 = true
    ·subst c7
     replace H := (if_pos rfl).symm.trans H
     have H' := Aside0.mk H; clear H
     have p142 : 0 ≤ (x3_1 : Int) := zA
     have q142 : x3_1 < (l0.length : Int) := zA
     obtain ⟨ad142, e142, hx142_0, hx142_1⟩ := at_T83 HR0.out x3_1 p142 q142
     cases e142
     replace hx142_0 := (HB.out.cell (World.block_lt_of_cell? w _ hx142_0)).trans hx142_0
     replace hx142_1 := (HB.out.cell (World.block_lt_of_cell? w _ hx142_1)).trans hx142_1
     replace p142 := eq_true p142
     replace q142 := eq_true q142
     go_wp2_with (first | ((with_reducible refine gate_callee (f := 149) rfl ?_); refine zD (some 20) Try.func149 #[.agg #[.int .i64 ((rd_T83 l0 x3_1).f0), .int .i64 ((rd_T83 l0 x3_1).f1)], .int .i64 50] ?_; (with_reducible refine (spec_l2Fits.calls ((rd_T83 l0 x3_1).f0) ((rd_T83 l0 x3_1).f1) 50 true _ A6.out).mono ?_); rintro e w8 ⟨rfl, hb⟩; refine ⟨_, rfl, ?_⟩; replace HB := zX hb; (try clear hb)))
     go_loopg [4] k1 (fun kq v4 w' => ∃ (x4_2 : Int), v4 = .int .i64 x4_2 ∧ Aside0 (spec_ArePoints.l1 kq l0 x3_1 x4_2 = some r) ∧ Aside0 (kq ≤ k1) ∧ Aside0 (Below w.heap.size w w'))
     case atStart => exact ⟨(0), zF, H', ⟨Nat.le_refl _⟩, ⟨zB⟩⟩
     case round =>
     clear H'
     try clear c3
     try clear c4
     try clear c4b0
     try clear c5
     try clear c5b0
     try clear c7
     try clear hx142_0
     try clear hx142_1
     try clear p142
     try clear q142
     obtain ⟨x4_2, rfl, HA, HK2, HB⟩ := hrel
     cases gk with
     | zero => exact absurd HA.out (by simp [spec_ArePoints.l1])
     | succ k2 =>
     have H := HA.out
     clear HA
     simp only [spec_ArePoints.l1] at H
     by_cases c9 : x4_2 < x3_1
     ·rw [if_pos c9] at H
      have c9b0 : decide (x4_2 < x3_1) = true := decide_eq_true c9
      clear c9
      have H' := Aside0.mk H; clear H
      go_wp2
      go_loopg [5] k2 (fun kq v5 w' => ∃ (x5_3 : Int), v5 = .int .i64 x5_3 ∧ Aside0 (spec_ArePoints.l2 kq l0 x3_1 x4_2 x5_3 = some r) ∧ Aside0 (kq ≤ k2) ∧ Aside0 (Below w.heap.size w w'))
      case atStart => exact ⟨(0), zF, H', ⟨Nat.le_refl _⟩, ⟨zB⟩⟩
      case round =>
      clear H'
      try clear c3
      try clear c4
      try clear c4b0
      try clear c5
      try clear c5b0
      try clear c7
      try clear c9
      try clear c9b0
      try clear hx142_0
      try clear hx142_1
      try clear p142
      try clear q142
      obtain ⟨x5_3, rfl, HA, HK3, HB⟩ := hrel
      cases gk with
      | zero => exact absurd HA.out (by simp [spec_ArePoints.l2])
      | succ k3 =>
      have H := HA.out
      clear HA
      simp only [spec_ArePoints.l2] at H
      by_cases c10 : x5_3 < x4_2
      ·rw [if_pos c10] at H
       have c10b0 : decide (x5_3 < x4_2) = true := decide_eq_true c10
       clear c10
       by_cases c11 : 0 ≤ x5_3
       ·rw [if_pos c11] at H
        have c11b0 : decide (0 ≤ x5_3) = true := decide_eq_true c11
        clear c11
        by_cases c12 : x5_3 < (l0.length : Int)
        ·rw [if_pos c12] at H
         have c12b0 : decide (x5_3 < (l0.length : Int)) = true := decide_eq_true c12
         clear c12
         by_cases c13 : 0 ≤ x4_2
         ·rw [if_pos c13] at H
          have c13b0 : decide (0 ≤ x4_2) = true := decide_eq_true c13
          clear c13
          by_cases c14 : x4_2 < (l0.length : Int)
          ·rw [if_pos c14] at H
           have c14b0 : decide (x4_2 < (l0.length : Int)) = true := decide_eq_true c14
           clear c14
           by_cases c15 : 0 ≤ x3_1
           ·rw [if_pos c15] at H
            have c15b0 : decide (0 ≤ x3_1) = true := decide_eq_true c15
            clear c15
            by_cases c16 : x3_1 < (l0.length : Int)
            ·rw [if_pos c16] at H
             have c16b0 : decide (x3_1 < (l0.length : Int)) = true := decide_eq_true c16
             clear c16
             obtain ⟨t147, A17, H⟩ := zO H
             by_cases c18 : t147 = 0
             ·rw [if_pos c18] at H
              have c18b0 : (t147 == 0) = true := beq_iff_eq.mpr c18
              have c18b1 : (t147 != 0) = false := bne_eq_false_iff_eq.mpr c18
              clear c18
              obtain rfl := Option.some.inj H
              try go_wp2
              replace HB := Aside0.mk (below_drew1 HB.out)
              have p144 : 0 ≤ (x5_3 : Int) := zA
              have q144 : x5_3 < (l0.length : Int) := zA
              obtain ⟨ad144, e144, hx144_0, hx144_1⟩ := at_T83 HR0.out x5_3 p144 q144
              have hw144_1 := hx144_1
              have hw144_0 := hx144_0
              obtain rfl : ad142 = ad144 := (by injection e144)
              replace hx144_0 := (HB.out.cell (World.block_lt_of_cell? w _ hx144_0)).trans hx144_0
              replace hx144_1 := (HB.out.cell (World.block_lt_of_cell? w _ hx144_1)).trans hx144_1
              replace p144 := eq_true p144
              replace q144 := eq_true q144
              have p145 : 0 ≤ (x4_2 : Int) := zA
              have q145 : x4_2 < (l0.length : Int) := zA
              obtain ⟨ad145, e145, hx145_0, hx145_1⟩ := at_T83 HR0.out x4_2 p145 q145
              have hw145_1 := hx145_1
              have hw145_0 := hx145_0
              obtain rfl : ad142 = ad145 := (by injection e145)
              replace hx145_0 := (HB.out.cell (World.block_lt_of_cell? w _ hx145_0)).trans hx145_0
              replace hx145_1 := (HB.out.cell (World.block_lt_of_cell? w _ hx145_1)).trans hx145_1
              replace p145 := eq_true p145
              replace q145 := eq_true q145
              have p146 : 0 ≤ (x3_1 : Int) := zA
              have q146 : x3_1 < (l0.length : Int) := zA
              obtain ⟨ad146, e146, hx146_0, hx146_1⟩ := at_T83 HR0.out x3_1 p146 q146
              have hw146_1 := hx146_1
              have hw146_0 := hx146_0
              obtain rfl : ad142 = ad146 := (by injection e146)
              replace hx146_0 := (HB.out.cell (World.block_lt_of_cell? w _ hx146_0)).trans hx146_0
              replace hx146_1 := (HB.out.cell (World.block_lt_of_cell? w _ hx146_1)).trans hx146_1
              replace p146 := eq_true p146
              replace q146 := eq_true q146
              refine start_ (n := 14) (S := fun w' => w'.cell? (ad142.add ((x5_3).toNat * 2)) = some (.int .i64 ((rd_T83 l0 x5_3).f0)) ∧ w'.cell? ⟨(ad142.add ((x5_3).toNat * 2)).block, (ad142.add ((x5_3).toNat * 2)).off + 1, none⟩ = some (.int .i64 ((rd_T83 l0 x5_3).f1)) ∧ w'.cell? (ad142.add ((x4_2).toNat * 2)) = some (.int .i64 ((rd_T83 l0 x4_2).f0)) ∧ w'.cell? ⟨(ad142.add ((x4_2).toNat * 2)).block, (ad142.add ((x4_2).toNat * 2)).off + 1, none⟩ = some (.int .i64 ((rd_T83 l0 x4_2).f1)) ∧ w'.cell? (ad142.add ((x3_1).toNat * 2)) = some (.int .i64 ((rd_T83 l0 x3_1).f0)) ∧ w'.cell? ⟨(ad142.add ((x3_1).toNat * 2)).block, (ad142.add ((x3_1).toNat * 2)).off + 1, none⟩ = some (.int .i64 ((rd_T83 l0 x3_1).f1))) (ds := []) #[false, false, false, false, false, false, false, false, false, false, false, false, false, false] (by kernel_rfl) rfl rfl ⟨((HB.out.cell (World.block_lt_of_cell? w _ hw144_0)).trans hw144_0), ((HB.out.cell (World.block_lt_of_cell? w _ hw144_1)).trans hw144_1), ((HB.out.cell (World.block_lt_of_cell? w _ hw145_0)).trans hw145_0), ((HB.out.cell (World.block_lt_of_cell? w _ hw145_1)).trans hw145_1), ((HB.out.cell (World.block_lt_of_cell? w _ hw146_0)).trans hw146_0), ((HB.out.cell (World.block_lt_of_cell? w _ hw146_1)).trans hw146_1)⟩ (fun hHeld => ?_); refine with_tabW spec_ArePoints.tab14 spec_ArePoints.bits14 (fun HT_ HW_ => ?_)
              generalize wr.drew = w19 at HB hx144_0 hx144_1 hx145_0 hx145_1 hx146_0 hx146_1 hHeld ⊢
              refine zP 0 (some 32) rfl rfl ?_
              refine zP 1 (some 33) rfl rfl ?_
              refine zP 2 (some 34) rfl rfl ?_
              refine zP 4 (some 36) rfl rfl ?_
              refine zP 5 (some 37) rfl rfl ?_
              refine zP 6 (some 38) rfl rfl ?_
              refine zP 8 (some 40) rfl rfl ?_
              refine zP 9 (some 41) rfl rfl ?_
              refine zP 10 (some 42) rfl rfl ?_
              refine zY6 3 (some 35) rfl rfl hHeld ?_
              refine zY6 7 (some 39) rfl rfl hHeld ?_
              refine zY6 11 (some 43) rfl rfl hHeld ?_
              refine zU 12 (some 44) rfl rfl (fun K hK => ?_)
              refine goes_ Try.func103 (by kernel_rfl) rfl #[.agg #[.int .i64 ((rd_T83 l0 x5_3).f0), .int .i64 ((rd_T83 l0 x5_3).f1)], .agg #[.int .i64 ((rd_T83 l0 x4_2).f0), .int .i64 ((rd_T83 l0 x4_2).f1)], .agg #[.int .i64 ((rd_T83 l0 x3_1).f0), .int .i64 ((rd_T83 l0 x3_1).f1)]] (by rfl) rfl rfl zM ?_
              with_reducible refine (spec_l2Area.calls ((rd_T83 l0 x5_3).f0) ((rd_T83 l0 x5_3).f1) ((rd_T83 l0 x4_2).f0) ((rd_T83 l0 x4_2).f1) ((rd_T83 l0 x3_1).f0) ((rd_T83 l0 x3_1).f1) t147 _ A17.out).mono ?_
              rintro e w20 ⟨rfl, hb⟩
              refine ⟨_, rfl, ?_⟩
              replace HB := zX hb
              (try clear hb)
              refine hK.out _ _ ⟨((HB.out.cell (World.block_lt_of_cell? w _ hw144_0)).trans hw144_0), ((HB.out.cell (World.block_lt_of_cell? w _ hw144_1)).trans hw144_1), ((HB.out.cell (World.block_lt_of_cell? w _ hw145_0)).trans hw145_0), ((HB.out.cell (World.block_lt_of_cell? w _ hw145_1)).trans hw145_1), ((HB.out.cell (World.block_lt_of_cell? w _ hw146_0)).trans hw146_0), ((HB.out.cell (World.block_lt_of_cell? w _ hw146_1)).trans hw146_1)⟩ (fun hHeld => ?_)
              clear hK K
              refine zN ?_
              refine zP 13 (some 45) rfl rfl ?_
              refine done_ (done_of HT_.out (by kernel_rfl)) ?_
              try go_wp2
              go_ret
              exact ⟨zE, zB⟩
             rw [if_neg c18] at H
             have c18b0 : (t147 == 0) = false := beq_eq_false_iff_ne.mpr c18
             have c18b1 : (t147 != 0) = true := bne_iff_ne.mpr c18
             have H' := Aside0.mk H; clear H
             try go_wp2
             replace HB := Aside0.mk (below_drew1 HB.out)
             have p144 : 0 ≤ (x5_3 : Int) := zA
             have q144 : x5_3 < (l0.length : Int) := zA
             obtain ⟨ad144, e144, hx144_0, hx144_1⟩ := at_T83 HR0.out x5_3 p144 q144
             have hw144_1 := hx144_1
             have hw144_0 := hx144_0
             obtain rfl : ad142 = ad144 := (by injection e144)
             replace hx144_0 := (HB.out.cell (World.block_lt_of_cell? w _ hx144_0)).trans hx144_0
             replace hx144_1 := (HB.out.cell (World.block_lt_of_cell? w _ hx144_1)).trans hx144_1
             replace p144 := eq_true p144
             replace q144 := eq_true q144
             have p145 : 0 ≤ (x4_2 : Int) := zA
             have q145 : x4_2 < (l0.length : Int) := zA
             obtain ⟨ad145, e145, hx145_0, hx145_1⟩ := at_T83 HR0.out x4_2 p145 q145
             have hw145_1 := hx145_1
             have hw145_0 := hx145_0
             obtain rfl : ad142 = ad145 := (by injection e145)
             replace hx145_0 := (HB.out.cell (World.block_lt_of_cell? w _ hx145_0)).trans hx145_0
             replace hx145_1 := (HB.out.cell (World.block_lt_of_cell? w _ hx145_1)).trans hx145_1
             replace p145 := eq_true p145
             replace q145 := eq_true q145
             have p146 : 0 ≤ (x3_1 : Int) := zA
             have q146 : x3_1 < (l0.length : Int) := zA
             obtain ⟨ad146, e146, hx146_0, hx146_1⟩ := at_T83 HR0.out x3_1 p146 q146
             have hw146_1 := hx146_1
             have hw146_0 := hx146_0
             obtain rfl : ad142 = ad146 := (by injection e146)
             replace hx146_0 := (HB.out.cell (World.block_lt_of_cell? w _ hx146_0)).trans hx146_0
             replace hx146_1 := (HB.out.cell (World.block_lt_of_cell? w _ hx146_1)).trans hx146_1
             replace p146 := eq_true p146
             replace q146 := eq_true q146
             refine start_ (n := 14) (S := fun w' => w'.cell? (ad142.add ((x5_3).toNat * 2)) = some (.int .i64 ((rd_T83 l0 x5_3).f0)) ∧ w'.cell? ⟨(ad142.add ((x5_3).toNat * 2)).block, (ad142.add ((x5_3).toNat * 2)).off + 1, none⟩ = some (.int .i64 ((rd_T83 l0 x5_3).f1)) ∧ w'.cell? (ad142.add ((x4_2).toNat * 2)) = some (.int .i64 ((rd_T83 l0 x4_2).f0)) ∧ w'.cell? ⟨(ad142.add ((x4_2).toNat * 2)).block, (ad142.add ((x4_2).toNat * 2)).off + 1, none⟩ = some (.int .i64 ((rd_T83 l0 x4_2).f1)) ∧ w'.cell? (ad142.add ((x3_1).toNat * 2)) = some (.int .i64 ((rd_T83 l0 x3_1).f0)) ∧ w'.cell? ⟨(ad142.add ((x3_1).toNat * 2)).block, (ad142.add ((x3_1).toNat * 2)).off + 1, none⟩ = some (.int .i64 ((rd_T83 l0 x3_1).f1))) (ds := []) #[false, false, false, false, false, false, false, false, false, false, false, false, false, false] (by kernel_rfl) rfl rfl ⟨((HB.out.cell (World.block_lt_of_cell? w _ hw144_0)).trans hw144_0), ((HB.out.cell (World.block_lt_of_cell? w _ hw144_1)).trans hw144_1), ((HB.out.cell (World.block_lt_of_cell? w _ hw145_0)).trans hw145_0), ((HB.out.cell (World.block_lt_of_cell? w _ hw145_1)).trans hw145_1), ((HB.out.cell (World.block_lt_of_cell? w _ hw146_0)).trans hw146_0), ((HB.out.cell (World.block_lt_of_cell? w _ hw146_1)).trans hw146_1)⟩ (fun hHeld => ?_); refine with_tabW spec_ArePoints.tab14 spec_ArePoints.bits14 (fun HT_ HW_ => ?_)
             generalize wr.drew = w21 at HB hx144_0 hx144_1 hx145_0 hx145_1 hx146_0 hx146_1 hHeld ⊢
             refine zP 0 (some 32) rfl rfl ?_
             refine zP 1 (some 33) rfl rfl ?_
             refine zP 2 (some 34) rfl rfl ?_
             refine zP 4 (some 36) rfl rfl ?_
             refine zP 5 (some 37) rfl rfl ?_
             refine zP 6 (some 38) rfl rfl ?_
             refine zP 8 (some 40) rfl rfl ?_
             refine zP 9 (some 41) rfl rfl ?_
             refine zP 10 (some 42) rfl rfl ?_
             refine zY6 3 (some 35) rfl rfl hHeld ?_
             refine zY6 7 (some 39) rfl rfl hHeld ?_
             refine zY6 11 (some 43) rfl rfl hHeld ?_
             refine zU 12 (some 44) rfl rfl (fun K hK => ?_)
             refine goes_ Try.func103 (by kernel_rfl) rfl #[.agg #[.int .i64 ((rd_T83 l0 x5_3).f0), .int .i64 ((rd_T83 l0 x5_3).f1)], .agg #[.int .i64 ((rd_T83 l0 x4_2).f0), .int .i64 ((rd_T83 l0 x4_2).f1)], .agg #[.int .i64 ((rd_T83 l0 x3_1).f0), .int .i64 ((rd_T83 l0 x3_1).f1)]] (by rfl) rfl rfl zM ?_
             with_reducible refine (spec_l2Area.calls ((rd_T83 l0 x5_3).f0) ((rd_T83 l0 x5_3).f1) ((rd_T83 l0 x4_2).f0) ((rd_T83 l0 x4_2).f1) ((rd_T83 l0 x3_1).f0) ((rd_T83 l0 x3_1).f1) t147 _ A17.out).mono ?_
             rintro e w22 ⟨rfl, hb⟩
             refine ⟨_, rfl, ?_⟩
             replace HB := zX hb
             (try clear hb)
             refine hK.out _ _ ⟨((HB.out.cell (World.block_lt_of_cell? w _ hw144_0)).trans hw144_0), ((HB.out.cell (World.block_lt_of_cell? w _ hw144_1)).trans hw144_1), ((HB.out.cell (World.block_lt_of_cell? w _ hw145_0)).trans hw145_0), ((HB.out.cell (World.block_lt_of_cell? w _ hw145_1)).trans hw145_1), ((HB.out.cell (World.block_lt_of_cell? w _ hw146_0)).trans hw146_0), ((HB.out.cell (World.block_lt_of_cell? w _ hw146_1)).trans hw146_1)⟩ (fun hHeld => ?_)
             clear hK K
             refine zN ?_
             refine zP 13 (some 45) rfl rfl ?_
             refine done_ (done_of HT_.out (by kernel_rfl)) ?_
             try go_wp2
             go_roundg k3
             case measure => have := HK1.out; have := HK2.out; have := HK3.out; omega
             case rel => exact ⟨(wrap64 (x5_3 + 1)), zF, H', ⟨by have := HK1.out; have := HK2.out; have := HK3.out; omega⟩, ⟨zB⟩⟩
            rw [if_neg c16] at H
            exact absurd H (by simp)
           rw [if_neg c15] at H
           exact absurd H (by simp)
          rw [if_neg c14] at H
          exact absurd H (by simp)
         rw [if_neg c13] at H
         exact absurd H (by simp)
        rw [if_neg c12] at H
        exact absurd H (by simp)
       rw [if_neg c11] at H
       exact absurd H (by simp)
      rw [if_neg c10] at H
      have c10b0 : decide (x5_3 < x4_2) = false := decide_eq_false c10
      clear c10
      have H' := Aside0.mk H; clear H
      go_wp2
      go_roundg k3
      case measure => have := HK1.out; have := HK2.out; have := HK3.out; omega
      case rel => exact ⟨(wrap64 (x4_2 + 1)), zF, H', ⟨by have := HK1.out; have := HK2.out; have := HK3.out; omega⟩, ⟨zB⟩⟩
     rw [if_neg c9] at H
     have c9b0 : decide (x4_2 < x3_1) = false := decide_eq_false c9
     clear c9
     have H' := Aside0.mk H; clear H
     go_wp2
     go_roundg k2
     case measure => have := HK1.out; have := HK2.out; omega
     case rel => exact ⟨(wrap64 (x3_1 + 1)), zF, H', ⟨by have := HK1.out; have := HK2.out; omega⟩, ⟨zB⟩⟩
    replace c7 := Bool.eq_false_iff.mpr c7
    subst c7
    replace H := (if_neg zFf).symm.trans H
    obtain rfl := Option.some.inj H
    have p142 : 0 ≤ (x3_1 : Int) := zA
    have q142 : x3_1 < (l0.length : Int) := zA
    obtain ⟨ad142, e142, hx142_0, hx142_1⟩ := at_T83 HR0.out x3_1 p142 q142
    cases e142
    replace hx142_0 := (HB.out.cell (World.block_lt_of_cell? w _ hx142_0)).trans hx142_0
    replace hx142_1 := (HB.out.cell (World.block_lt_of_cell? w _ hx142_1)).trans hx142_1
    replace p142 := eq_true p142
    replace q142 := eq_true q142
    go_wp2_with (first | ((with_reducible refine gate_callee (f := 149) rfl ?_); refine zD (some 20) Try.func149 #[.agg #[.int .i64 ((rd_T83 l0 x3_1).f0), .int .i64 ((rd_T83 l0 x3_1).f1)], .int .i64 50] ?_; (with_reducible refine (spec_l2Fits.calls ((rd_T83 l0 x3_1).f0) ((rd_T83 l0 x3_1).f1) 50 false _ A6.out).mono ?_); rintro e w23 ⟨rfl, hb⟩; refine ⟨_, rfl, ?_⟩; replace HB := zX hb; (try clear hb)))
    go_ret
    exact ⟨zE, zB⟩
   rw [if_neg c5] at H
   exact absurd H (by simp)
  rw [if_neg c4] at H
  have c4b0 : decide (x3_1 < (l0.length : Int)) = false := decide_eq_false c4
  clear c4
  obtain rfl := Option.some.inj H
  go_wp2
  go_ret
  exact ⟨zE, zB⟩
 replace c3 := Bool.eq_false_iff.mpr c3
 subst c3
 replace H := (if_neg zFf).symm.trans H
 obtain rfl := Option.some.inj H
 go_enter Try.func101, Try.ntmps101
 go_wp2_with (first | ((with_reducible refine gate_callee (f := 89) rfl ?_); refine zD (some 8) Try.func89 #[.int .i64 (l0.length : Int), .int .i64 3, .int .i64 7] ?_; (with_reducible refine (spec_l1In.calls (l0.length : Int) 3 7 false _ A2.out).mono ?_); rintro e w' ⟨rfl, ⟨nd, rfl⟩⟩; refine ⟨_, rfl, ?_⟩))
 go_ret
 exact ⟨zE, zB⟩
/-! ### spec_SignsOf: function 27 -/
mutual
def spec_SignsOf.l0 : Nat → List (S83) → Int → Int → ByteArray → Option (Int × ByteArray × Bool)
 | 0, _, _, _, _ => none
 | k + 1, x0, x5, x151000, x151001 => if x5 < (x0.length : Int) then (spec_SignsOf.l1 k x0 x5 (wrap64 (x5 + 1)) x151000 x151001) else (some (x151000, x151001, true))
def spec_SignsOf.l1 : Nat → List (S83) → Int → Int → Int → ByteArray → Option (Int × ByteArray × Bool)
 | 0, _, _, _, _, _ => none
 | k + 1, x0, x5, x6, x151000, x151001 => if x6 < (x0.length : Int) then (spec_SignsOf.l2 k x0 x5 x6 (wrap64 (x6 + 1)) x151000 x151001) else (spec_SignsOf.l0 k x0 (wrap64 (x5 + 1)) x151000 x151001)
def spec_SignsOf.l2 : Nat → List (S83) → Int → Int → Int → Int → ByteArray → Option (Int × ByteArray × Bool)
 | 0, _, _, _, _, _, _ => none
 | k + 1, x0, x5, x6, x7, x151000, x151001 => if x7 < (x0.length : Int) then (if 0 ≤ x5 then (if x5 < (x0.length : Int) then (if 0 ≤ x6 then (if x6 < (x0.length : Int) then (if 0 ≤ x7 then ((spec_l2Area.f ((rd_T83 x0 x5).f0) ((rd_T83 x0 x5).f1) ((rd_T83 x0 x6).f0) ((rd_T83 x0 x6).f1) ((rd_T83 x0 x7).f0) ((rd_T83 x0 x7).f1)).bind fun t154 => ((spec_l3Byte.f t154).bind fun t155 => (if x151001.size + t155.size ≤ 9223372036854775807 then (spec_SignsOf.l2 k x0 x5 x6 (wrap64 (x7 + 1)) x151000 (x151001 ++ t155)) else (none)))) else (none)) else (none)) else (none)) else (none)) else (none)) else (spec_SignsOf.l1 k x0 x5 (wrap64 (x6 + 1)) x151000 x151001)
end
def spec_SignsOf.f (k : Nat) (l0 : List (S83)) : Option (Int × ByteArray × Bool) := (spec_ArePoints.f k l0).bind fun t149 => (if t149 = true then (spec_SignsOf.l0 k l0 0 (l0.length : Int) (⟨#[]⟩ : ByteArray)) else (some (0, (⟨#[]⟩ : ByteArray), false)))
def spec_SignsOf.T13 : Bool × List (List Nat × List Nat) := (true, [([], []), ([0], [0]), ([], []), ([], []), ([2, 3], [2, 3]), ([4], [4]), ([], []), ([], []), ([6, 7], [6, 7]), ([8], [8]), ([], []), ([], []), ([10, 11], [10, 11]), ([12], [12]), ([5, 9, 13], [5, 9, 13]), ([14, 14], [14]), ([1, 15], [1, 15]), ([0, 1, 2, 3, 4, 5, 6, 7, 8, 9, 10, 11, 12, 13, 14, 15, 16], []), ([17, 16, 15, 0, 1, 2, 3, 4, 5, 6, 7, 8, 9, 10, 11, 12, 13, 14, 15, 16], [16, 17])])
def spec_SignsOf.B13 : List Nat := [0, 1, 0, 0, 12, 28, 0, 0, 192, 448, 0, 0, 3072, 7168, 16380, 32764, 65535, 131071, 262143]
theorem spec_SignsOf.tab13 : rtab .any (opsOf Try.f27 13) = spec_SignsOf.T13 := by kernel_rfl
theorem spec_SignsOf.bits13 : waitsOk spec_SignsOf.T13.2 spec_SignsOf.B13 = true := by kernel_rfl
set_option maxHeartbeats 8000000 in
set_option maxRecDepth 100000 in
theorem spec_SignsOf.calls (k : Nat) (A0 : Option Addr) (c0 : Nat) (l0 : List (S83)) (r1 : Int) (r2 : ByteArray) (r3 : Bool) (w : World) (hr0 : Kd.C k83 w A0 l0.length l0) (hc0 : l0.length ≤ c0) (h : spec_SignsOf.f k l0 = some (r1, r2, r3)) :
  Calls Try.prog 27 #[.slice A0 l0.length c0] w fun e w' => e = .returned (.tuple #[.agg #[.int .i64 r1, .string r2], .bool r3]) ∧ Below w.heap.size w w' := by
 have hu25 := Try.underlying25
 have hu83 := Try.underlying83
 have HR0 := Aside0.mk hr0
 have HC0 := Aside0.mk hc0
 clear hr0 hc0
 have HB := Aside0.mk (Below.refl w.heap.size w)
 have H : ((spec_ArePoints.f k l0).bind fun t149 => (if t149 = true then (spec_SignsOf.l0 k l0 0 (l0.length : Int) (⟨#[]⟩ : ByteArray)) else (some (0, (⟨#[]⟩ : ByteArray), false)))) = some (r1, r2, r3) := h
 clear h
 obtain ⟨t149, A2, H⟩ := zO H
 by_cases c3 : t149 = true
 ·subst c3
  replace H := (if_pos rfl).symm.trans H
  have H' := Aside0.mk H; clear H
  go_enter Try.func27, Try.ntmps27
  go_wp2_with (first | ((with_reducible refine gate_dst (N := 2) rfl ?_); refine zBx (N := 2) #[.int .i64 0, .string (⟨#[]⟩ : ByteArray)] 25 ?_; intro gb148 hg w4 hbox hb; have BK148 := Aside0.mk (hbox); have GW148 := zS hg; have GE148 := zS hg; replace HB := zX hb; clear hb hbox hg) | ((with_reducible refine gate_callee (f := 101) rfl ?_); refine zD (some 9) Try.func101 #[.slice A0 l0.length c0] ?_; (with_reducible refine (spec_ArePoints.calls k _ _ l0 true _ ?side1 ?side2 A2.out).mono ?_); (case side1 => repeat (first | exact (Kd.C_below HR0.out HB.out) | (with_reducible refine Kd.C_alloc ?_ _) | (with_reducible refine Kd.C_drewN ?_ _) | (with_reducible refine Kd.C_drew ?_))); (case side2 => exact HC0.out); rintro e w5 ⟨rfl, hb⟩; refine ⟨_, rfl, ?_⟩; replace BK148 := zV BK148.out hb; replace HB := zX1 GE148.out hb; (try clear hb)) | ((with_reducible refine gate_dst (N := 4) rfl ?_); refine zBx (N := 4) #[.int .i64 0, .string (⟨#[]⟩ : ByteArray)] 25 ?_; intro gb150 hg w6 hbox hb; have BK150 := Aside0.mk (hbox); have GW150 := zSg hg (zG GE148.out); have GE150 := zSg hg (zG GE148.out); have NB148_150 := zL hg BK148.out; have NB150_148 := zLg hg BK148.out; replace BK148 := zV BK148.out hb; replace HB := zX1 GE148.out hb; clear hb hbox hg; have hnb7 := NB150_148.out; have hnc7 := NB148_150.out; obtain ⟨hcz8_0, hcz8_1, hfz8_0, hfz8_1⟩ := zq2 BK150.out))
  go_loopg [5] k (fun kq v5 w' => ∃ (x5_1 : Int) (x151001_1 : ByteArray), v5 = .int .i64 x5_1 ∧ Aside0 (spec_SignsOf.l0 kq l0 x5_1 (l0.length : Int) x151001_1 = some (r1, r2, r3)) ∧ Aside0 (kq ≤ k) ∧ Aside0 (w'.heap[gb148]? = some (.cells #[.int .i64 0, .string (⟨#[]⟩ : ByteArray)] 25 (0, 0))) ∧ Aside0 (w'.heap[gb150]? = some (.cells #[.int .i64 (l0.length : Int), .string x151001_1] 25 (0, 0))) ∧ Aside0 (Below w.heap.size w w'))
  case atStart => exact ⟨(0), ((⟨#[]⟩ : ByteArray)), zF, H', ⟨Nat.le_refl _⟩, ⟨zk2 BK148.out NB148_150.out NB148_150.out⟩, ⟨zk0 BK150.out⟩, ⟨zG2 GE148.out GE150.out⟩⟩
  case round =>
  clear H'
  try clear c3
  try clear hcz8_0
  try clear hcz8_1
  try clear hfz8_0
  try clear hfz8_1
  obtain ⟨x5_1, x151001_1, rfl, HA, HK1, BK148, BK150, HB⟩ := hrel
  cases gk with
  | zero => exact absurd HA.out (by simp [spec_SignsOf.l0])
  | succ k1 =>
  have H := HA.out
  clear HA
  simp only [spec_SignsOf.l0] at H
  by_cases c9 : x5_1 < (l0.length : Int)
  ·rw [if_pos c9] at H
   have c9b0 : decide (x5_1 < (l0.length : Int)) = true := decide_eq_true c9
   clear c9
   have H' := Aside0.mk H; clear H
   go_wp2
   go_loopg [6] k1 (fun kq v6 w' => ∃ (x6_2 : Int) (x151001_2 : ByteArray), v6 = .int .i64 x6_2 ∧ Aside0 (spec_SignsOf.l1 kq l0 x5_1 x6_2 (l0.length : Int) x151001_2 = some (r1, r2, r3)) ∧ Aside0 (kq ≤ k1) ∧ Aside0 (w'.heap[gb148]? = some (.cells #[.int .i64 0, .string (⟨#[]⟩ : ByteArray)] 25 (0, 0))) ∧ Aside0 (w'.heap[gb150]? = some (.cells #[.int .i64 (l0.length : Int), .string x151001_2] 25 (0, 0))) ∧ Aside0 (Below w.heap.size w w'))
   case atStart => exact ⟨(wrap64 (x5_1 + 1)), (x151001_1), zF, H', ⟨Nat.le_refl _⟩, ⟨zK BK148.out⟩, ⟨zK BK150.out⟩, ⟨zG2 GE148.out GE150.out⟩⟩
   case round =>
   clear H'
   try clear c3
   try clear c9
   try clear c9b0
   try clear hcz8_0
   try clear hcz8_1
   try clear hfz8_0
   try clear hfz8_1
   obtain ⟨x6_2, x151001_2, rfl, HA, HK2, BK148, BK150, HB⟩ := hrel
   cases gk with
   | zero => exact absurd HA.out (by simp [spec_SignsOf.l1])
   | succ k2 =>
   have H := HA.out
   clear HA
   simp only [spec_SignsOf.l1] at H
   by_cases c10 : x6_2 < (l0.length : Int)
   ·rw [if_pos c10] at H
    have c10b0 : decide (x6_2 < (l0.length : Int)) = true := decide_eq_true c10
    clear c10
    have H' := Aside0.mk H; clear H
    go_wp2
    go_loopg [7] k2 (fun kq v7 w' => ∃ (x7_3 : Int) (x151001_3 : ByteArray), v7 = .int .i64 x7_3 ∧ Aside0 (spec_SignsOf.l2 kq l0 x5_1 x6_2 x7_3 (l0.length : Int) x151001_3 = some (r1, r2, r3)) ∧ Aside0 (kq ≤ k2) ∧ Aside0 (w'.heap[gb148]? = some (.cells #[.int .i64 0, .string (⟨#[]⟩ : ByteArray)] 25 (0, 0))) ∧ Aside0 (w'.heap[gb150]? = some (.cells #[.int .i64 (l0.length : Int), .string x151001_3] 25 (0, 0))) ∧ Aside0 (Below w.heap.size w w'))
    case atStart => exact ⟨(wrap64 (x6_2 + 1)), (x151001_2), zF, H', ⟨Nat.le_refl _⟩, ⟨zK BK148.out⟩, ⟨zK BK150.out⟩, ⟨zG2 GE148.out GE150.out⟩⟩
    case round =>
    clear H'
    try clear c3
    try clear c9
    try clear c9b0
    try clear c10
    try clear c10b0
    try clear hcz8_0
    try clear hcz8_1
    try clear hfz8_0
    try clear hfz8_1
    obtain ⟨x7_3, x151001_3, rfl, HA, HK3, BK148, BK150, HB⟩ := hrel
    cases gk with
    | zero => exact absurd HA.out (by simp [spec_SignsOf.l2])
    | succ k3 =>
    have H := HA.out
    clear HA
    simp only [spec_SignsOf.l2] at H
    by_cases c11 : x7_3 < (l0.length : Int)
    ·rw [if_pos c11] at H
     have c11b0 : decide (x7_3 < (l0.length : Int)) = true := decide_eq_true c11
     clear c11
     by_cases c12 : 0 ≤ x5_1
     ·rw [if_pos c12] at H
      have c12b0 : decide (0 ≤ x5_1) = true := decide_eq_true c12
      clear c12
      by_cases c13 : x5_1 < (l0.length : Int)
      ·rw [if_pos c13] at H
       have c13b0 : decide (x5_1 < (l0.length : Int)) = true := decide_eq_true c13
       clear c13
       by_cases c14 : 0 ≤ x6_2
       ·rw [if_pos c14] at H
        have c14b0 : decide (0 ≤ x6_2) = true := decide_eq_true c14
        clear c14
        by_cases c15 : x6_2 < (l0.length : Int)
        ·rw [if_pos c15] at H
         have c15b0 : decide (x6_2 < (l0.length : Int)) = true := decide_eq_true c15
         clear c15
         by_cases c16 : 0 ≤ x7_3
         ·rw [if_pos c16] at H
          have c16b0 : decide (0 ≤ x7_3) = true := decide_eq_true c16
          clear c16
          obtain ⟨t154, A17, H⟩ := zO H
          obtain ⟨t155, A18, H⟩ := zO H
          by_cases c19 : x151001_3.size + t155.size ≤ 9223372036854775807
          ·rw [if_pos c19] at H
           have c19b0 := eq_true c19
           have c19b1 : decide (x151001_3.size + t155.size ≤ 9223372036854775807) = true := decide_eq_true c19
           try have c19b2 : (9223372036854775807 < x151001_3.size + t155.size) = False := eq_false (Nat.not_lt.2 c19)
           have H' := Aside0.mk H; clear H
           try go_wp2
           replace BK148 := Aside0.mk (blk_drew BK148.out)
           replace BK150 := Aside0.mk (blk_drew BK150.out)
           replace HB := Aside0.mk (below_drew1 HB.out)
           have p151 : 0 ≤ (x5_1 : Int) := zA
           have q151 : x5_1 < (l0.length : Int) := zA
           obtain ⟨ad151, e151, hx151_0, hx151_1⟩ := at_T83 HR0.out x5_1 p151 q151
           have hw151_1 := hx151_1
           have hw151_0 := hx151_0
           cases e151
           replace hx151_0 := (HB.out.cell (World.block_lt_of_cell? w _ hx151_0)).trans hx151_0
           replace hx151_1 := (HB.out.cell (World.block_lt_of_cell? w _ hx151_1)).trans hx151_1
           replace p151 := eq_true p151
           replace q151 := eq_true q151
           have p152 : 0 ≤ (x6_2 : Int) := zA
           have q152 : x6_2 < (l0.length : Int) := zA
           obtain ⟨ad152, e152, hx152_0, hx152_1⟩ := at_T83 HR0.out x6_2 p152 q152
           have hw152_1 := hx152_1
           have hw152_0 := hx152_0
           obtain rfl : ad151 = ad152 := (by injection e152)
           replace hx152_0 := (HB.out.cell (World.block_lt_of_cell? w _ hx152_0)).trans hx152_0
           replace hx152_1 := (HB.out.cell (World.block_lt_of_cell? w _ hx152_1)).trans hx152_1
           replace p152 := eq_true p152
           replace q152 := eq_true q152
           have p153 : 0 ≤ (x7_3 : Int) := zA
           have q153 : x7_3 < (l0.length : Int) := zA
           obtain ⟨ad153, e153, hx153_0, hx153_1⟩ := at_T83 HR0.out x7_3 p153 q153
           have hw153_1 := hx153_1
           have hw153_0 := hx153_0
           obtain rfl : ad151 = ad153 := (by injection e153)
           replace hx153_0 := (HB.out.cell (World.block_lt_of_cell? w _ hx153_0)).trans hx153_0
           replace hx153_1 := (HB.out.cell (World.block_lt_of_cell? w _ hx153_1)).trans hx153_1
           replace p153 := eq_true p153
           replace q153 := eq_true q153
           refine start_ (n := 19) (S := fun w' => w'.cell? ⟨gb150, 0, none⟩ = some (.int .i64 (l0.length : Int)) ∧ w'.cell? ⟨gb150, 1, none⟩ = some (.string x151001_3) ∧ w'.cell? (ad151.add ((x5_1).toNat * 2)) = some (.int .i64 ((rd_T83 l0 x5_1).f0)) ∧ w'.cell? ⟨(ad151.add ((x5_1).toNat * 2)).block, (ad151.add ((x5_1).toNat * 2)).off + 1, none⟩ = some (.int .i64 ((rd_T83 l0 x5_1).f1)) ∧ w'.cell? (ad151.add ((x6_2).toNat * 2)) = some (.int .i64 ((rd_T83 l0 x6_2).f0)) ∧ w'.cell? ⟨(ad151.add ((x6_2).toNat * 2)).block, (ad151.add ((x6_2).toNat * 2)).off + 1, none⟩ = some (.int .i64 ((rd_T83 l0 x6_2).f1)) ∧ w'.cell? (ad151.add ((x7_3).toNat * 2)) = some (.int .i64 ((rd_T83 l0 x7_3).f0)) ∧ w'.cell? ⟨(ad151.add ((x7_3).toNat * 2)).block, (ad151.add ((x7_3).toNat * 2)).off + 1, none⟩ = some (.int .i64 ((rd_T83 l0 x7_3).f1))) (ds := [18]) #[false, false, false, false, false, false, false, false, false, false, false, false, false, false, false, false, false, false, false] (by kernel_rfl) rfl rfl ⟨(blk_cell BK150.out 0).trans rfl, (blk_cell BK150.out 1).trans rfl, ((HB.out.cell (World.block_lt_of_cell? w _ hw151_0)).trans hw151_0), ((HB.out.cell (World.block_lt_of_cell? w _ hw151_1)).trans hw151_1), ((HB.out.cell (World.block_lt_of_cell? w _ hw152_0)).trans hw152_0), ((HB.out.cell (World.block_lt_of_cell? w _ hw152_1)).trans hw152_1), ((HB.out.cell (World.block_lt_of_cell? w _ hw153_0)).trans hw153_0), ((HB.out.cell (World.block_lt_of_cell? w _ hw153_1)).trans hw153_1)⟩ (fun hHeld => ?_); refine with_tabW spec_SignsOf.tab13 spec_SignsOf.bits13 (fun HT_ HW_ => ?_)
           generalize wr.drew = w20 at BK148 BK150 HB hx151_0 hx151_1 hx152_0 hx152_1 hx153_0 hx153_1 hHeld ⊢
           refine zP 0 (some 37) rfl rfl ?_
           refine zP 2 (some 39) rfl rfl ?_
           refine zP 3 (some 40) rfl rfl ?_
           refine zP 4 (some 41) rfl rfl ?_
           refine zP 6 (some 43) rfl rfl ?_
           refine zP 7 (some 44) rfl rfl ?_
           refine zP 8 (some 45) rfl rfl ?_
           refine zP 10 (some 47) rfl rfl ?_
           refine zP 11 (some 48) rfl rfl ?_
           refine zP 12 (some 49) rfl rfl ?_
           refine zY8 1 (some 38) rfl rfl hHeld ?_
           refine zY8 5 (some 42) rfl rfl hHeld ?_
           refine zY8 9 (some 46) rfl rfl hHeld ?_
           refine zY8 13 (some 50) rfl rfl hHeld ?_
           refine zU 14 (some 51) rfl rfl (fun K hK => ?_)
           refine goes_ Try.func103 (by kernel_rfl) rfl #[.agg #[.int .i64 ((rd_T83 l0 x5_1).f0), .int .i64 ((rd_T83 l0 x5_1).f1)], .agg #[.int .i64 ((rd_T83 l0 x6_2).f0), .int .i64 ((rd_T83 l0 x6_2).f1)], .agg #[.int .i64 ((rd_T83 l0 x7_3).f0), .int .i64 ((rd_T83 l0 x7_3).f1)]] (by rfl) rfl rfl zM ?_
           with_reducible refine (spec_l2Area.calls ((rd_T83 l0 x5_1).f0) ((rd_T83 l0 x5_1).f1) ((rd_T83 l0 x6_2).f0) ((rd_T83 l0 x6_2).f1) ((rd_T83 l0 x7_3).f0) ((rd_T83 l0 x7_3).f1) t154 _ A17.out).mono ?_
           rintro e w21 ⟨rfl, hb⟩
           refine ⟨_, rfl, ?_⟩
           replace BK148 := zV BK148.out hb
           replace BK150 := zV BK150.out hb
           replace HB := Aside0.mk (below_step (zG2 GE148.out GE150.out) hb)
           (try clear hb)
           refine hK.out _ _ ⟨(blk_cell BK150.out 0).trans rfl, (blk_cell BK150.out 1).trans rfl, ((HB.out.cell (World.block_lt_of_cell? w _ hw151_0)).trans hw151_0), ((HB.out.cell (World.block_lt_of_cell? w _ hw151_1)).trans hw151_1), ((HB.out.cell (World.block_lt_of_cell? w _ hw152_0)).trans hw152_0), ((HB.out.cell (World.block_lt_of_cell? w _ hw152_1)).trans hw152_1), ((HB.out.cell (World.block_lt_of_cell? w _ hw153_0)).trans hw153_0), ((HB.out.cell (World.block_lt_of_cell? w _ hw153_1)).trans hw153_1)⟩ (fun hHeld => ?_)
           clear hK K
           refine zN ?_
           refine zU 15 (some 52) rfl rfl (fun K hK => ?_)
           refine goes_ Try.func102 (by kernel_rfl) rfl #[.int .i64 t154] (by rfl) rfl rfl zM ?_
           with_reducible refine (spec_l3Byte.calls t154 t155 _ A18.out).mono ?_
           rintro e w' ⟨rfl, ⟨nd, rfl⟩⟩
           refine ⟨_, rfl, ?_⟩
           refine hK.out _ _ ⟨(blk_cell BK150.out 0).trans rfl, (blk_cell BK150.out 1).trans rfl, ((HB.out.cell (World.block_lt_of_cell? w _ hw151_0)).trans hw151_0), ((HB.out.cell (World.block_lt_of_cell? w _ hw151_1)).trans hw151_1), ((HB.out.cell (World.block_lt_of_cell? w _ hw152_0)).trans hw152_0), ((HB.out.cell (World.block_lt_of_cell? w _ hw152_1)).trans hw152_1), ((HB.out.cell (World.block_lt_of_cell? w _ hw153_0)).trans hw153_0), ((HB.out.cell (World.block_lt_of_cell? w _ hw153_1)).trans hw153_1)⟩ (fun hHeld => ?_)
           clear hK K
           refine zN ?_
           refine zP 16 (some 53) rfl rfl ?_
           refine zP 17 (some 54) rfl rfl ?_
           refine last_ (i := 18) (N := none) #[true, true, true, true, true, true, true, true, true, true, true, true, true, true, true, true, true, true, true] rfl rfl (one_of HT_.out (by kernel_rfl)) (by decide) (fun K hK => ?_)
           have hs22 : w21.cell? ⟨gb150, 1, none⟩ = some (.string x151001_3) := (blk_cell BK150.out 1).trans rfl
           have hfs22 := blk_frozen BK150.out 1
           have hns22_0 := NB148_150.out
           have hms22_0 := NB150_148.out
           refine skip_ (w1 := ?_) (by rfl) rfl ?_ ?_
           rotate_left
           ·go_simp
            rfl
           refine hK.out _ _ ?_
           clear hK K
           refine done_ (done_of HT_.out (by kernel_rfl)) ?_
           try go_wp2
           go_roundg k3
           case measure => have := HK1.out; have := HK2.out; have := HK3.out; omega
           case rel => exact ⟨(wrap64 (x7_3 + 1)), (x151001_3 ++ t155), zF, H', ⟨by have := HK1.out; have := HK2.out; have := HK3.out; omega⟩, ⟨zk1 BK148.out NB148_150.out⟩, ⟨zk0 BK150.out⟩, ⟨zG2 GE148.out GE150.out⟩⟩
          rw [if_neg c19] at H
          exact absurd H (by simp)
         rw [if_neg c16] at H
         exact absurd H (by simp)
        rw [if_neg c15] at H
        exact absurd H (by simp)
       rw [if_neg c14] at H
       exact absurd H (by simp)
      rw [if_neg c13] at H
      exact absurd H (by simp)
     rw [if_neg c12] at H
     exact absurd H (by simp)
    rw [if_neg c11] at H
    have c11b0 : decide (x7_3 < (l0.length : Int)) = false := decide_eq_false c11
    clear c11
    have H' := Aside0.mk H; clear H
    go_wp2
    go_roundg k3
    case measure => have := HK1.out; have := HK2.out; have := HK3.out; omega
    case rel => exact ⟨(wrap64 (x6_2 + 1)), (x151001_3), zF, H', ⟨by have := HK1.out; have := HK2.out; have := HK3.out; omega⟩, ⟨zK BK148.out⟩, ⟨zK BK150.out⟩, ⟨zG2 GE148.out GE150.out⟩⟩
   rw [if_neg c10] at H
   have c10b0 : decide (x6_2 < (l0.length : Int)) = false := decide_eq_false c10
   clear c10
   have H' := Aside0.mk H; clear H
   go_wp2
   go_roundg k2
   case measure => have := HK1.out; have := HK2.out; omega
   case rel => exact ⟨(wrap64 (x5_1 + 1)), (x151001_2), zF, H', ⟨by have := HK1.out; have := HK2.out; omega⟩, ⟨zK BK148.out⟩, ⟨zK BK150.out⟩, ⟨zG2 GE148.out GE150.out⟩⟩
  rw [if_neg c9] at H
  have c9b0 : decide (x5_1 < (l0.length : Int)) = false := decide_eq_false c9
  clear c9
  simp only [Option.some.injEq, Prod.mk.injEq] at H
  obtain ⟨rfl, rfl, rfl⟩ := H
  have hnb23 := NB150_148.out
  have hnc23 := NB148_150.out
  obtain ⟨hcz24_0, hcz24_1, hfz24_0, hfz24_1⟩ := zq2 BK150.out
  obtain ⟨hcz25_0, hcz25_1, hfz25_0, hfz25_1⟩ := zq2 BK148.out
  go_wp2
  refine bodyPost_ret (results_ct rfl _ _ gb148 25 #[.int .i64 (l0.length : Int), .string x151001_1] (0, 0) _ rfl (zk0 BK148.out) Try.underlying25 rfl (by kernel_rfl)) rfl ?_
  exact ⟨zE, zG2 GE148.out GE150.out⟩
 replace c3 := Bool.eq_false_iff.mpr c3
 subst c3
 replace H := (if_neg zFf).symm.trans H
 simp only [Option.some.injEq, Prod.mk.injEq] at H
 obtain ⟨rfl, rfl, rfl⟩ := H
 go_enter Try.func27, Try.ntmps27
 go_wp2_with (first | ((with_reducible refine gate_dst (N := 2) rfl ?_); refine zBx (N := 2) #[.int .i64 0, .string (⟨#[]⟩ : ByteArray)] 25 ?_; intro gb148 hg w26 hbox hb; have BK148 := Aside0.mk (hbox); have GW148 := zS hg; have GE148 := zS hg; replace HB := zX hb; clear hb hbox hg) | ((with_reducible refine gate_callee (f := 101) rfl ?_); refine zD (some 9) Try.func101 #[.slice A0 l0.length c0] ?_; (with_reducible refine (spec_ArePoints.calls k _ _ l0 false _ ?side1 ?side2 A2.out).mono ?_); (case side1 => repeat (first | exact (Kd.C_below HR0.out HB.out) | (with_reducible refine Kd.C_alloc ?_ _) | (with_reducible refine Kd.C_drewN ?_ _) | (with_reducible refine Kd.C_drew ?_))); (case side2 => exact HC0.out); rintro e w27 ⟨rfl, hb⟩; refine ⟨_, rfl, ?_⟩; replace BK148 := zV BK148.out hb; replace HB := zX1 GE148.out hb; (try clear hb); obtain ⟨hcz28_0, hcz28_1, hfz28_0, hfz28_1⟩ := zq2 BK148.out))
 refine bodyPost_ret (results_ct rfl _ _ gb148 25 #[.int .i64 0, .string (⟨#[]⟩ : ByteArray)] (0, 0) _ rfl (zk0 BK148.out) Try.underlying25 rfl (by kernel_rfl)) rfl ?_
 exact ⟨zE, zG GE148.out⟩
theorem eqA83 (d : Nat) (w : World) (x0 y0 : Int) (x1 y1 : Int) :
  (Op.equalIn (d + 2) 83 (.agg #[.int .i64 x0, .int .i64 x1]) (.agg #[.int .i64 y0, .int .i64 y1])).run Try.prog w = .ok (x0 == y0 && (x1 == y1)) w := by
 refine eqA_of Try.underlying83 (by kernel_rfl) ?_
 refine eqf_cons (by rfl) (by go_simp; rfl) (by go_simp; rfl) (by go_simp) ?_
 exact eqf_last (by rfl) (by go_simp; rfl) (by go_simp; rfl) (by go_simp)
end Go.Proofs.Ytckkfjdkaimmhaa.PX
namespace Go.Proofs.Ytckkfjdkaimmhaa.PX
open Go.RowKit Go.Proofs.Ytckkfjdkaimmhaa.G Go.Proofs.YtckkfjdkaimmhaaW.PrintWords Go.Proofs.YtckkfjdkaimmhaaW.PrintLast Go.Proofs.YtckkfjdkaimmhaaW.PrintMore
attribute [local go_sem] max2_int min2_int max_two min_two max_three min_three max_four min_four   -- for this text's walks alone
set_option linter.unusedVariables false
set_option linter.unusedSimpArgs false
attribute [local go_sem high] eqA83
/-! ### spec_l2Draw: function 148 -/
mutual
def spec_l2Draw.l0 : Nat → Int → List (S83) → Int → List Int → Int → Int → Option ((List (S83)) × Int × Int)
 | 0, _, _, _, _, _, _ => none
 | k + 1, x3, x4, x5, x1000, x1001, x1002 => if x5 < 12 then (spec_l2Draw.j1 k x3 x4 x5 (decide ((x4.length : Int) < x3)) x1000 x1001 x1002) else (spec_l2Draw.j1 k x3 x4 x5 false x1000 x1001 x1002)
def spec_l2Draw.j1 : Nat → Int → List (S83) → Int → Bool → List Int → Int → Int → Option ((List (S83)) × Int × Int)
 | 0, _, _, _, _, _, _, _ => none
 | k + 1, x3, x4, x5, x21, x1000, x1001, x1002 => if x21 = true then ((spec_l1Below.f x1000 x1001 x1002 13).bind fun bt165 => ((spec_l1Below.f x1000 bt165.2.1 bt165.2.2 13).bind fun bt168 => (spec_l2Draw.l1 k x3 x4 x5 true 0 x1000 bt168.2.1 bt168.2.2 (wrap64 (bt165.1 - 6)) (wrap64 (bt168.1 - 6))))) else (if (x4.length : Int) < 3 then (some ((([(⟨0, 0⟩ : S83), (⟨4, 1⟩ : S83), (⟨1, 3⟩ : S83), (⟨2, 2⟩ : S83)] : List (S83))), x1001, x1002)) else (some (x4, x1001, x1002)))
def spec_l2Draw.l1 : Nat → Int → List (S83) → Int → Bool → Int → List Int → Int → Int → Int → Int → Option ((List (S83)) × Int × Int)
 | 0, _, _, _, _, _, _, _, _, _, _ => none
 | k + 1, x3, x4, x5, x7, x8, x1000, x1001, x1002, x172000, x172001 => if x8 < (x4.length : Int) then (spec_l2Draw.j3 k x3 x4 x5 x7 x8 x7 x1000 x1001 x1002 x172000 x172001) else (spec_l2Draw.j3 k x3 x4 x5 x7 x8 false x1000 x1001 x1002 x172000 x172001)
def spec_l2Draw.j3 : Nat → Int → List (S83) → Int → Bool → Int → Bool → List Int → Int → Int → Int → Int → Option ((List (S83)) × Int × Int)
 | 0, _, _, _, _, _, _, _, _, _, _, _ => none
 | k + 1, x3, x4, x5, x7, x8, x37, x1000, x1001, x1002, x172000, x172001 => if x37 = true then (if 0 ≤ x8 then (if x8 < (x4.length : Int) then (spec_l2Draw.l2 k x3 x4 x5 (!(((rd_T83 x4 x8).f0) == x172000) || (!(((rd_T83 x4 x8).f1) == x172001))) x8 0 x1000 x1001 x1002 x172000 x172001) else (none)) else (none)) else (if x7 = true then (if x4.length < 8796093022208 then (spec_l2Draw.l0 k x3 (x4 ++ [(⟨x172000, x172001⟩ : S83)]) (wrap64 (x5 + 1)) x1000 x1001 x1002) else (none)) else (spec_l2Draw.l0 k x3 x4 (wrap64 (x5 + 1)) x1000 x1001 x1002))
def spec_l2Draw.l2 : Nat → Int → List (S83) → Int → Bool → Int → Int → List Int → Int → Int → Int → Int → Option ((List (S83)) × Int × Int)
 | 0, _, _, _, _, _, _, _, _, _, _, _ => none
 | k + 1, x3, x4, x5, x7, x8, x9, x1000, x1001, x1002, x172000, x172001 => if x9 < x8 then (if x7 = true then (if 0 ≤ x9 then (if x9 < (x4.length : Int) then (if 0 ≤ x8 then (if x8 < (x4.length : Int) then ((spec_l2Area.f ((rd_T83 x4 x9).f0) ((rd_T83 x4 x9).f1) ((rd_T83 x4 x8).f0) ((rd_T83 x4 x8).f1) x172000 x172001).bind fun t178 => (spec_l2Draw.l2 k x3 x4 x5 (t178 != 0) x8 (wrap64 (x9 + 1)) x1000 x1001 x1002 x172000 x172001)) else (none)) else (none)) else (none)) else (none)) else (spec_l2Draw.l1 k x3 x4 x5 x7 (wrap64 (x8 + 1)) x1000 x1001 x1002 x172000 x172001)) else (spec_l2Draw.l1 k x3 x4 x5 x7 (wrap64 (x8 + 1)) x1000 x1001 x1002 x172000 x172001)
end
def spec_l2Draw.f (k : Nat) (s0_0 : List Int) (s0_1 : Int) (s0_2 : Int) : Option ((List (S83)) × Int × Int) := (spec_l1Below.f s0_0 s0_1 s0_2 4).bind fun bt156 => (spec_l2Draw.l0 k (wrap64 (3 + bt156.1)) (([] : List (S83))) 0 s0_0 bt156.2.1 bt156.2.2)
def spec_l2Draw.T15 : Bool × List (List Nat × List Nat) := (true, [([], []), ([], []), ([0, 1], [0, 1]), ([2], [2]), ([], []), ([], []), ([4, 5], [4, 5]), ([6], [6]), ([], []), ([3, 7, 8], [3, 7, 8]), ([9], [9]), ([10, 9, 0, 1, 2, 3, 4, 5, 6, 7, 8, 9, 10], [10])])
def spec_l2Draw.B15 : List Nat := [0, 0, 3, 7, 0, 0, 48, 112, 0, 511, 1023, 2047]
theorem spec_l2Draw.tab15 : rtab .any (opsOf Try.f148 15) = spec_l2Draw.T15 := by kernel_rfl
theorem spec_l2Draw.bits15 : waitsOk spec_l2Draw.T15.2 spec_l2Draw.B15 = true := by kernel_rfl
theorem zl18_0 {p q : Prop} (g : p) (h : p → q := by intro zg_; repeat (first | (with_reducible first | exact zg_ | apply IsS110.alloc | apply IsS110.drewN | apply IsS110.drew | apply IsS110.set_1 | apply IsS110.set_2) | exact zg_)) : q := h g
theorem zl18_1 {p q p0 : Prop} (g : p) (g0 : p0) (h : p → p0 → q := by intro zg_ z0_; repeat (first | (with_reducible first | exact zg_ | apply below_alloc | apply pw_below_drewN | apply below_drew1 | refine below_set ?_ z0_) | exact zg_)) : q := h g g0
theorem zl18_2 {p q : Prop} (g : p) (h : p → q := by intro zg_; repeat (first | (with_reducible first | exact zg_ | apply KeepBut.set_ | apply keep_drewN | apply keep_drew | apply keep_alloc) | exact zg_)) : q := h g
theorem zl18_3 {p q p0 : Prop} (g : p) (g0 : p0) (h : p → p0 → q := by intro zg_ z0_; repeat (first | (with_reducible first | exact zg_ | apply IsS110.alloc | apply IsS110.drewN | apply IsS110.drew | apply IsS110.set_1 | apply IsS110.set_2 | refine IsS110.far ?_ z0_ _) | exact zg_)) : q := h g g0
theorem zl18_4 {p q p0 : Prop} (g : p) (g0 : p0) (h : p → p0 → q := by intro zg_ z0_; repeat (first | (with_reducible first | exact zg_ | apply KeepBut.set_ | apply keep_drewN | apply keep_drew | apply keep_alloc | refine keep_far ?_ z0_ _) | exact zg_)) : q := h g g0
set_option maxHeartbeats 8000000 in
set_option maxRecDepth 100000 in
theorem spec_l2Draw.calls (k : Nat) (g : Nat) (s0_0 : List Int) (s0_1 : Int) (s0_2 : Int) (r1 : List (S83)) (r2 : Int) (r3 : Int) (w0 w : World) (hI : IsS110 w0 w g s0_0 s0_1 s0_2) (hB : Below w0.heap.size w0 w) (h : spec_l2Draw.f k s0_0 s0_1 s0_2 = some (r1, r2, r3)) :
  Calls Try.prog 148 #[.pointer (some ⟨g, 0, none⟩)] w fun e w' => ∃ v0_ : Value, e = .returned (v0_) ∧ Kd.R k83 83 w' w.heap.size (fun _ => True) v0_ r1 ∧ IsS110 w0 w' g s0_0 r2 r3 ∧ Below w0.heap.size w0 w' ∧ KeepBut w w' g none := by
 have hu83 := Try.underlying83
 have HI0 := Aside0.mk hI
 have HK := Aside0.mk (KeepBut.refl w g none)
 have HL := Aside0.mk hB.size
 clear hI
 have HW0 := Aside0.mk hB.size
 have HB := Aside0.mk hB
 clear hB
 have H : ((spec_l1Below.f s0_0 s0_1 s0_2 4).bind fun bt156 => (spec_l2Draw.l0 k (wrap64 (3 + bt156.1)) (([] : List (S83))) 0 s0_0 bt156.2.1 bt156.2.2)) = some (r1, r2, r3) := h
 clear h
 obtain ⟨⟨t156, t157, t158⟩, A2, H⟩ := zO H
 dsimp only at H
 obtain ⟨y159, hy159⟩ : ∃ y_ : List (S83), y_ = (([] : List (S83))) := ⟨_, rfl⟩
 replace H : (spec_l2Draw.l0 k (wrap64 (3 + t156)) y159 0 s0_0 t157 t158) = some (r1, r2, r3) := by first | (rw [hy159]; with_reducible exact H) | (have H2_ := (Option.bind_some _ _).symm.trans H; rw [hy159]; with_reducible exact H2_) | (have H2_ := (Option.bind_some _ _).symm.trans H; with_reducible exact H2_) | with_reducible exact H | (rw [hy159]; exact H) | exact H
 have Ny159 := Aside0.mk hy159
 clear hy159
 have H' := Aside0.mk H; clear H
 go_enter Try.func148, Try.ntmps148
 go_wp2_with (first | ((with_reducible refine gate_callee (f := 125) rfl ?_); refine zD (some 11) Try.func125 #[.pointer (some ⟨g, 0, none⟩), .int .i64 4] ?_; (with_reducible refine (spec_l1Below.calls g s0_0 s0_1 s0_2 4 t156 t157 t158 w0 _ ?side1 ?side2 A2.out).mono ?_); (case side1 => exact (zl18_0 HI0.out)); (case side2 => exact (zl18_1 HB.out (IsS110.ge HI0.out))); rintro e w3 ⟨rfl, hi, hb, hk⟩; refine ⟨_, rfl, ?_⟩; replace HK := Aside0.mk (KeepBut.trans (zl18_2 HK.out) hk (.inl rfl)); replace HI0 := Aside0.mk (hi); replace HB := Aside0.mk (hb); (try clear hb); (try clear hk); (try clear hi)) | ((with_reducible refine gate_dst (N := 13) rfl ?_); (try (refine gate_guard (by rfl) ?_; dsimp only)); refine Kd.R_lit k83 _ 83 ?hg (N := 13) ?hd (xs := ([] : List (S83))) (inner := []) (ok := fun _ => True) (okp := fun _ => True) ?hr ?hp (fun _ hk => hk) trivial (Below.refl _ _) (Nat.le_refl _) (by simp) ?_; (case hd => rfl); (case hg => rfl); (case hr => first | (go_simp; done) | (go_simp; rfl)); (case hp => exact (Reps.none _ _)); intro v160 w4 ho5 hb hg_ hnew_; clear hg_ hnew_; (first | rw [← Ny159.out] at ho5 | (simp only [Int.reduceToNat] at ho5; rw [← Ny159.out] at ho5)); have n0_ := Aside0.mk (Kd.R_lower ho5 (keep_size (w := w) (g := g) (row := none) (zl18_2 HK.out))); have n1_ := Aside0.mk (IsS110.below (zl18_0 HI0.out) hb); have n2_ := Aside0.mk (KeepBut.trans (zl18_2 HK.out) (KeepBut.of_below hb g none) (.inl rfl)); have n3_ := Aside0.mk (below_step (zG (IsS110.ge HI0.out)) hb); clear HI0; clear HK; clear HB; have HO161 := n0_; have HI0 := n1_; have HK := n2_; have HB := n3_; clear n0_ n1_ n2_ n3_; clear hb ho5))
 go_loopg [4, 5] k (fun kq v4 v5 w' => ∃ (x4_1 : List (S83)) (x5_1 : Int) (x1001_1 : Int) (x1002_1 : Int), v5 = .int .i64 x5_1 ∧ Aside0 (spec_l2Draw.l0 kq (wrap64 (3 + t156)) x4_1 x5_1 s0_0 x1001_1 x1002_1 = some (r1, r2, r3)) ∧ Aside0 (kq ≤ k) ∧ Aside0 (Kd.R k83 83 w' w.heap.size (fun _ => True) v4 x4_1) ∧ Aside0 (IsS110 w0 w' g s0_0 x1001_1 x1002_1) ∧ Aside0 (KeepBut w w' g none) ∧ Aside0 (Below w0.heap.size w0 w'))
 case atStart => exact ⟨(y159), (0), (t157), (t158), zF, H', ⟨Nat.le_refl _⟩, ⟨zR HO161.out⟩, ⟨(zl18_0 HI0.out)⟩, ⟨(zl18_2 HK.out)⟩, ⟨zG (IsS110.ge HI0.out)⟩⟩
 case round =>
 clear H'
 obtain ⟨x4_1, x5_1, x1001_1, x1002_1, rfl, HA, HK1, HO_4, HI0, HK, HB⟩ := hrel
 cases gk with
 | zero => exact absurd HA.out (by simp [spec_l2Draw.l0])
 | succ k1 =>
 have H := HA.out
 clear HA
 simp only [spec_l2Draw.l0] at H
 have HC6 := Aside0.mk H
 clear H
 go_upto_region 4 with (fail)
 go_cut [21] (fun v21 wc => ∃ (kq : Nat) (x21_5 : Bool), v21 = .bool x21_5 ∧ Aside0 (spec_l2Draw.j1 kq (wrap64 (3 + t156)) x4_1 x5_1 x21_5 s0_0 x1001_1 x1002_1 = some (r1, r2, r3)) ∧ Aside0 (kq ≤ k1) ∧ Aside0 (Kd.R k83 83 wc w.heap.size (fun _ => True) u4 x4_1) ∧ Aside0 (IsS110 w0 wc g s0_0 x1001_1 x1002_1) ∧ Aside0 (KeepBut w wc g none) ∧ Aside0 (Below w0.heap.size w0 wc))
 case first =>
  have H := HC6.out
  clear HC6
  by_cases c7 : x5_1 < 12
  ·rw [if_pos c7] at H
   have c7b0 : decide (x5_1 < 12) = true := decide_eq_true c7
   clear c7
   (first | rw [c7b0] | (simp only [i64_w, i32_w]; rw [c7b0]) | skip)
   have H' := Aside0.mk H; clear H
   obtain ⟨Ao8, co8, eo8⟩ := Kd.R_slice HO_4.out
   subst eo8
   go_wp2
   go_meet
   case rel => exact ⟨_, (decide ((x4_1.length : Int) < (wrap64 (3 + t156)))), zF, H', ⟨by have := HK1.out; first | omega | exact Nat.le_refl _⟩, ⟨zR HO_4.out⟩, ⟨(zl18_0 HI0.out)⟩, ⟨(zl18_2 HK.out)⟩, ⟨zG (IsS110.ge HI0.out)⟩⟩
  rw [if_neg c7] at H
  have c7b0 : decide (x5_1 < 12) = false := decide_eq_false c7
  clear c7
  (first | rw [c7b0] | (simp only [i64_w, i32_w]; rw [c7b0]) | skip)
  have H' := Aside0.mk H; clear H
  go_wp2
  go_meet
  case rel => exact ⟨_, (false), zF, H', ⟨by have := HK1.out; first | omega | exact Nat.le_refl _⟩, ⟨zR HO_4.out⟩, ⟨(zl18_0 HI0.out)⟩, ⟨(zl18_2 HK.out)⟩, ⟨zG (IsS110.ge HI0.out)⟩⟩
 case rest =>
 clear HC6
 obtain ⟨kq, x21_5, rfl, HA, HJ5, HO_4, HI0, HK, HB⟩ := hcut
 cases kq with
 | zero => exact absurd HA.out (by simp [spec_l2Draw.j1])
 | succ kj5 =>
 have H := HA.out
 clear HA
 simp only [spec_l2Draw.j1] at H
 by_cases c9 : x21_5 = true
 ·subst c9
  replace H := (if_pos rfl).symm.trans H
  obtain ⟨⟨t165, t166, t167⟩, A10, H⟩ := zO H
  dsimp only at H
  obtain ⟨⟨t168, t169, t170⟩, A11, H⟩ := zO H
  dsimp only at H
  have H' := Aside0.mk H; clear H
  go_wp2_with (first | ((with_reducible refine gate_callee (f := 125) rfl ?_); refine zD (some 25) Try.func125 #[.pointer (some ⟨g, 0, none⟩), .int .i64 13] ?_; (with_reducible refine (spec_l1Below.calls g s0_0 x1001_1 x1002_1 13 t165 t166 t167 w0 _ ?side1 ?side2 A10.out).mono ?_); (case side1 => exact (zl18_0 HI0.out)); (case side2 => exact (zl18_1 HB.out (IsS110.ge HI0.out))); rintro e w12 ⟨rfl, hi, hb, hk⟩; refine ⟨_, rfl, ?_⟩; replace HO_4 := Aside0.mk (Kd.R_mono (Kd.R_keep (IsS110.apart (show IsS110 w0 _ g s0_0 x1001_1 x1002_1 from (zl18_0 HI0.out)) (zR HO_4.out) (by decide)) hk (fun _ h => h.2)) (fun _ h => h.1)); replace HK := Aside0.mk (KeepBut.trans (zl18_2 HK.out) hk (.inl rfl)); replace HI0 := Aside0.mk (hi); replace HB := Aside0.mk (hb); (try clear hb); (try clear hk); (try clear hi)) | ((with_reducible refine gate_callee (f := 125) rfl ?_); refine zD (some 28) Try.func125 #[.pointer (some ⟨g, 0, none⟩), .int .i64 13] ?_; (with_reducible refine (spec_l1Below.calls g s0_0 t166 t167 13 t168 t169 t170 w0 _ ?side1 ?side2 A11.out).mono ?_); (case side1 => exact (zl18_0 HI0.out)); (case side2 => exact (zl18_1 HB.out (IsS110.ge HI0.out))); rintro e w13 ⟨rfl, hi, hb, hk⟩; refine ⟨_, rfl, ?_⟩; replace HO_4 := Aside0.mk (Kd.R_mono (Kd.R_keep (IsS110.apart (show IsS110 w0 _ g s0_0 t166 t167 from (zl18_0 HI0.out)) (zR HO_4.out) (by decide)) hk (fun _ h => h.2)) (fun _ h => h.1)); replace HK := Aside0.mk (KeepBut.trans (zl18_2 HK.out) hk (.inl rfl)); replace HI0 := Aside0.mk (hi); replace HB := Aside0.mk (hb); (try clear hb); (try clear hk); (try clear hi)) | ((with_reducible refine gate_dst (N := 6) rfl ?_); (try (refine gate_guard (by rfl) ?_; dsimp only)); refine zBx (N := 6) #[.int .i64 0, .int .i64 0] 83 ?_; intro gb171 hg w14 hbox hb; have n0_ := Aside0.mk (Kd.R_below (Kd.R_elderB (zR HO_4.out) gb171 (Nat.le_of_eq hg.symm)) hb); have n1_ := Aside0.mk (IsS110.below (zl18_0 HI0.out) hb); have n2_ := Aside0.mk (KeepBut.trans (zl18_2 HK.out) (KeepBut.of_below hb g none) (.inl rfl)); have n3_ := Aside0.mk (below_step (zG (IsS110.ge HI0.out)) hb); have n4_ := Aside0.mk (hbox); have n5_ := Aside0.mk ((by rw [hg]; exact (keep_size (w := w) (g := g) (row := none) (zl18_2 HK.out)) : w.heap.size ≤ gb171)); have n6_ := Aside0.mk ((Nat.le_trans HW0.out (by rw [hg]; exact (keep_size (w := w) (g := g) (row := none) (zl18_2 HK.out)) : w.heap.size ≤ gb171) : w0.heap.size ≤ gb171)); have n7_ := Aside0.mk ((by rw [hg]; exact Nat.ne_of_lt (IsS110.lt (show IsS110 w0 _ g s0_0 t169 t170 from (zl18_0 HI0.out))) : g ≠ gb171)); have n8_ := Aside0.mk ((by rw [hg]; exact Nat.ne_of_gt (IsS110.lt (show IsS110 w0 _ g s0_0 t169 t170 from (zl18_0 HI0.out))) : gb171 ≠ g)); clear HO_4; clear HI0; clear HK; clear HB; have HO_4 := n0_; have HI0 := n1_; have HK := n2_; have HB := n3_; have BK171 := n4_; have GW171 := n5_; have GE171 := n6_; have NB0_171 := n7_; have NB171_0 := n8_; clear n0_ n1_ n2_ n3_ n4_ n5_ n6_ n7_ n8_; clear hb hbox hg; have hnb15 := NB171_0.out; have hnc15 := NB0_171.out; obtain ⟨hcz16_0, hcz16_1, hfz16_0, hfz16_1⟩ := zq2 BK171.out))
  go_loopg [7, 8] kj5 (fun kq v7 v8 w' => ∃ (x7_3 : Bool) (x8_3 : Int), v7 = .bool x7_3 ∧ v8 = .int .i64 x8_3 ∧ Aside0 (spec_l2Draw.l1 kq (wrap64 (3 + t156)) x4_1 x5_1 x7_3 x8_3 s0_0 t169 t170 (wrap64 (t165 - 6)) (wrap64 (t168 - 6)) = some (r1, r2, r3)) ∧ Aside0 (kq ≤ kj5) ∧ Aside0 (Kd.R k83 83 w' w.heap.size (fun k_ => k_ ≠ gb171) u4 x4_1) ∧ Aside0 (w'.heap[gb171]? = some (.cells #[.int .i64 (wrap64 (t165 - 6)), .int .i64 (wrap64 (t168 - 6))] 83 (0, 0))) ∧ Aside0 (IsS110 w0 w' g s0_0 t169 t170) ∧ Aside0 (KeepBut w w' g none) ∧ Aside0 (Below w0.heap.size w0 w'))
  case atStart => exact ⟨(true), (0), zF, zF, H', ⟨Nat.le_refl _⟩, ⟨by (with_reducible repeat (first | apply Kd.R_alloc | apply Kd.R_drewN | apply Kd.R_drew)); exact Kd.R_mono (Kd.R_far (p := ⟨gb171, 1, none⟩) (Kd.R_far (p := ⟨gb171, 0, none⟩) (Kd.R_mono HO_4.out (fun k_ hk => (⟨hk, hk.2⟩ : _ ∧ k_ ≠ gb171))) (fun _ hk => hk.2) (.int .i64 (wrap64 (t165 - 6)))) (fun _ hk => hk.2) (.int .i64 (wrap64 (t168 - 6)))) (fun _ hk => hk.1.2)⟩, ⟨zk0 BK171.out⟩, ⟨(zl18_3 HI0.out NB0_171.out)⟩, ⟨(zl18_4 HK.out GW171.out)⟩, ⟨zG2 (IsS110.ge HI0.out) GE171.out⟩⟩
  case round =>
  clear H'
  try clear c9
  try clear hcz16_0
  try clear hcz16_1
  try clear hfz16_0
  try clear hfz16_1
  obtain ⟨x7_3, x8_3, rfl, rfl, HA, HK3, HO_4, BK171, HI0, HK, HB⟩ := hrel
  cases gk with
  | zero => exact absurd HA.out (by simp [spec_l2Draw.l1])
  | succ k3 =>
  have H := HA.out
  clear HA
  simp only [spec_l2Draw.l1] at H
  have HC17 := Aside0.mk H
  clear H
  go_upto_region 9 with (fail)
  go_cut [37] (fun v37 wc => ∃ (kq : Nat) (x37_16 : Bool), v37 = .bool x37_16 ∧ Aside0 (spec_l2Draw.j3 kq (wrap64 (3 + t156)) x4_1 x5_1 x7_3 x8_3 x37_16 s0_0 t169 t170 (wrap64 (t165 - 6)) (wrap64 (t168 - 6)) = some (r1, r2, r3)) ∧ Aside0 (kq ≤ k3) ∧ Aside0 (Kd.R k83 83 wc w.heap.size (fun k_ => k_ ≠ gb171) u4 x4_1) ∧ Aside0 (wc.heap[gb171]? = some (.cells #[.int .i64 (wrap64 (t165 - 6)), .int .i64 (wrap64 (t168 - 6))] 83 (0, 0))) ∧ Aside0 (IsS110 w0 wc g s0_0 t169 t170) ∧ Aside0 (KeepBut w wc g none) ∧ Aside0 (Below w0.heap.size w0 wc))
  case first =>
   have H := HC17.out
   clear HC17
   by_cases c18 : x8_3 < (x4_1.length : Int)
   ·rw [if_pos c18] at H
    have c18b0 : decide (x8_3 < (x4_1.length : Int)) = true := decide_eq_true c18
    clear c18
    (first | rw [c18b0] | (simp only [i64_w, i32_w]; rw [c18b0]) | skip)
    have H' := Aside0.mk H; clear H
    obtain ⟨Ao19, co19, eo19⟩ := Kd.R_slice HO_4.out
    subst eo19
    go_wp2
    go_meet
    case rel => exact ⟨_, (x7_3), zF, H', ⟨by have := HK1.out; have := HJ5.out; have := HK3.out; first | omega | exact Nat.le_refl _⟩, ⟨zR HO_4.out⟩, ⟨zK BK171.out⟩, ⟨(zl18_3 HI0.out NB0_171.out)⟩, ⟨(zl18_4 HK.out GW171.out)⟩, ⟨zG2 (IsS110.ge HI0.out) GE171.out⟩⟩
   rw [if_neg c18] at H
   have c18b0 : decide (x8_3 < (x4_1.length : Int)) = false := decide_eq_false c18
   clear c18
   (first | rw [c18b0] | (simp only [i64_w, i32_w]; rw [c18b0]) | skip)
   have H' := Aside0.mk H; clear H
   obtain ⟨Ao20, co20, eo20⟩ := Kd.R_slice HO_4.out
   subst eo20
   go_wp2
   go_meet
   case rel => exact ⟨_, (false), zF, H', ⟨by have := HK1.out; have := HJ5.out; have := HK3.out; first | omega | exact Nat.le_refl _⟩, ⟨zR HO_4.out⟩, ⟨zK BK171.out⟩, ⟨(zl18_3 HI0.out NB0_171.out)⟩, ⟨(zl18_4 HK.out GW171.out)⟩, ⟨zG2 (IsS110.ge HI0.out) GE171.out⟩⟩
  case rest =>
  clear HC17
  try clear c9
  try clear hcz16_0
  try clear hcz16_1
  try clear hfz16_0
  try clear hfz16_1
  obtain ⟨kq, x37_16, rfl, HA, HJ16, HO_4, BK171, HI0, HK, HB⟩ := hcut
  cases kq with
  | zero => exact absurd HA.out (by simp [spec_l2Draw.j3])
  | succ kj16 =>
  have H := HA.out
  clear HA
  simp only [spec_l2Draw.j3] at H
  by_cases c21 : x37_16 = true
  ·subst c21
   replace H := (if_pos rfl).symm.trans H
   by_cases c22 : 0 ≤ x8_3
   ·rw [if_pos c22] at H
    have c22b0 : decide (0 ≤ x8_3) = true := decide_eq_true c22
    clear c22
    by_cases c23 : x8_3 < (x4_1.length : Int)
    ·rw [if_pos c23] at H
     have c23b0 : decide (x8_3 < (x4_1.length : Int)) = true := decide_eq_true c23
     clear c23
     have H' := Aside0.mk H; clear H
     try go_wp2
     replace HO_4 := Aside0.mk (Kd.R_drew HO_4.out)
     replace BK171 := Aside0.mk (blk_drew BK171.out)
     replace HI0 := Aside0.mk (IsS110.drew HI0.out)
     replace HK := Aside0.mk (keep_drew HK.out)
     replace HB := Aside0.mk (below_drew1 HB.out)
     obtain ⟨Ao25, co25, eo25⟩ := Kd.R_slice HO_4.out
     (first | subst eo25 | (injection eo25 with f1_ f2_ f3_; have f4_ := f1_.symm; have f5_ := f3_.symm; clear f1_ f2_ f3_; subst f4_; subst f5_))
     have p175 : 0 ≤ (x8_3 : Int) := zA
     have q175 : x8_3 < (x4_1.length : Int) := zA
     obtain ⟨ad175, e175, hx175_0, hx175_1⟩ := at_T83 (Kd.R_reads' HO_4.out).2.2 x8_3 p175 q175
     cases e175
     replace p175 := eq_true p175
     replace q175 := eq_true q175
     refine start_ (n := 7) (S := fun w' => w'.cell? ⟨gb171, 0, none⟩ = some (.int .i64 (wrap64 (t165 - 6))) ∧ w'.cell? ⟨gb171, 1, none⟩ = some (.int .i64 (wrap64 (t168 - 6))) ∧ w'.cell? (ad175.add ((x8_3).toNat * 2)) = some (.int .i64 ((rd_T83 x4_1 x8_3).f0)) ∧ w'.cell? ⟨(ad175.add ((x8_3).toNat * 2)).block, (ad175.add ((x8_3).toNat * 2)).off + 1, none⟩ = some (.int .i64 ((rd_T83 x4_1 x8_3).f1))) (ds := []) #[false, false, false, false, false, false, false] (by kernel_rfl) rfl rfl ⟨(blk_cell BK171.out 0).trans rfl, (blk_cell BK171.out 1).trans rfl, hx175_0, hx175_1⟩ (fun hHeld => ?_)
     generalize wc.drew = w24 at HO_4 BK171 HI0 HK HB hx175_0 hx175_1 hHeld ⊢
     refine pure_ (i := 0) (N := some 40) (v := ?_) (a' := ?_) #[true, false, false, false, false, false, false] rfl rfl (by kernel_rfl) (fun _ _ _ h => h) (Or.inl ⟨by rfl, ?_⟩) ?_ ?_
     rotate_left
     ·intro w'
      go_simp
      with_reducible rfl
     rotate_left
     ·simp only [Act.put, List.setIfInBounds_toArray, List.set_cons_zero, List.set_cons_succ, i64_w, i32_w]
      rfl
     refine pure_ (i := 1) (N := some 41) (v := ?_) (a' := ?_) #[true, true, false, false, false, false, false] rfl rfl (by kernel_rfl) (fun _ _ _ h => h) (Or.inl ⟨by rfl, ?_⟩) ?_ ?_
     rotate_left
     ·intro w'
      go_simp
      with_reducible rfl
     rotate_left
     ·simp only [Act.put, List.setIfInBounds_toArray, List.set_cons_zero, List.set_cons_succ, i64_w, i32_w]
      rfl
     refine pure_ (i := 2) (N := some 42) (v := ?_) (a' := ?_) #[true, true, true, false, false, false, false] rfl rfl (by kernel_rfl) (fun _ _ _ h => h) (Or.inl ⟨by rfl, ?_⟩) ?_ ?_
     rotate_left
     ·intro w'
      go_simp
      with_reducible rfl
     rotate_left
     ·simp only [Act.put, List.setIfInBounds_toArray, List.set_cons_zero, List.set_cons_succ, i64_w, i32_w]
      rfl
     refine take_ (i := 3) (N := some 43) (v := ?_) (a' := ?_) #[true, true, true, true, false, false, false] rfl rfl (by kernel_rfl) (fun _ _ _ h => h) (Or.inl ⟨by rfl, ?_⟩) hHeld ?_ ?_
     rotate_left
     ·rintro w' ⟨s0, s1, s2, s3⟩
      go_simp
      with_reducible rfl
     rotate_left
     ·simp only [Act.put, List.setIfInBounds_toArray, List.set_cons_zero, List.set_cons_succ, i64_w, i32_w]
      rfl
     refine take_ (i := 4) (N := some 44) (v := ?_) (a' := ?_) #[true, true, true, true, true, false, false] rfl rfl (by kernel_rfl) (fun _ _ _ h => h) (Or.inl ⟨by rfl, ?_⟩) hHeld ?_ ?_
     rotate_left
     ·rintro w' ⟨s0, s1, s2, s3⟩
      go_simp
      with_reducible rfl
     rotate_left
     ·simp only [Act.put, List.setIfInBounds_toArray, List.set_cons_zero, List.set_cons_succ, i64_w, i32_w]
      rfl
     refine pure_ (i := 5) (N := some 45) (v := ?_) (a' := ?_) #[true, true, true, true, true, true, false] rfl rfl (by kernel_rfl) (fun _ _ _ h => h) (Or.inl ⟨by rfl, ?_⟩) ?_ ?_
     rotate_left
     ·intro w'
      go_simp
      with_reducible rfl
     rotate_left
     ·simp only [Act.put, List.setIfInBounds_toArray, List.set_cons_zero, List.set_cons_succ, i64_w, i32_w]
      rfl
     refine pure_ (i := 6) (N := some 7) (v := ?_) (a' := ?_) #[true, true, true, true, true, true, true] rfl rfl (by kernel_rfl) (fun _ _ _ h => h) (Or.inl ⟨by rfl, ?_⟩) ?_ ?_
     rotate_left
     ·intro w'
      go_simp
      with_reducible rfl
     rotate_left
     ·simp only [Act.put, List.setIfInBounds_toArray, List.set_cons_zero, List.set_cons_succ, i64_w, i32_w]
      rfl
     refine done_ (by kernel_rfl) ?_
     try go_wp2
     go_loopg [7, 9] kj16 (fun kq v7 v9 w' => ∃ (x7_5 : Bool) (x9_5 : Int), v7 = .bool x7_5 ∧ v9 = .int .i64 x9_5 ∧ Aside0 (spec_l2Draw.l2 kq (wrap64 (3 + t156)) x4_1 x5_1 x7_5 x8_3 x9_5 s0_0 t169 t170 (wrap64 (t165 - 6)) (wrap64 (t168 - 6)) = some (r1, r2, r3)) ∧ Aside0 (kq ≤ kj16) ∧ Aside0 (Kd.R k83 83 w' w.heap.size (fun k_ => k_ ≠ gb171) (.slice (some ad175) x4_1.length co25) x4_1) ∧ Aside0 (w'.heap[gb171]? = some (.cells #[.int .i64 (wrap64 (t165 - 6)), .int .i64 (wrap64 (t168 - 6))] 83 (0, 0))) ∧ Aside0 (IsS110 w0 w' g s0_0 t169 t170) ∧ Aside0 (KeepBut w w' g none) ∧ Aside0 (Below w0.heap.size w0 w'))
     case atStart => exact ⟨((!(((rd_T83 x4_1 x8_3).f0) == (wrap64 (t165 - 6))) || (!(((rd_T83 x4_1 x8_3).f1) == (wrap64 (t168 - 6)))))), (0), zF, zF, H', ⟨Nat.le_refl _⟩, ⟨zR HO_4.out⟩, ⟨zK BK171.out⟩, ⟨(zl18_3 HI0.out NB0_171.out)⟩, ⟨(zl18_4 HK.out GW171.out)⟩, ⟨zG2 (IsS110.ge HI0.out) GE171.out⟩⟩
     case round =>
     clear H'
     try clear c9
     try clear c21
     try clear c22
     try clear c22b0
     try clear c23
     try clear c23b0
     try clear hcz16_0
     try clear hcz16_1
     try clear hfz16_0
     try clear hfz16_1
     try clear hx175_0
     try clear hx175_1
     try clear p175
     try clear q175
     obtain ⟨x7_5, x9_5, rfl, rfl, HA, HK5, HO_4, BK171, HI0, HK, HB⟩ := hrel
     cases gk with
     | zero => exact absurd HA.out (by simp [spec_l2Draw.l2])
     | succ k5 =>
     have H := HA.out
     clear HA
     simp only [spec_l2Draw.l2] at H
     by_cases c26 : x9_5 < x8_3
     ·rw [if_pos c26] at H
      have c26b0 : decide (x9_5 < x8_3) = true := decide_eq_true c26
      clear c26
      by_cases c27 : x7_5 = true
      ·subst c27
       replace H := (if_pos rfl).symm.trans H
       by_cases c28 : 0 ≤ x9_5
       ·rw [if_pos c28] at H
        have c28b0 : decide (0 ≤ x9_5) = true := decide_eq_true c28
        clear c28
        by_cases c29 : x9_5 < (x4_1.length : Int)
        ·rw [if_pos c29] at H
         have c29b0 : decide (x9_5 < (x4_1.length : Int)) = true := decide_eq_true c29
         clear c29
         by_cases c30 : 0 ≤ x8_3
         ·rw [if_pos c30] at H
          have c30b0 : decide (0 ≤ x8_3) = true := decide_eq_true c30
          clear c30
          by_cases c31 : x8_3 < (x4_1.length : Int)
          ·rw [if_pos c31] at H
           have c31b0 : decide (x8_3 < (x4_1.length : Int)) = true := decide_eq_true c31
           clear c31
           obtain ⟨t178, A32, H⟩ := zO H
           have H' := Aside0.mk H; clear H
           try go_wp2
           replace HO_4 := Aside0.mk (Kd.R_drew HO_4.out)
           replace BK171 := Aside0.mk (blk_drew BK171.out)
           replace HI0 := Aside0.mk (IsS110.drew HI0.out)
           replace HK := Aside0.mk (keep_drew HK.out)
           replace HB := Aside0.mk (below_drew1 HB.out)
           have p176 : 0 ≤ (x9_5 : Int) := zA
           have q176 : x9_5 < (x4_1.length : Int) := zA
           obtain ⟨ad176, e176, hx176_0, hx176_1⟩ := at_T83 (Kd.R_reads' HO_4.out).2.2 x9_5 p176 q176
           obtain rfl : ad175 = ad176 := (by injection e176)
           replace p176 := eq_true p176
           replace q176 := eq_true q176
           have p177 : 0 ≤ (x8_3 : Int) := zA
           have q177 : x8_3 < (x4_1.length : Int) := zA
           obtain ⟨ad177, e177, hx177_0, hx177_1⟩ := at_T83 (Kd.R_reads' HO_4.out).2.2 x8_3 p177 q177
           obtain rfl : ad175 = ad177 := (by injection e177)
           replace p177 := eq_true p177
           replace q177 := eq_true q177
           refine start_ (n := 12) (S := fun w' => w'.cell? ⟨gb171, 0, none⟩ = some (.int .i64 (wrap64 (t165 - 6))) ∧ w'.cell? ⟨gb171, 1, none⟩ = some (.int .i64 (wrap64 (t168 - 6))) ∧ w'.cell? (ad175.add ((x9_5).toNat * 2)) = some (.int .i64 ((rd_T83 x4_1 x9_5).f0)) ∧ w'.cell? ⟨(ad175.add ((x9_5).toNat * 2)).block, (ad175.add ((x9_5).toNat * 2)).off + 1, none⟩ = some (.int .i64 ((rd_T83 x4_1 x9_5).f1)) ∧ w'.cell? (ad175.add ((x8_3).toNat * 2)) = some (.int .i64 ((rd_T83 x4_1 x8_3).f0)) ∧ w'.cell? ⟨(ad175.add ((x8_3).toNat * 2)).block, (ad175.add ((x8_3).toNat * 2)).off + 1, none⟩ = some (.int .i64 ((rd_T83 x4_1 x8_3).f1))) (ds := []) #[false, false, false, false, false, false, false, false, false, false, false, false] (by kernel_rfl) rfl rfl ⟨(blk_cell BK171.out 0).trans rfl, (blk_cell BK171.out 1).trans rfl, hx176_0, hx176_1, hx177_0, hx177_1⟩ (fun hHeld => ?_); refine with_tabW spec_l2Draw.tab15 spec_l2Draw.bits15 (fun HT_ HW_ => ?_)
           generalize wr.drew = w33 at HO_4 BK171 HI0 HK HB hx176_0 hx176_1 hx177_0 hx177_1 hHeld ⊢
           refine zP 0 (some 54) rfl rfl ?_
           refine zP 1 (some 55) rfl rfl ?_
           refine zP 2 (some 56) rfl rfl ?_
           refine zP 4 (some 58) rfl rfl ?_
           refine zP 5 (some 59) rfl rfl ?_
           refine zP 6 (some 60) rfl rfl ?_
           refine zY6 3 (some 57) rfl rfl hHeld ?_
           refine zY6 7 (some 61) rfl rfl hHeld ?_
           refine zY6 8 (some 62) rfl rfl hHeld ?_
           refine zU 9 (some 63) rfl rfl (fun K hK => ?_)
           refine goes_ Try.func103 (by kernel_rfl) rfl #[.agg #[.int .i64 ((rd_T83 x4_1 x9_5).f0), .int .i64 ((rd_T83 x4_1 x9_5).f1)], .agg #[.int .i64 ((rd_T83 x4_1 x8_3).f0), .int .i64 ((rd_T83 x4_1 x8_3).f1)], .agg #[.int .i64 (wrap64 (t165 - 6)), .int .i64 (wrap64 (t168 - 6))]] (by rfl) rfl rfl zM ?_
           with_reducible refine (spec_l2Area.calls ((rd_T83 x4_1 x9_5).f0) ((rd_T83 x4_1 x9_5).f1) ((rd_T83 x4_1 x8_3).f0) ((rd_T83 x4_1 x8_3).f1) (wrap64 (t165 - 6)) (wrap64 (t168 - 6)) t178 _ A32.out).mono ?_
           rintro e w34 ⟨rfl, hb⟩
           have HS2_ := (hb.cell (World.block_lt_of_cell? _ _ (hHeld.2.2.1))).trans (hHeld.2.2.1)
           have HS3_ := (hb.cell (World.block_lt_of_cell? _ _ (hHeld.2.2.2.1))).trans (hHeld.2.2.2.1)
           have HS4_ := (hb.cell (World.block_lt_of_cell? _ _ (hHeld.2.2.2.2.1))).trans (hHeld.2.2.2.2.1)
           have HS5_ := (hb.cell (World.block_lt_of_cell? _ _ (hHeld.2.2.2.2.2))).trans (hHeld.2.2.2.2.2)
           refine ⟨_, rfl, ?_⟩
           have n0_ := zW HO_4.out hb
           have n1_ := zV BK171.out hb
           have n2_ := Aside0.mk (IsS110.below (zl18_3 HI0.out NB0_171.out) hb)
           have n3_ := Aside0.mk (KeepBut.trans (zl18_4 HK.out GW171.out) (KeepBut.of_below hb g none) (.inl rfl))
           have n4_ := Aside0.mk (below_step (zG2 (IsS110.ge HI0.out) GE171.out) hb)
           clear HO_4
           clear BK171
           clear HI0
           clear HK
           clear HB
           have HO_4 := n0_
           have BK171 := n1_
           have HI0 := n2_
           have HK := n3_
           have HB := n4_
           clear n0_ n1_ n2_ n3_ n4_
           (try clear hb)
           refine hK.out _ _ ⟨(blk_cell BK171.out 0).trans rfl, (blk_cell BK171.out 1).trans rfl, HS2_, HS3_, HS4_, HS5_⟩ (fun hHeld => ?_)
           clear hK K
           refine zN ?_
           refine zP 10 (some 64) rfl rfl ?_
           refine zP 11 (some 7) rfl rfl ?_
           refine done_ (done_of HT_.out (by kernel_rfl)) ?_
           try go_wp2
           go_roundg k5
           case measure => have := HK1.out; have := HJ5.out; have := HK3.out; have := HJ16.out; have := HK5.out; omega
           case rel => exact ⟨((t178 != 0)), (wrap64 (x9_5 + 1)), zF, zF, H', ⟨by have := HK1.out; have := HJ5.out; have := HK3.out; have := HJ16.out; have := HK5.out; omega⟩, ⟨zR HO_4.out⟩, ⟨zK BK171.out⟩, ⟨(zl18_3 HI0.out NB0_171.out)⟩, ⟨(zl18_4 HK.out GW171.out)⟩, ⟨zG2 (IsS110.ge HI0.out) GE171.out⟩⟩
          rw [if_neg c31] at H
          exact absurd H (by simp)
         rw [if_neg c30] at H
         exact absurd H (by simp)
        rw [if_neg c29] at H
        exact absurd H (by simp)
       rw [if_neg c28] at H
       exact absurd H (by simp)
      replace c27 := Bool.eq_false_iff.mpr c27
      subst c27
      replace H := (if_neg zFf).symm.trans H
      have H' := Aside0.mk H; clear H
      go_wp2
      go_roundg k5
      case measure => have := HK1.out; have := HJ5.out; have := HK3.out; have := HJ16.out; have := HK5.out; omega
      case rel => exact ⟨(false), (wrap64 (x8_3 + 1)), zF, zF, H', ⟨by have := HK1.out; have := HJ5.out; have := HK3.out; have := HJ16.out; have := HK5.out; omega⟩, ⟨zR HO_4.out⟩, ⟨zK BK171.out⟩, ⟨(zl18_3 HI0.out NB0_171.out)⟩, ⟨(zl18_4 HK.out GW171.out)⟩, ⟨zG2 (IsS110.ge HI0.out) GE171.out⟩⟩
     rw [if_neg c26] at H
     have c26b0 : decide (x9_5 < x8_3) = false := decide_eq_false c26
     clear c26
     have H' := Aside0.mk H; clear H
     go_wp2
     go_roundg k5
     case measure => have := HK1.out; have := HJ5.out; have := HK3.out; have := HJ16.out; have := HK5.out; omega
     case rel => exact ⟨(x7_5), (wrap64 (x8_3 + 1)), zF, zF, H', ⟨by have := HK1.out; have := HJ5.out; have := HK3.out; have := HJ16.out; have := HK5.out; omega⟩, ⟨zR HO_4.out⟩, ⟨zK BK171.out⟩, ⟨(zl18_3 HI0.out NB0_171.out)⟩, ⟨(zl18_4 HK.out GW171.out)⟩, ⟨zG2 (IsS110.ge HI0.out) GE171.out⟩⟩
    rw [if_neg c23] at H
    exact absurd H (by simp)
   rw [if_neg c22] at H
   exact absurd H (by simp)
  replace c21 := Bool.eq_false_iff.mpr c21
  subst c21
  replace H := (if_neg zFf).symm.trans H
  by_cases c35 : x7_3 = true
  ·subst c35
   replace H := (if_pos rfl).symm.trans H
   by_cases c36 : x4_1.length < 8796093022208
   ·rw [if_pos c36] at H
    have LMc36 := Aside0.mk c36
    clear c36
    obtain ⟨y172, hy172⟩ : ∃ y_ : List (S83), y_ = (x4_1 ++ [(⟨(wrap64 (t165 - 6)), (wrap64 (t168 - 6))⟩ : S83)]) := ⟨_, rfl⟩
    replace H : (spec_l2Draw.l0 kj16 (wrap64 (3 + t156)) y172 (wrap64 (x5_1 + 1)) s0_0 t169 t170) = some (r1, r2, r3) := by first | (rw [hy172]; with_reducible exact H) | (have H2_ := (Option.bind_some _ _).symm.trans H; rw [hy172]; with_reducible exact H2_) | (have H2_ := (Option.bind_some _ _).symm.trans H; with_reducible exact H2_) | with_reducible exact H | (rw [hy172]; exact H) | exact H
    have Ny172 := Aside0.mk hy172
    clear hy172
    have H' := Aside0.mk H; clear H
    have hnb37 := NB171_0.out
    have hnc37 := NB0_171.out
    obtain ⟨hcz38_0, hcz38_1, hfz38_0, hfz38_1⟩ := zq2 BK171.out
    go_wp2_with (first | ((with_reducible refine gate_builtin (b := .append) (xs := #[.tmp 66, .tmp 68]) rfl ?_); (try (refine gate_guard (by rfl) ?_; dsimp only)); at_builtin; refine Kd.R_append k83 w.heap.size rfl (.tmp 66) (.tmp 68) 38 83 (.agg #[(.int .i64 0), (.int .i64 0)]) 16 rfl Try.underlying38 info83 rfl (by decide) (by omega) u4 x4_1 (⟨(wrap64 (t165 - 6)), (wrap64 (t168 - 6))⟩ : S83) [.int .i64 (wrap64 (t165 - 6)), .int .i64 (wrap64 (t168 - 6))] (fun k_ => k_ ≠ gb171) (fun _ => False) rfl rfl ?aP (fun _ hk => hk.elim) ?aF ?aO (Below.refl _ _) ?aS ?aL ?_; (case aP => exact k83_mkM _ _ _ (⟨(wrap64 (t165 - 6)), (wrap64 (t168 - 6))⟩ : S83)); (case aF => exact (fun k_ hk => Kd.freshB (g := gb171) (o := .cells #[.int .i64 (wrap64 (t165 - 6)), .int .i64 (wrap64 (t168 - 6))] 83 (0, 0)) (zK BK171.out) k_ hk)); (case aO => exact (zR HO_4.out)); (case aS => exact (keep_size (w := w) (g := g) (row := none) (zl18_4 HK.out GW171.out))); (case aL => have := LMc36.out; omega); intro v173 w39 ho hb hg hat; rw [← Ny172.out] at ho; have n0_ := Aside0.mk (blk_grown (g := gb171) (o := .cells #[.int .i64 (wrap64 (t165 - 6)), .int .i64 (wrap64 (t168 - 6))] 83 (0, 0)) (zK BK171.out) hg (Kd.R_away HO_4.out (fun _ hk => hk))); have n1_ := Aside0.mk (IsS110.grown (zl18_3 HI0.out NB0_171.out) hg (IsS110.own_ne HI0.out HO_4.out (by decide))); have n2_ := Aside0.mk (below_weaken (zG2 (IsS110.ge HI0.out) GE171.out) HL.out hb); have n3_ := Aside0.mk (KeepBut.trans (zl18_4 HK.out GW171.out) (KeepBut.of_grown hg g) (Kd.R_base2 HO_4.out)); have n4_ := Aside0.mk (ho); clear BK171; clear HI0; clear HB; clear HK; clear HO_4; have BK171 := n0_; have HI0 := n1_; have HB := n2_; have HK := n3_; have HO174 := n4_; clear n0_ n1_ n2_ n3_ n4_; clear ho hb hg hat))
    go_roundg kj16
    case measure => have := HK1.out; have := HJ5.out; have := HK3.out; have := HJ16.out; omega
    case rel => exact ⟨(y172), (wrap64 (x5_1 + 1)), (t169), (t170), zF, H', ⟨by have := HK1.out; have := HJ5.out; have := HK3.out; have := HJ16.out; omega⟩, ⟨by (with_reducible repeat (first | apply Kd.R_alloc | apply Kd.R_drewN | apply Kd.R_drew)); exact Kd.R_mono HO174.out (fun _ hk => trivial)⟩, ⟨(zl18_3 HI0.out NB0_171.out)⟩, ⟨(zl18_4 HK.out GW171.out)⟩, ⟨zG2 (IsS110.ge HI0.out) GE171.out⟩⟩
   rw [if_neg c36] at H
   exact absurd H (by simp)
  replace c35 := Bool.eq_false_iff.mpr c35
  subst c35
  replace H := (if_neg zFf).symm.trans H
  have H' := Aside0.mk H; clear H
  go_wp2
  go_roundg kj16
  case measure => have := HK1.out; have := HJ5.out; have := HK3.out; have := HJ16.out; omega
  case rel => exact ⟨(x4_1), (wrap64 (x5_1 + 1)), (t169), (t170), zF, H', ⟨by have := HK1.out; have := HJ5.out; have := HK3.out; have := HJ16.out; omega⟩, ⟨by (with_reducible repeat (first | apply Kd.R_alloc | apply Kd.R_drewN | apply Kd.R_drew)); exact Kd.R_mono HO_4.out (fun _ hk => trivial)⟩, ⟨(zl18_3 HI0.out NB0_171.out)⟩, ⟨(zl18_4 HK.out GW171.out)⟩, ⟨zG2 (IsS110.ge HI0.out) GE171.out⟩⟩
 replace c9 := Bool.eq_false_iff.mpr c9
 subst c9
 replace H := (if_neg zFf).symm.trans H
 by_cases c40 : (x4_1.length : Int) < 3
 ·rw [if_pos c40] at H
  have c40b0 : decide ((x4_1.length : Int) < 3) = true := decide_eq_true c40
  have c40b1 : decide (x4_1.length < 3) = true := decide_eq_true (by omega)
  clear c40
  obtain ⟨y162, hy162⟩ : ∃ y_ : List (S83), y_ = (([(⟨0, 0⟩ : S83), (⟨4, 1⟩ : S83), (⟨1, 3⟩ : S83), (⟨2, 2⟩ : S83)] : List (S83))) := ⟨_, rfl⟩
  replace H : (some (y162, x1001_1, x1002_1)) = some (r1, r2, r3) := by first | (rw [hy162]; with_reducible exact H) | (have H2_ := (Option.bind_some _ _).symm.trans H; rw [hy162]; with_reducible exact H2_) | (have H2_ := (Option.bind_some _ _).symm.trans H; with_reducible exact H2_) | with_reducible exact H | (rw [hy162]; exact H) | exact H
  have Ny162 := Aside0.mk hy162
  clear hy162
  simp only [Option.some.injEq, Prod.mk.injEq] at H
  obtain ⟨rfl, rfl, rfl⟩ := H
  obtain ⟨Ao41, co41, eo41⟩ := Kd.R_slice HO_4.out
  subst eo41
  go_wp2_with (first | ((with_reducible refine gate_dst (N := 77) rfl ?_); (try (refine gate_guard (by rfl) ?_; dsimp only)); refine Kd.R_lit k83 _ 83 ?hg (N := 77) ?hd (xs := ([(⟨0, 0⟩ : S83), (⟨4, 1⟩ : S83), (⟨1, 3⟩ : S83), (⟨2, 2⟩ : S83)] : List (S83))) (inner := [.int .i64 0, .int .i64 0, .int .i64 4, .int .i64 1, .int .i64 1, .int .i64 3, .int .i64 2, .int .i64 2]) (ok := fun _ => True) (okp := fun _ => True) ?hr ?hp (fun _ hk => hk) trivial (Below.refl _ _) (Nat.le_refl _) (by simp) ?_; (case hd => rfl); (case hg => rfl); (case hr => first | (go_simp; done) | (go_simp; rfl)); (case hp => exact (Reps.c2 (show Kd.M k83 _ _ _ (⟨0, 0⟩ : S83) [.int .i64 0, .int .i64 0] from (k83_mkM _ _ _ (⟨0, 0⟩ : S83) )) (Reps.c2 (show Kd.M k83 _ _ _ (⟨4, 1⟩ : S83) [.int .i64 4, .int .i64 1] from (k83_mkM _ _ _ (⟨4, 1⟩ : S83) )) (Reps.c2 (show Kd.M k83 _ _ _ (⟨1, 3⟩ : S83) [.int .i64 1, .int .i64 3] from (k83_mkM _ _ _ (⟨1, 3⟩ : S83) )) (Reps.c2 (show Kd.M k83 _ _ _ (⟨2, 2⟩ : S83) [.int .i64 2, .int .i64 2] from (k83_mkM _ _ _ (⟨2, 2⟩ : S83) )) (Reps.none _ _)))))); intro v163 w42 ho43 hb hg_ hnew_; clear hg_ hnew_; (first | rw [← Ny162.out] at ho43 | (simp only [Int.reduceToNat] at ho43; rw [← Ny162.out] at ho43)); have n0_ := Aside0.mk (Kd.R_elder' (zR HO_4.out) (Kd.R_base ho43) hb); have n1_ := Aside0.mk (Kd.R_lower (Kd.R_new' ho43 (Kd.R_lt (zR HO_4.out))) (keep_size (w := w) (g := g) (row := none) (zl18_2 HK.out))); have n2_ := Aside0.mk (IsS110.below (zl18_0 HI0.out) hb); have n3_ := Aside0.mk (KeepBut.trans (zl18_2 HK.out) (KeepBut.of_below hb g none) (.inl rfl)); have n4_ := Aside0.mk (below_step (zG (IsS110.ge HI0.out)) hb); clear HO_4; clear HI0; clear HK; clear HB; have HO_4 := n0_; have HO164 := n1_; have HI0 := n2_; have HK := n3_; have HB := n4_; clear n0_ n1_ n2_ n3_ n4_; clear hb ho43))
  go_ret
  exact ⟨_, zE, by (with_reducible repeat (first | apply Kd.R_alloc | apply Kd.R_drewN | apply Kd.R_drew)); exact Kd.R_mono HO164.out (fun _ hk => trivial), (zl18_0 HI0.out), zG (IsS110.ge HI0.out), (zl18_2 HK.out)⟩
 rw [if_neg c40] at H
 have c40b0 : decide ((x4_1.length : Int) < 3) = false := decide_eq_false c40
 have c40b1 : decide (x4_1.length < 3) = false := decide_eq_false (by omega)
 clear c40
 simp only [Option.some.injEq, Prod.mk.injEq] at H
 obtain ⟨rfl, rfl, rfl⟩ := H
 obtain ⟨Ao44, co44, eo44⟩ := Kd.R_slice HO_4.out
 subst eo44
 go_wp2
 go_ret
 exact ⟨_, zE, zR HO_4.out, (zl18_0 HI0.out), zG (IsS110.ge HI0.out), (zl18_2 HK.out)⟩
end Go.Proofs.Ytckkfjdkaimmhaa.PX
namespace Go.Proofs.Ytckkfjdkaimmhaa.PX
open Go.RowKit Go.Proofs.Ytckkfjdkaimmhaa.G Go.Proofs.YtckkfjdkaimmhaaW.PrintWords Go.Proofs.YtckkfjdkaimmhaaW.PrintLast Go.Proofs.YtckkfjdkaimmhaaW.PrintMore
attribute [local go_sem] max2_int min2_int max_two min_two max_three min_three max_four min_four   -- for this text's walks alone
set_option linter.unusedVariables false
set_option linter.unusedSimpArgs false
/-! ### spec_l1PickInt: function 126 -/
def spec_l1PickInt.f (s0_0 : List Int) (s0_1 : Int) (s0_2 : Int) (l1 : List Int) : Option (Int × Int × Int) := (spec_l1Below.f s0_0 s0_1 s0_2 (l1.length : Int)).bind fun bt131 => (if 0 ≤ bt131.1 then (if bt131.1 < (l1.length : Int) then (some (rd l1 bt131.1, bt131.2.1, bt131.2.2)) else (none)) else (none))
theorem zl13_0 {p q : Prop} (g : p) (h : p → q := by intro zg_; repeat (first | (with_reducible first | exact zg_ | apply IsS110.alloc | apply IsS110.drewN | apply IsS110.drew | apply IsS110.set_1 | apply IsS110.set_2) | exact zg_)) : q := h g
theorem zl13_1 {p q p0 : Prop} (g : p) (g0 : p0) (h : p → p0 → q := by intro zg_ z0_; repeat (first | (with_reducible first | exact zg_ | apply below_alloc | apply pw_below_drewN | apply below_drew1 | refine below_set ?_ z0_) | exact zg_)) : q := h g g0
theorem zl13_2 {p q : Prop} (g : p) (h : p → q := by intro zg_; repeat (first | (with_reducible first | exact zg_ | apply KeepBut.set_ | apply keep_drewN | apply keep_drew | apply keep_alloc) | exact zg_)) : q := h g
set_option maxHeartbeats 8000000 in
set_option maxRecDepth 100000 in
theorem spec_l1PickInt.calls (g : Nat) (s0_0 : List Int) (s0_1 : Int) (s0_2 : Int) (A1 : Option Addr) (c1 : Nat) (l1 : List Int) (r1 : Int) (r2 : Int) (r3 : Int) (w0 w : World) (hI : IsS110 w0 w g s0_0 s0_1 s0_2) (hB : Below w0.heap.size w0 w) (hr1 : Kd.C (Kd.int .i64) w A1 l1.length l1) (hc1 : l1.length ≤ c1) (hf1 : ∀ ad, A1 = some ad → 0 < l1.length → ad.block ≠ g) (h : spec_l1PickInt.f s0_0 s0_1 s0_2 l1 = some (r1, r2, r3)) :
  Calls Try.prog 126 #[.pointer (some ⟨g, 0, none⟩), .slice A1 l1.length c1] w fun e w' => e = .returned (.int .i64 r1) ∧ IsS110 w0 w' g s0_0 r2 r3 ∧ Below w0.heap.size w0 w' ∧ KeepBut w w' g none := by
 have HR1 := Aside0.mk hr1
 have HC1 := Aside0.mk hc1
 clear hr1 hc1
 have HI0 := Aside0.mk hI
 have HK := Aside0.mk (KeepBut.refl w g none)
 have HL := Aside0.mk hB.size
 clear hI
 have HW0 := Aside0.mk hB.size
 have HB := Aside0.mk hB
 clear hB
 have H : ((spec_l1Below.f s0_0 s0_1 s0_2 (l1.length : Int)).bind fun bt131 => (if 0 ≤ bt131.1 then (if bt131.1 < (l1.length : Int) then (some (rd l1 bt131.1, bt131.2.1, bt131.2.2)) else (none)) else (none))) = some (r1, r2, r3) := h
 clear h
 obtain ⟨⟨t131, t132, t133⟩, A3, H⟩ := zO H
 dsimp only at H
 by_cases c4 : 0 ≤ t131
 ·rw [if_pos c4] at H
  have c4b0 : decide (0 ≤ t131) = true := decide_eq_true c4
  clear c4
  by_cases c5 : t131 < (l1.length : Int)
  ·rw [if_pos c5] at H
   have c5b0 : decide (t131 < (l1.length : Int)) = true := decide_eq_true c5
   clear c5
   simp only [Option.some.injEq, Prod.mk.injEq] at H
   obtain ⟨rfl, rfl, rfl⟩ := H
   go_enter Try.func126, Try.ntmps126
   go_wp2_with (first | ((with_reducible refine gate_callee (f := 125) rfl ?_); refine zD (some 9) Try.func125 #[.pointer (some ⟨g, 0, none⟩), .int .i64 (l1.length : Int)] ?_; (with_reducible refine (spec_l1Below.calls g s0_0 s0_1 s0_2 (l1.length : Int) t131 t132 t133 w0 _ ?side1 ?side2 A3.out).mono ?_); (case side1 => exact (zl13_0 HI0.out)); (case side2 => exact (zl13_1 HB.out (IsS110.ge HI0.out))); rintro e w6 ⟨rfl, hi, hb, hk⟩; refine ⟨_, rfl, ?_⟩; replace HK := Aside0.mk (KeepBut.trans (zl13_2 HK.out) hk (.inl rfl)); replace HI0 := Aside0.mk (hi); replace HB := Aside0.mk (hb); (try clear hb); (try clear hk); (try clear hi); have p134 : 0 ≤ (t131 : Int) := zA; have q134 : t131 < (l1.length : Int) := zA; obtain ⟨ad134, e134, hx134_0⟩ := Kd.at_int HR1.out t131 p134 q134; cases e134; replace hx134_0 := keep_cell HK.out hx134_0 (by first | (rw [add_block]; exact hf1 _ rfl (by omega)) | exact hf1 _ rfl (by omega) | exact hf1 ad134 rfl (by omega)); replace p134 := eq_true p134; replace q134 := eq_true q134))
   go_ret
   exact ⟨zE, (zl13_0 HI0.out), zG (IsS110.ge HI0.out), (zl13_2 HK.out)⟩
  rw [if_neg c5] at H
  exact absurd H (by simp)
 rw [if_neg c4] at H
 exact absurd H (by simp)
/-! ### spec_l1Pick: function 155 -/
def spec_l1Pick.f (s0_0 : List Int) (s0_1 : Int) (s0_2 : Int) (l1 : List ByteArray) : Option (ByteArray × Int × Int) := (spec_l1Below.f s0_0 s0_1 s0_2 (l1.length : Int)).bind fun bt179 => (if 0 ≤ bt179.1 then (if bt179.1 < (l1.length : Int) then (some (rdOf ByteArray.empty l1 bt179.1, bt179.2.1, bt179.2.2)) else (none)) else (none))
theorem zl19_0 {p q : Prop} (g : p) (h : p → q := by intro zg_; repeat (first | (with_reducible first | exact zg_ | apply IsS110.alloc | apply IsS110.drewN | apply IsS110.drew | apply IsS110.set_1 | apply IsS110.set_2) | exact zg_)) : q := h g
theorem zl19_1 {p q p0 : Prop} (g : p) (g0 : p0) (h : p → p0 → q := by intro zg_ z0_; repeat (first | (with_reducible first | exact zg_ | apply below_alloc | apply pw_below_drewN | apply below_drew1 | refine below_set ?_ z0_) | exact zg_)) : q := h g g0
theorem zl19_2 {p q : Prop} (g : p) (h : p → q := by intro zg_; repeat (first | (with_reducible first | exact zg_ | apply KeepBut.set_ | apply keep_drewN | apply keep_drew | apply keep_alloc) | exact zg_)) : q := h g
set_option maxHeartbeats 8000000 in
set_option maxRecDepth 100000 in
theorem spec_l1Pick.calls (g : Nat) (s0_0 : List Int) (s0_1 : Int) (s0_2 : Int) (A1 : Option Addr) (c1 : Nat) (l1 : List ByteArray) (r1 : ByteArray) (r2 : Int) (r3 : Int) (w0 w : World) (hI : IsS110 w0 w g s0_0 s0_1 s0_2) (hB : Below w0.heap.size w0 w) (hr1 : Kd.C Kd.string w A1 l1.length l1) (hc1 : l1.length ≤ c1) (hf1 : ∀ ad, A1 = some ad → 0 < l1.length → ad.block ≠ g) (h : spec_l1Pick.f s0_0 s0_1 s0_2 l1 = some (r1, r2, r3)) :
  Calls Try.prog 155 #[.pointer (some ⟨g, 0, none⟩), .slice A1 l1.length c1] w fun e w' => e = .returned (.string r1) ∧ IsS110 w0 w' g s0_0 r2 r3 ∧ Below w0.heap.size w0 w' ∧ KeepBut w w' g none := by
 have HR1 := Aside0.mk hr1
 have HC1 := Aside0.mk hc1
 clear hr1 hc1
 have HI0 := Aside0.mk hI
 have HK := Aside0.mk (KeepBut.refl w g none)
 have HL := Aside0.mk hB.size
 clear hI
 have HW0 := Aside0.mk hB.size
 have HB := Aside0.mk hB
 clear hB
 have H : ((spec_l1Below.f s0_0 s0_1 s0_2 (l1.length : Int)).bind fun bt179 => (if 0 ≤ bt179.1 then (if bt179.1 < (l1.length : Int) then (some (rdOf ByteArray.empty l1 bt179.1, bt179.2.1, bt179.2.2)) else (none)) else (none))) = some (r1, r2, r3) := h
 clear h
 obtain ⟨⟨t179, t180, t181⟩, A3, H⟩ := zO H
 dsimp only at H
 by_cases c4 : 0 ≤ t179
 ·rw [if_pos c4] at H
  have c4b0 : decide (0 ≤ t179) = true := decide_eq_true c4
  clear c4
  by_cases c5 : t179 < (l1.length : Int)
  ·rw [if_pos c5] at H
   have c5b0 : decide (t179 < (l1.length : Int)) = true := decide_eq_true c5
   clear c5
   simp only [Option.some.injEq, Prod.mk.injEq] at H
   obtain ⟨rfl, rfl, rfl⟩ := H
   go_enter Try.func155, Try.ntmps155
   go_wp2_with (first | ((with_reducible refine gate_callee (f := 125) rfl ?_); refine zD (some 9) Try.func125 #[.pointer (some ⟨g, 0, none⟩), .int .i64 (l1.length : Int)] ?_; (with_reducible refine (spec_l1Below.calls g s0_0 s0_1 s0_2 (l1.length : Int) t179 t180 t181 w0 _ ?side1 ?side2 A3.out).mono ?_); (case side1 => exact (zl19_0 HI0.out)); (case side2 => exact (zl19_1 HB.out (IsS110.ge HI0.out))); rintro e w6 ⟨rfl, hi, hb, hk⟩; refine ⟨_, rfl, ?_⟩; replace HK := Aside0.mk (KeepBut.trans (zl19_2 HK.out) hk (.inl rfl)); replace HI0 := Aside0.mk (hi); replace HB := Aside0.mk (hb); (try clear hb); (try clear hk); (try clear hi); have p182 : 0 ≤ (t179 : Int) := zA; have q182 : t179 < (l1.length : Int) := zA; obtain ⟨ad182, e182, hx182_0⟩ := Kd.at_string HR1.out t179 p182 q182; cases e182; replace hx182_0 := keep_cell HK.out hx182_0 (by first | (rw [add_block]; exact hf1 _ rfl (by omega)) | exact hf1 _ rfl (by omega) | exact hf1 ad182 rfl (by omega)); replace p182 := eq_true p182; replace q182 := eq_true q182))
   go_ret
   exact ⟨zE, (zl19_0 HI0.out), zG (IsS110.ge HI0.out), (zl19_2 HK.out)⟩
  rw [if_neg c5] at H
  exact absurd H (by simp)
 rw [if_neg c4] at H
 exact absurd H (by simp)
/-! ### spec_l3Draw: function 154 -/
def spec_l3Draw.l0 : Nat → Int → Int → List Int → Int → Int → Int → ByteArray → Option (Int × ByteArray × Int × Int)
 | 0, _, _, _, _, _, _, _ => none
 | k + 1, x3, x5, x1000, x1001, x1002, x191000, x191001 => if x5 < (wrap64 (Int.tdiv (wrap64 ((wrap64 (x3 * (wrap64 (x3 - 1)))) * (wrap64 (x3 - 2)))) 6)) then ((spec_l1Pick.f x1000 x1001 x1002 (([(⟨#[43]⟩ : ByteArray), (⟨#[45]⟩ : ByteArray), (⟨#[43]⟩ : ByteArray)] : List ByteArray))).bind fun bt194 => (if x191001.size + bt194.1.size ≤ 9223372036854775807 then (spec_l3Draw.l0 k x3 (wrap64 (x5 + 1)) x1000 bt194.2.1 bt194.2.2 x191000 (x191001 ++ bt194.1)) else (none))) else (some (x191000, x191001, x1001, x1002))
def spec_l3Draw.f (k : Nat) (s0_0 : List Int) (s0_1 : Int) (s0_2 : Int) : Option (Int × ByteArray × Int × Int) := (spec_l1Once.f s0_0 s0_1 s0_2 5).bind fun bt184 => (if bt184.1 = true then ((spec_l1Below.f s0_0 bt184.2.1 bt184.2.2 3).bind fun bt187 => (spec_l3Draw.l0 k (wrap64 (3 + bt187.1)) 0 s0_0 bt187.2.1 bt187.2.2 (wrap64 (3 + bt187.1)) (⟨#[]⟩ : ByteArray))) else ((spec_l2Draw.f k s0_0 bt184.2.1 bt184.2.2).bind fun bt197 => ((spec_SignsOf.f k bt197.1).bind fun bt202 => (some (bt202.1, bt202.2.1, bt197.2.1, bt197.2.2)))))
def spec_l3Draw.T7 : Bool × List (List Nat × List Nat) := (true, [([], []), ([0], [0]), ([], []), ([], []), ([2, 3], [2, 3]), ([1, 4], [1, 4]), ([0, 1, 2, 3, 4, 5], []), ([6, 5, 4, 0, 1, 2, 3, 4, 5], [5, 6])])
def spec_l3Draw.B7 : List Nat := [0, 1, 0, 0, 12, 31, 63, 127]
theorem spec_l3Draw.tab7 : rtab .any (opsOf Try.f154 7) = spec_l3Draw.T7 := by kernel_rfl
theorem spec_l3Draw.bits7 : waitsOk spec_l3Draw.T7.2 spec_l3Draw.B7 = true := by kernel_rfl
theorem zl20_0 {p q : Prop} (g : p) (h : p → q := by intro zg_; repeat (first | (with_reducible first | exact zg_ | apply IsS110.alloc | apply IsS110.drewN | apply IsS110.drew | apply IsS110.set_1 | apply IsS110.set_2) | exact zg_)) : q := h g
theorem zl20_1 {p q : Prop} (g : p) (h : p → q := by intro zg_; repeat (first | (with_reducible first | exact zg_ | apply KeepBut.set_ | apply keep_drewN | apply keep_drew | apply keep_alloc) | exact zg_)) : q := h g
theorem zl20_2 {p q p0 : Prop} (g : p) (g0 : p0) (h : p → p0 → q := by intro zg_ z0_; repeat (first | (with_reducible first | exact zg_ | apply IsS110.alloc | apply IsS110.drewN | apply IsS110.drew | apply IsS110.set_1 | apply IsS110.set_2 | refine IsS110.far ?_ z0_ _) | exact zg_)) : q := h g g0
theorem zl20_3 {p q p0 p1 : Prop} (g : p) (g0 : p0) (g1 : p1) (h : p → p0 → p1 → q := by intro zg_ z0_ z1_; repeat (first | (with_reducible first | exact zg_ | apply below_alloc | apply pw_below_drewN | apply below_drew1 | refine below_set ?_ z0_ | refine below_set ?_ z1_) | exact zg_)) : q := h g g0 g1
theorem zl20_4 {p q p0 : Prop} (g : p) (g0 : p0) (h : p → p0 → q := by intro zg_ z0_; repeat (first | (with_reducible first | exact zg_ | apply KeepBut.set_ | apply keep_drewN | apply keep_drew | apply keep_alloc | refine keep_far ?_ z0_ _) | exact zg_)) : q := h g g0
theorem zl20_5 {p q p0 p1 : Prop} (g : p) (g0 : p0) (g1 : p1) (h : p → p0 → p1 → q := by intro zg_ z0_ z1_; repeat (first | (with_reducible first | exact zg_ | apply IsS110.alloc | apply IsS110.drewN | apply IsS110.drew | apply IsS110.set_1 | apply IsS110.set_2 | refine IsS110.far ?_ z0_ _ | refine IsS110.far ?_ z1_ _) | exact zg_)) : q := h g g0 g1
theorem zl20_6 {p q p0 p1 : Prop} (g : p) (g0 : p0) (g1 : p1) (h : p → p0 → p1 → q := by intro zg_ z0_ z1_; repeat (first | (with_reducible first | exact zg_ | apply KeepBut.set_ | apply keep_drewN | apply keep_drew | apply keep_alloc | refine keep_far ?_ z0_ _ | refine keep_far ?_ z1_ _) | exact zg_)) : q := h g g0 g1
theorem zl20_7 {p q p0 p1 p2 : Prop} (g : p) (g0 : p0) (g1 : p1) (g2 : p2) (h : p → p0 → p1 → p2 → q := by intro zg_ z0_ z1_ z2_; repeat (first | (with_reducible first | exact zg_ | apply below_alloc | apply pw_below_drewN | apply below_drew1 | refine below_set ?_ z0_ | refine below_set ?_ z1_ | refine below_set ?_ z2_) | exact zg_)) : q := h g g0 g1 g2
set_option maxHeartbeats 8000000 in
set_option maxRecDepth 100000 in
theorem spec_l3Draw.calls (k : Nat) (g : Nat) (s0_0 : List Int) (s0_1 : Int) (s0_2 : Int) (r1 : Int) (r2 : ByteArray) (r3 : Int) (r4 : Int) (w0 w : World) (hI : IsS110 w0 w g s0_0 s0_1 s0_2) (hB : Below w0.heap.size w0 w) (h : spec_l3Draw.f k s0_0 s0_1 s0_2 = some (r1, r2, r3, r4)) :
  Calls Try.prog 154 #[.pointer (some ⟨g, 0, none⟩)] w fun e w' => e = .returned (.agg #[.int .i64 r1, .string r2]) ∧ IsS110 w0 w' g s0_0 r3 r4 ∧ Below w0.heap.size w0 w' ∧ KeepBut w w' g none := by
 have hu25 := Try.underlying25
 have HI0 := Aside0.mk hI
 have HK := Aside0.mk (KeepBut.refl w g none)
 have HL := Aside0.mk hB.size
 clear hI
 have HW0 := Aside0.mk hB.size
 have HB := Aside0.mk hB
 clear hB
 have H : ((spec_l1Once.f s0_0 s0_1 s0_2 5).bind fun bt184 => (if bt184.1 = true then ((spec_l1Below.f s0_0 bt184.2.1 bt184.2.2 3).bind fun bt187 => (spec_l3Draw.l0 k (wrap64 (3 + bt187.1)) 0 s0_0 bt187.2.1 bt187.2.2 (wrap64 (3 + bt187.1)) (⟨#[]⟩ : ByteArray))) else ((spec_l2Draw.f k s0_0 bt184.2.1 bt184.2.2).bind fun bt197 => ((spec_SignsOf.f k bt197.1).bind fun bt202 => (some (bt202.1, bt202.2.1, bt197.2.1, bt197.2.2)))))) = some (r1, r2, r3, r4) := h
 clear h
 obtain ⟨⟨t184, t185, t186⟩, A2, H⟩ := zO H
 dsimp only at H
 by_cases c3 : t184 = true
 ·subst c3
  replace H := (if_pos rfl).symm.trans H
  obtain ⟨⟨t187, t188, t189⟩, A4, H⟩ := zO H
  dsimp only at H
  have H' := Aside0.mk H; clear H
  go_enter Try.func154, Try.ntmps154
  go_wp2_with (first | ((with_reducible refine gate_dst (N := 2) rfl ?_); refine zBx (N := 2) #[.int .i64 0, .string (⟨#[]⟩ : ByteArray)] 25 ?_; intro gb183 hg w5 hbox hb; have n0_ := Aside0.mk (IsS110.below (zl20_0 HI0.out) hb); have n1_ := Aside0.mk (KeepBut.trans (zl20_1 HK.out) (KeepBut.of_below hb g none) (.inl rfl)); have n2_ := Aside0.mk (below_step (zG (IsS110.ge HI0.out)) hb); have n3_ := Aside0.mk (hbox); have n4_ := Aside0.mk ((by rw [hg]; exact (keep_size (w := w) (g := g) (row := none) (zl20_1 HK.out)) : w.heap.size ≤ gb183)); have n5_ := Aside0.mk ((Nat.le_trans HW0.out (by rw [hg]; exact (keep_size (w := w) (g := g) (row := none) (zl20_1 HK.out)) : w.heap.size ≤ gb183) : w0.heap.size ≤ gb183)); have n6_ := Aside0.mk ((by rw [hg]; exact Nat.ne_of_lt (IsS110.lt (show IsS110 w0 _ g s0_0 s0_1 s0_2 from (zl20_0 HI0.out))) : g ≠ gb183)); have n7_ := Aside0.mk ((by rw [hg]; exact Nat.ne_of_gt (IsS110.lt (show IsS110 w0 _ g s0_0 s0_1 s0_2 from (zl20_0 HI0.out))) : gb183 ≠ g)); clear HI0; clear HK; clear HB; have HI0 := n0_; have HK := n1_; have HB := n2_; have BK183 := n3_; have GW183 := n4_; have GE183 := n5_; have NB0_183 := n6_; have NB183_0 := n7_; clear n0_ n1_ n2_ n3_ n4_ n5_ n6_ n7_; clear hb hbox hg) | ((with_reducible refine gate_callee (f := 127) rfl ?_); refine zD (some 9) Try.func127 #[.pointer (some ⟨g, 0, none⟩), .int .i64 5] ?_; (with_reducible refine (spec_l1Once.calls g s0_0 s0_1 s0_2 5 true t185 t186 w0 _ ?side1 ?side2 A2.out).mono ?_); (case side1 => exact (zl20_2 HI0.out NB0_183.out)); (case side2 => exact (zl20_3 HB.out (IsS110.ge HI0.out) GE183.out)); rintro e w6 ⟨rfl, hi, hb, hk⟩; refine ⟨_, rfl, ?_⟩; replace BK183 := zKB hk BK183.out NB183_0.out; replace HK := Aside0.mk (KeepBut.trans (zl20_4 HK.out GW183.out) hk (.inl rfl)); replace HI0 := Aside0.mk (hi); replace HB := Aside0.mk (hb); (try clear hb); (try clear hk); (try clear hi)) | ((with_reducible refine gate_callee (f := 125) rfl ?_); refine zD (some 11) Try.func125 #[.pointer (some ⟨g, 0, none⟩), .int .i64 3] ?_; (with_reducible refine (spec_l1Below.calls g s0_0 t185 t186 3 t187 t188 t189 w0 _ ?side1 ?side2 A4.out).mono ?_); (case side1 => exact (zl20_2 HI0.out NB0_183.out)); (case side2 => exact (zl20_3 HB.out (IsS110.ge HI0.out) GE183.out)); rintro e w7 ⟨rfl, hi, hb, hk⟩; refine ⟨_, rfl, ?_⟩; replace BK183 := zKB hk BK183.out NB183_0.out; replace HK := Aside0.mk (KeepBut.trans (zl20_4 HK.out GW183.out) hk (.inl rfl)); replace HI0 := Aside0.mk (hi); replace HB := Aside0.mk (hb); (try clear hb); (try clear hk); (try clear hi)) | ((with_reducible refine gate_dst (N := 4) rfl ?_); refine zBx (N := 4) #[.int .i64 0, .string (⟨#[]⟩ : ByteArray)] 25 ?_; intro gb190 hg w8 hbox hb; have n0_ := Aside0.mk (IsS110.below (zl20_2 HI0.out NB0_183.out) hb); have n1_ := zV BK183.out hb; have n2_ := Aside0.mk (KeepBut.trans (zl20_4 HK.out GW183.out) (KeepBut.of_below hb g none) (.inl rfl)); have n3_ := Aside0.mk (below_step (zG2 (IsS110.ge HI0.out) GE183.out) hb); have n4_ := Aside0.mk (hbox); have n5_ := Aside0.mk ((by rw [hg]; exact (keep_size (w := w) (g := g) (row := none) (zl20_4 HK.out GW183.out)) : w.heap.size ≤ gb190)); have n6_ := Aside0.mk ((Nat.le_trans HW0.out (by rw [hg]; exact (keep_size (w := w) (g := g) (row := none) (zl20_4 HK.out GW183.out)) : w.heap.size ≤ gb190) : w0.heap.size ≤ gb190)); have n7_ := zL hg BK183.out; have n8_ := zLg hg BK183.out; have n9_ := Aside0.mk ((by rw [hg]; exact Nat.ne_of_lt (IsS110.lt (show IsS110 w0 _ g s0_0 t188 t189 from (zl20_2 HI0.out NB0_183.out))) : g ≠ gb190)); have n10_ := Aside0.mk ((by rw [hg]; exact Nat.ne_of_gt (IsS110.lt (show IsS110 w0 _ g s0_0 t188 t189 from (zl20_2 HI0.out NB0_183.out))) : gb190 ≠ g)); clear HI0; clear BK183; clear HK; clear HB; have HI0 := n0_; have BK183 := n1_; have HK := n2_; have HB := n3_; have BK190 := n4_; have GW190 := n5_; have GE190 := n6_; have NB183_190 := n7_; have NB190_183 := n8_; have NB0_190 := n9_; have NB190_0 := n10_; clear n0_ n1_ n2_ n3_ n4_ n5_ n6_ n7_ n8_ n9_ n10_; clear hb hbox hg; have hnb9 := NB190_183.out; have hnc9 := NB183_190.out; have hnb10 := NB190_0.out; have hnc10 := NB0_190.out; obtain ⟨hcz11_0, hcz11_1, hfz11_0, hfz11_1⟩ := zq2 BK190.out))
  go_loopg [5] k (fun kq v5 w' => ∃ (x5_1 : Int) (x1001_1 : Int) (x1002_1 : Int) (x191001_1 : ByteArray), v5 = .int .i64 x5_1 ∧ Aside0 (spec_l3Draw.l0 kq (wrap64 (3 + t187)) x5_1 s0_0 x1001_1 x1002_1 (wrap64 (3 + t187)) x191001_1 = some (r1, r2, r3, r4)) ∧ Aside0 (kq ≤ k) ∧ Aside0 (w'.heap[gb183]? = some (.cells #[.int .i64 0, .string (⟨#[]⟩ : ByteArray)] 25 (0, 0))) ∧ Aside0 (w'.heap[gb190]? = some (.cells #[.int .i64 (wrap64 (3 + t187)), .string x191001_1] 25 (0, 0))) ∧ Aside0 (IsS110 w0 w' g s0_0 x1001_1 x1002_1) ∧ Aside0 (KeepBut w w' g none) ∧ Aside0 (Below w0.heap.size w0 w'))
  case atStart => exact ⟨(0), (t188), (t189), ((⟨#[]⟩ : ByteArray)), zF, H', ⟨Nat.le_refl _⟩, ⟨zk2 BK183.out NB183_190.out NB183_190.out⟩, ⟨zk0 BK190.out⟩, ⟨(zl20_5 HI0.out NB0_183.out NB0_190.out)⟩, ⟨(zl20_6 HK.out GW183.out GW190.out)⟩, ⟨zG3 (IsS110.ge HI0.out) GE183.out GE190.out⟩⟩
  case round =>
  clear H'
  try clear c3
  try clear hcz11_0
  try clear hcz11_1
  try clear hfz11_0
  try clear hfz11_1
  obtain ⟨x5_1, x1001_1, x1002_1, x191001_1, rfl, HA, HK1, BK183, BK190, HI0, HK, HB⟩ := hrel
  cases gk with
  | zero => exact absurd HA.out (by simp [spec_l3Draw.l0])
  | succ k1 =>
  have H := HA.out
  clear HA
  simp only [spec_l3Draw.l0] at H
  by_cases c12 : x5_1 < (wrap64 (Int.tdiv (wrap64 ((wrap64 ((wrap64 (3 + t187)) * (wrap64 ((wrap64 (3 + t187)) - 1)))) * (wrap64 ((wrap64 (3 + t187)) - 2)))) 6))
  ·rw [if_pos c12] at H
   have c12b0 : decide (x5_1 < (wrap64 (Int.tdiv (wrap64 ((wrap64 ((wrap64 (3 + t187)) * (wrap64 ((wrap64 (3 + t187)) - 1)))) * (wrap64 ((wrap64 (3 + t187)) - 2)))) 6))) = true := decide_eq_true c12
   clear c12
   obtain ⟨y191, hy191⟩ : ∃ y_ : List ByteArray, y_ = (([(⟨#[43]⟩ : ByteArray), (⟨#[45]⟩ : ByteArray), (⟨#[43]⟩ : ByteArray)] : List ByteArray)) := ⟨_, rfl⟩
   replace H : ((spec_l1Pick.f s0_0 x1001_1 x1002_1 y191).bind fun bt194 => (if x191001_1.size + bt194.1.size ≤ 9223372036854775807 then (spec_l3Draw.l0 k1 (wrap64 (3 + t187)) (wrap64 (x5_1 + 1)) s0_0 bt194.2.1 bt194.2.2 (wrap64 (3 + t187)) (x191001_1 ++ bt194.1)) else (none))) = some (r1, r2, r3, r4) := by first | (rw [hy191]; with_reducible exact H) | (have H2_ := (Option.bind_some _ _).symm.trans H; rw [hy191]; with_reducible exact H2_) | (have H2_ := (Option.bind_some _ _).symm.trans H; with_reducible exact H2_) | with_reducible exact H | (rw [hy191]; exact H) | exact H
   have Ny191 := Aside0.mk hy191
   clear hy191
   obtain ⟨⟨t194, t195, t196⟩, A13, H⟩ := zO H
   dsimp only at H
   by_cases c14 : x191001_1.size + t194.size ≤ 9223372036854775807
   ·rw [if_pos c14] at H
    have c14b0 := eq_true c14
    have c14b1 : decide (x191001_1.size + t194.size ≤ 9223372036854775807) = true := decide_eq_true c14
    try have c14b2 : (9223372036854775807 < x191001_1.size + t194.size) = False := eq_false (Nat.not_lt.2 c14)
    have H' := Aside0.mk H; clear H
    try go_wp2
    replace BK183 := Aside0.mk (blk_drew BK183.out)
    replace BK190 := Aside0.mk (blk_drew BK190.out)
    replace HI0 := Aside0.mk (IsS110.drew HI0.out)
    replace HK := Aside0.mk (keep_drew HK.out)
    replace HB := Aside0.mk (below_drew1 HB.out)
    refine start_ (n := 8) (S := fun w' => w'.cell? ⟨gb190, 0, none⟩ = some (.int .i64 (wrap64 (3 + t187))) ∧ w'.cell? ⟨gb190, 1, none⟩ = some (.string x191001_1)) (ds := [7]) #[false, false, false, false, false, false, false, false] (by kernel_rfl) rfl rfl ⟨(blk_cell BK190.out 0).trans rfl, (blk_cell BK190.out 1).trans rfl⟩ (fun hHeld => ?_); refine with_tabW spec_l3Draw.tab7 spec_l3Draw.bits7 (fun HT_ HW_ => ?_)
    generalize wr.drew = w15 at BK183 BK190 HI0 HK HB hHeld ⊢
    refine zP 0 (some 27) rfl rfl ?_
    refine zP 2 (some 29) rfl rfl ?_
    refine zY2 1 (some 28) rfl rfl hHeld ?_
    refine zU 3 (some 30) rfl rfl (fun K hK => ?_)
    refine Kd.R_lit_step Kd.string _ 9 ?hg (N := 30) ?hd (xs := ([(⟨#[43]⟩ : ByteArray), (⟨#[45]⟩ : ByteArray), (⟨#[43]⟩ : ByteArray)] : List ByteArray)) (inner := [.string (⟨#[43]⟩ : ByteArray), .string (⟨#[45]⟩ : ByteArray), .string (⟨#[43]⟩ : ByteArray)]) (ok := fun _ => True) (okp := fun _ => True) ?hr ?hp (fun _ hk => hk) trivial (Below.refl _ _) (Nat.le_refl _) (by simp) ?_; (case hd => rfl); (case hg => rfl); (case hr => first | (go_simp; done) | (go_simp; rfl)); (case hp => exact (Reps.one (show Kd.M Kd.string _ _ _ (⟨#[43]⟩ : ByteArray) [.string (⟨#[43]⟩ : ByteArray)] from rfl) (Reps.one (show Kd.M Kd.string _ _ _ (⟨#[45]⟩ : ByteArray) [.string (⟨#[45]⟩ : ByteArray)] from rfl) (Reps.one (show Kd.M Kd.string _ _ _ (⟨#[43]⟩ : ByteArray) [.string (⟨#[43]⟩ : ByteArray)] from rfl) (Reps.none _ _)))))
    intro v192 w16 ho17 hb hg_ hnew_
    clear hg_ hnew_
    (first | rw [← Ny191.out] at ho17 | (simp only [Int.reduceToNat] at ho17; rw [← Ny191.out] at ho17))
    have n0_ := Aside0.mk (Kd.R_lower ho17 (keep_size (w := w) (g := g) (row := none) (zl20_6 HK.out GW183.out GW190.out)))
    have n1_ := zV BK183.out hb
    have n2_ := zV BK190.out hb
    have n3_ := Aside0.mk (IsS110.below (zl20_5 HI0.out NB0_183.out NB0_190.out) hb)
    have n4_ := Aside0.mk (KeepBut.trans (zl20_6 HK.out GW183.out GW190.out) (KeepBut.of_below hb g none) (.inl rfl))
    have n5_ := Aside0.mk (below_step (zG3 (IsS110.ge HI0.out) GE183.out GE190.out) hb)
    clear BK183
    clear BK190
    clear HI0
    clear HK
    clear HB
    have HO193 := n0_
    have BK183 := n1_
    have BK190 := n2_
    have HI0 := n3_
    have HK := n4_
    have HB := n5_
    clear n0_ n1_ n2_ n3_ n4_ n5_
    clear hb ho17
    obtain ⟨Ao18, co18, eo18⟩ := Kd.R_slice HO193.out
    (first | subst eo18 | (injection eo18 with f1_ f2_ f3_; have f4_ := f1_.symm; have f5_ := f3_.symm; clear f1_ f2_ f3_; subst f4_; subst f5_))
    refine hK.out _ _ (zh2 BK190.out) (fun hHeld => ?_)
    clear hK K
    refine zN ?_
    refine zU 4 (some 31) rfl rfl (fun K hK => ?_)
    refine goes_ Try.func155 (by kernel_rfl) rfl #[.pointer (some ⟨g, 0, none⟩), .slice Ao18 y191.length co18] (by rfl) rfl rfl zM ?_
    with_reducible refine (spec_l1Pick.calls g s0_0 x1001_1 x1002_1 _ _ y191 t194 t195 t196 w0 _ ?side1 ?side2 ?side3 ?side4 ?side5 A13.out).mono ?_
    (case side1 => exact (zl20_5 HI0.out NB0_183.out NB0_190.out))
    (case side2 => exact (zl20_7 HB.out (IsS110.ge HI0.out) GE183.out GE190.out))
    (case side3 => repeat (first | exact (Kd.R_reads' HO193.out).2.2 | (with_reducible refine Kd.C_alloc ?_ _) | (with_reducible refine Kd.C_drewN ?_ _) | (with_reducible refine Kd.C_drew ?_)))
    (case side4 => exact (Kd.R_reads' HO193.out).2.1)
    (case side5 => exact far_slice (IsS110.own_ne HI0.out HO193.out (by decide)))
    rintro e w19 ⟨rfl, hi, hb, hk⟩
    refine ⟨_, rfl, ?_⟩
    replace BK183 := zKB hk BK183.out NB183_0.out
    replace BK190 := zKB hk BK190.out NB190_0.out
    replace HO193 := Aside0.mk (Kd.R_mono (Kd.R_keep (IsS110.apart (show IsS110 w0 _ g s0_0 x1001_1 x1002_1 from (zl20_5 HI0.out NB0_183.out NB0_190.out)) (zR HO193.out) (by decide)) hk (fun _ h => h.2)) (fun _ h => h.1))
    replace HK := Aside0.mk (KeepBut.trans (zl20_6 HK.out GW183.out GW190.out) hk (.inl rfl))
    replace HI0 := Aside0.mk (hi)
    replace HB := Aside0.mk (hb)
    (try clear hb)
    (try clear hk)
    (try clear hi)
    refine hK.out _ _ (zh2 BK190.out) (fun hHeld => ?_)
    clear hK K
    refine zN ?_
    refine zP 5 (some 32) rfl rfl ?_
    refine zP 6 (some 33) rfl rfl ?_
    refine last_ (i := 7) (N := none) #[true, true, true, true, true, true, true, true] rfl rfl (one_of HT_.out (by kernel_rfl)) (by decide) (fun K hK => ?_)
    have hs20 : w19.cell? ⟨gb190, 1, none⟩ = some (.string x191001_1) := (blk_cell BK190.out 1).trans rfl
    have hfs20 := blk_frozen BK190.out 1
    have hns20_0 := NB183_190.out
    have hms20_0 := NB190_183.out
    refine skip_ (w1 := ?_) (by rfl) rfl ?_ ?_
    rotate_left
    ·go_simp
     rfl
    refine hK.out _ _ ?_
    clear hK K
    refine done_ (done_of HT_.out (by kernel_rfl)) ?_
    try go_wp2
    go_roundg k1
    case measure => have := HK1.out; omega
    case rel => exact ⟨(wrap64 (x5_1 + 1)), (t195), (t196), (x191001_1 ++ t194), zF, H', ⟨by have := HK1.out; omega⟩, ⟨zk1 BK183.out NB183_190.out⟩, ⟨zk0 BK190.out⟩, ⟨(zl20_5 HI0.out NB0_183.out NB0_190.out)⟩, ⟨(zl20_6 HK.out GW183.out GW190.out)⟩, ⟨zG3 (IsS110.ge HI0.out) GE183.out GE190.out⟩⟩
   rw [if_neg c14] at H
   exact absurd H (by simp)
  rw [if_neg c12] at H
  have c12b0 : decide (x5_1 < (wrap64 (Int.tdiv (wrap64 ((wrap64 ((wrap64 (3 + t187)) * (wrap64 ((wrap64 (3 + t187)) - 1)))) * (wrap64 ((wrap64 (3 + t187)) - 2)))) 6))) = false := decide_eq_false c12
  clear c12
  simp only [Option.some.injEq, Prod.mk.injEq] at H
  obtain ⟨rfl, rfl, rfl, rfl⟩ := H
  have hnb21 := NB190_183.out
  have hnc21 := NB183_190.out
  have hnb22 := NB190_0.out
  have hnc22 := NB0_190.out
  obtain ⟨hcz23_0, hcz23_1, hfz23_0, hfz23_1⟩ := zq2 BK190.out
  have hnb24 := NB183_0.out
  have hnc24 := NB0_183.out
  obtain ⟨hcz25_0, hcz25_1, hfz25_0, hfz25_1⟩ := zq2 BK183.out
  go_wp2
  refine bodyPost_ret (results_cell_row rfl _ _ gb183 25 #[.int .i64 (wrap64 (3 + t187)), .string x191001_1] (0, 0) _ rfl (zk0 BK183.out) Try.underlying25 rfl (by kernel_rfl)) rfl ?_
  exact ⟨zE, (zl20_5 HI0.out NB0_183.out NB0_190.out), zG3 (IsS110.ge HI0.out) GE183.out GE190.out, (zl20_6 HK.out GW183.out GW190.out)⟩
 replace c3 := Bool.eq_false_iff.mpr c3
 subst c3
 replace H := (if_neg zFf).symm.trans H
 obtain ⟨⟨t197, t200, t201⟩, A26, H⟩ := zO H
 dsimp only at H
 obtain ⟨⟨t202, t203, t204⟩, A27, H⟩ := zO H
 replace H : (some (t202, t203, t200, t201)) = some (r1, r2, r3, r4) := H
 simp only [Option.some.injEq, Prod.mk.injEq] at H
 obtain ⟨rfl, rfl, rfl, rfl⟩ := H
 go_enter Try.func154, Try.ntmps154
 go_wp2_with (first | ((with_reducible refine gate_dst (N := 2) rfl ?_); refine zBx (N := 2) #[.int .i64 0, .string (⟨#[]⟩ : ByteArray)] 25 ?_; intro gb183 hg w28 hbox hb; have n0_ := Aside0.mk (IsS110.below (zl20_0 HI0.out) hb); have n1_ := Aside0.mk (KeepBut.trans (zl20_1 HK.out) (KeepBut.of_below hb g none) (.inl rfl)); have n2_ := Aside0.mk (below_step (zG (IsS110.ge HI0.out)) hb); have n3_ := Aside0.mk (hbox); have n4_ := Aside0.mk ((by rw [hg]; exact (keep_size (w := w) (g := g) (row := none) (zl20_1 HK.out)) : w.heap.size ≤ gb183)); have n5_ := Aside0.mk ((Nat.le_trans HW0.out (by rw [hg]; exact (keep_size (w := w) (g := g) (row := none) (zl20_1 HK.out)) : w.heap.size ≤ gb183) : w0.heap.size ≤ gb183)); have n6_ := Aside0.mk ((by rw [hg]; exact Nat.ne_of_lt (IsS110.lt (show IsS110 w0 _ g s0_0 s0_1 s0_2 from (zl20_0 HI0.out))) : g ≠ gb183)); have n7_ := Aside0.mk ((by rw [hg]; exact Nat.ne_of_gt (IsS110.lt (show IsS110 w0 _ g s0_0 s0_1 s0_2 from (zl20_0 HI0.out))) : gb183 ≠ g)); clear HI0; clear HK; clear HB; have HI0 := n0_; have HK := n1_; have HB := n2_; have BK183 := n3_; have GW183 := n4_; have GE183 := n5_; have NB0_183 := n6_; have NB183_0 := n7_; clear n0_ n1_ n2_ n3_ n4_ n5_ n6_ n7_; clear hb hbox hg) | ((with_reducible refine gate_callee (f := 127) rfl ?_); refine zD (some 9) Try.func127 #[.pointer (some ⟨g, 0, none⟩), .int .i64 5] ?_; (with_reducible refine (spec_l1Once.calls g s0_0 s0_1 s0_2 5 false t185 t186 w0 _ ?side1 ?side2 A2.out).mono ?_); (case side1 => exact (zl20_2 HI0.out NB0_183.out)); (case side2 => exact (zl20_3 HB.out (IsS110.ge HI0.out) GE183.out)); rintro e w29 ⟨rfl, hi, hb, hk⟩; refine ⟨_, rfl, ?_⟩; replace BK183 := zKB hk BK183.out NB183_0.out; replace HK := Aside0.mk (KeepBut.trans (zl20_4 HK.out GW183.out) hk (.inl rfl)); replace HI0 := Aside0.mk (hi); replace HB := Aside0.mk (hb); (try clear hb); (try clear hk); (try clear hi)) | ((with_reducible refine gate_callee (f := 148) rfl ?_); refine zD (some 37) Try.func148 #[.pointer (some ⟨g, 0, none⟩)] ?_; (with_reducible refine (spec_l2Draw.calls k g s0_0 t185 t186 t197 t200 t201 w0 _ ?side1 ?side2 A26.out).mono ?_); (case side1 => exact (zl20_2 HI0.out NB0_183.out)); (case side2 => exact (zl20_3 HB.out (IsS110.ge HI0.out) GE183.out)); rintro e w30 ⟨v198, rfl, ho0, hi, hb, hk⟩; refine ⟨_, rfl, ?_⟩; replace BK183 := zKB hk BK183.out NB183_0.out; have HO199 := Aside0.mk (Kd.R_lower ho0 (keep_size (w := w) (g := g) (row := none) (zl20_4 HK.out GW183.out))); replace HK := Aside0.mk (KeepBut.trans (zl20_4 HK.out GW183.out) hk (.inl rfl)); replace HI0 := Aside0.mk (hi); replace HB := Aside0.mk (hb); (try clear hb); (try clear hk); (try clear hi); (try clear ho0); obtain ⟨Ao31, co31, eo31⟩ := Kd.R_slice HO199.out; subst eo31) | ((with_reducible refine gate_callee (f := 27) rfl ?_); refine zD (some 38) Try.func27 #[.slice Ao31 t197.length co31] ?_; (with_reducible refine (spec_SignsOf.calls k _ _ t197 t202 t203 t204 _ ?side1 ?side2 A27.out).mono ?_); (case side1 => repeat (first | exact (Kd.R_reads' HO199.out).2.2 | (with_reducible refine Kd.C_alloc ?_ _) | (with_reducible refine Kd.C_drewN ?_ _) | (with_reducible refine Kd.C_drew ?_))); (case side2 => exact (Kd.R_reads' HO199.out).2.1); rintro e w32 ⟨rfl, hb⟩; refine ⟨_, rfl, ?_⟩; have n0_ := zW HO199.out hb; have n1_ := Aside0.mk (IsS110.below (zl20_2 HI0.out NB0_183.out) hb); have n2_ := zV BK183.out hb; have n3_ := Aside0.mk (KeepBut.trans (zl20_4 HK.out GW183.out) (KeepBut.of_below hb g none) (.inl rfl)); have n4_ := Aside0.mk (below_step (zG2 (IsS110.ge HI0.out) GE183.out) hb); clear HO199; clear HI0; clear BK183; clear HK; clear HB; have HO199 := n0_; have HI0 := n1_; have BK183 := n2_; have HK := n3_; have HB := n4_; clear n0_ n1_ n2_ n3_ n4_; (try clear hb)) | ((with_reducible refine gate_dst (N := 6) rfl ?_); refine zBx (N := 6) #[.int .i64 0, .string (⟨#[]⟩ : ByteArray)] 25 ?_; intro gb205 hg w33 hbox hb; have n0_ := zW HO199.out hb; have n1_ := Aside0.mk (IsS110.below (zl20_2 HI0.out NB0_183.out) hb); have n2_ := zV BK183.out hb; have n3_ := Aside0.mk (KeepBut.trans (zl20_4 HK.out GW183.out) (KeepBut.of_below hb g none) (.inl rfl)); have n4_ := Aside0.mk (below_step (zG2 (IsS110.ge HI0.out) GE183.out) hb); have n5_ := Aside0.mk (hbox); have n6_ := Aside0.mk ((by rw [hg]; exact (keep_size (w := w) (g := g) (row := none) (zl20_4 HK.out GW183.out)) : w.heap.size ≤ gb205)); have n7_ := Aside0.mk ((Nat.le_trans HW0.out (by rw [hg]; exact (keep_size (w := w) (g := g) (row := none) (zl20_4 HK.out GW183.out)) : w.heap.size ≤ gb205) : w0.heap.size ≤ gb205)); have n8_ := zL hg BK183.out; have n9_ := zLg hg BK183.out; have n10_ := Aside0.mk ((by rw [hg]; exact Nat.ne_of_lt (IsS110.lt (show IsS110 w0 _ g s0_0 t200 t201 from (zl20_2 HI0.out NB0_183.out))) : g ≠ gb205)); have n11_ := Aside0.mk ((by rw [hg]; exact Nat.ne_of_gt (IsS110.lt (show IsS110 w0 _ g s0_0 t200 t201 from (zl20_2 HI0.out NB0_183.out))) : gb205 ≠ g)); clear HO199; clear HI0; clear BK183; clear HK; clear HB; have HO199 := n0_; have HI0 := n1_; have BK183 := n2_; have HK := n3_; have HB := n4_; have BK205 := n5_; have GW205 := n6_; have GE205 := n7_; have NB183_205 := n8_; have NB205_183 := n9_; have NB0_205 := n10_; have NB205_0 := n11_; clear n0_ n1_ n2_ n3_ n4_ n5_ n6_ n7_ n8_ n9_ n10_ n11_; clear hb hbox hg; have hnb34 := NB205_183.out; have hnc34 := NB183_205.out; have hnb35 := NB205_0.out; have hnc35 := NB0_205.out; obtain ⟨hcz36_0, hcz36_1, hfz36_0, hfz36_1⟩ := zq2 BK205.out; have hnb37 := NB183_0.out; have hnc37 := NB0_183.out; obtain ⟨hcz38_0, hcz38_1, hfz38_0, hfz38_1⟩ := zq2 BK183.out))
 refine bodyPost_ret (results_cell_row rfl _ _ gb183 25 #[.int .i64 t202, .string t203] (0, 0) _ rfl (zk2 BK183.out NB183_205.out NB183_205.out) Try.underlying25 rfl (by kernel_rfl)) rfl ?_
 exact ⟨zE, (zl20_5 HI0.out NB0_183.out NB0_205.out), zG3 (IsS110.ge HI0.out) GE183.out GE205.out, (zl20_6 HK.out GW183.out GW205.out)⟩
end Go.Proofs.Ytckkfjdkaimmhaa.PX
