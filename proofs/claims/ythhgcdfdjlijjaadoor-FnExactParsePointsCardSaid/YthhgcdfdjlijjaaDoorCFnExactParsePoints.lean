/- FnExactParsePoints returns true for all arguments and leaves them as they were. No condition. -/
import Derived.Test.YthhgcdfdjlijjaaDoorProg
import Derived.Lib.AtoiAllCases
import Derived.Lib.ItoaNum
import Derived.Lib.IndexMore
import Derived.Test.YthhgcdfdjlijjaaDoorRows
import Derived.Test.YthhgcdfdjlijjaaDoorTie
import Derived.Test.YthhgcdfdjlijjaaDoorCards
import Derived.SevenTiedAt
import Derived.WalkKit
import Derived.ProofKit
import Derived.OpenShut
import Derived.ShutString
import Derived.ChangeOld
import Derived.Below
import Derived.SizedLaws
import Derived.Lib.SmallJoins
import Derived.ChangeSame
import Derived.Test.YthhgcdfdjlijjaaDoorV1
import Derived.Test.YthhgcdfdjlijjaaDoorBtphwob1
set_option linter.unusedVariables false
set_option linter.unusedSimpArgs false
namespace Go.Proofs.YthhgcdfdjlijjaaDoor.M
open Go.RowKit Go.Proofs.YthhgcdfdjlijjaaDoorW.PrintWords
section
variable {σ τ ρ α β : Type}
def Goes (z : Except ρ σ) (K : σ → Nat → Option ρ) (g : Nat → Option ρ) : Prop :=
 match z with
 | .error v => Ev g v
 | .ok s => ∀ r, Ev (K s) r → Ev g r
variable {z : Except ρ σ} {K : σ → Nat → Option ρ}
theorem Goes.ok (s : σ) : Goes (.ok s) K (K s) := fun _ h => h
theorem Goes.error {g : Nat → Option ρ} {v : ρ} (h : Ev g v) : Goes (.error v) K g := h
theorem Goes.ret (v : ρ) : Goes (.error v) K (fun _ => some v) := Ev.now v
theorem Goes.map {g g' : Nat → Option ρ} (hg : ∀ r, Ev g' r → Ev g r) (h : Goes z K g') : Goes z K g := by
 cases z with
 | error v => exact hg _ h
 | ok s => exact fun r hr => hg _ (h r hr)
theorem Goes.step {g : Nat → Option ρ} (h : Goes z K (fun k => g (k + 1))) : Goes z K g := Goes.map (fun _ => ev_step) h
theorem Goes.pos {c : Prop} [Decidable c] {a b : Nat → Option ρ} (hc : c) (h : Goes z K a) : Goes z K (fun k => if c then a k else b k) := Goes.map (fun _ => ev_pos hc) h
theorem Goes.neg {c : Prop} [Decidable c] {a b : Nat → Option ρ} (hc : ¬ c) (h : Goes z K b) : Goes z K (fun k => if c then a k else b k) := Goes.map (fun _ => ev_neg hc) h
theorem Goes.call {x : Option α} {a : α} {f : Nat → α → Option ρ} (hx : x = some a) (h : Goes z K (fun k => f k a)) : Goes z K (fun k => x.bind (f k)) := Goes.map (fun _ => ev_call hx) h
theorem Goes.ev {x : Nat → Option α} {a : α} {f : Nat → α → Option ρ} (hx : Ev x a) (h : Goes z K (fun k => f k a)) : Goes z K (fun k => (x k).bind (f k)) := Goes.map (fun _ => Ev.bind hx) h
theorem Goes.bind {y : Except ρ τ} {f : τ → Except ρ σ} {K' : τ → Nat → Option ρ} {g : Nat → Option ρ} (h : Goes y K' g) (h' : ∀ s, Goes (f s) K (K' s)) : Goes (y >>= f) K g := by
 cases y with
 | error v => exact h
 | ok s => exact Goes.map (h ·) (h' s)
theorem Goes.cast {z' : Except ρ σ} {g : Nat → Option ρ} (h : Goes z K g) (e : z = z') : Goes z' K g := e ▸ h
theorem Goes.out {g : Nat → Option ρ} {r : ρ} (h : Goes z K g) (he : ∀ v, z = .error v → v = r) (ho : ∀ s, z = .ok s → Ev (K s) r) : Ev g r := by
 cases z with
 | error v => exact he v rfl ▸ h
 | ok s => exact h r (ho s rfl)
theorem loop_up {lo n : Nat} {L : Int → σ → Nat → Option ρ} (dec : σ → Nat → Except ρ σ) (hf : ∀ s, Goes (.ok s) K (L (n : Int) s))
  (hb : ∀ i, lo ≤ i → i < n → ∀ s, Goes (dec s i) (fun s => L ((i + 1 : Nat) : Int) s) (L (i : Int) s)) (hlo : lo ≤ n) (s : σ) : Goes ((List.range' lo (n - lo)).foldlM dec s) K (L (lo : Int) s) := by
 have key : ∀ d i, lo ≤ i → i + d = n → ∀ s, Goes ((List.range' i d).foldlM dec s) K (L (i : Int) s) := by
  intro d
  induction d with
  | zero =>
   intro i _ hi s
   obtain rfl : i = n := by omega
   exact hf s
  | succ d ih =>
   intro i hl hi s
   rw [List.range'_succ, List.foldlM_cons]
   exact Goes.bind (hb i hl (by omega) s) (fun s => ih (i + 1) (by omega) (by omega) s)
 exact key (n - lo) lo (Nat.le_refl _) (by omega) s
theorem loop_up' {lo n : Nat} {L : Int → σ → Nat → Option ρ} (I : Nat → σ → Prop) (dec : σ → Nat → Except ρ σ) (hf : ∀ s, I n s → Goes (.ok s) K (L (n : Int) s))
  (hb : ∀ i, lo ≤ i → i < n → ∀ s, I i s → Goes (dec s i) (fun s => L ((i + 1 : Nat) : Int) s) (L (i : Int) s)) (hi : ∀ i, lo ≤ i → i < n → ∀ s, I i s → ∀ s', dec s i = .ok s' → I (i + 1) s') (hlo : lo ≤ n) (s : σ) (hs : I lo s) :
  Goes ((List.range' lo (n - lo)).foldlM dec s) K (L (lo : Int) s) := by
 have key : ∀ d i, lo ≤ i → i + d = n → ∀ s, I i s → Goes ((List.range' i d).foldlM dec s) K (L (i : Int) s) := by
  intro d
  induction d with
  | zero =>
   intro i _ hid s hs
   obtain rfl : i = n := by omega
   exact hf s hs
  | succ d ih =>
   intro i hl hid s hs
   rw [List.range'_succ, List.foldlM_cons]
   have h := hb i hl (by omega) s hs
   have h' := hi i hl (by omega) s hs
   cases hd : dec s i with
   | error v => rw [hd] at h; exact h
   | ok s' =>
    rw [hd] at h
    exact Goes.map (h ·) (ih (i + 1) (by omega) (by omega) s' (h' s' hd))
 exact key (n - lo) lo (Nat.le_refl _) (by omega) s hs
theorem foldlM_ok (g : σ → α → σ) (l : List α) : ∀ s, (l.foldlM (fun s a => (.ok (g s a) : Except ρ σ)) s) = .ok (l.foldl g s) := by
 induction l with
 | nil => intro s; rfl
 | cons x l ih => intro s; exact ih (g s x)
theorem foldlM_find (c : α → Bool) (v : α → ρ) (l : List α) : l.foldlM (fun (_ : Unit) a => if c a then (.error (v a) : Except ρ Unit) else .ok ()) () = match l.find? c with | some a => .error (v a) | none => .ok () := by
 induction l with
 | nil => rfl
 | cons x l ih =>
  rw [List.foldlM_cons, List.find?_cons]
  cases hx : c x with
  | true => rfl
  | false => exact ih
theorem foldlM_any (c : α → Bool) (v : ρ) (l : List α) : l.foldlM (fun (_ : Unit) a => if c a then (.error v : Except ρ Unit) else .ok ()) () = if l.any c then .error v else .ok () := by
 rw [foldlM_find c (fun _ => v) l]
 cases h : l.find? c with
 | none =>
  have : l.any c = false := by simpa using h
  rw [this]; rfl
 | some a =>
  have : l.any c = true := List.any_eq_true.2 ⟨a, List.mem_of_find?_eq_some h, List.find?_some h⟩
  rw [this]; rfl
end
theorem foldlM_index {σ ρ α : Type} (d : α) (f : σ → α → Except ρ σ) (l : List α) (s : σ) : (List.range' 0 (l.length - 0)).foldlM (fun s i => f s (l.getD i d)) s = l.foldlM f s := by
 have key : ∀ (l' pre : List α) (s : σ), pre ++ l' = l → (List.range' pre.length l'.length).foldlM (fun s i => f s (l.getD i d)) s = l'.foldlM f s := by
  intro l'
  induction l' with
  | nil => intro pre s _; rfl
  | cons x l' ih =>
   intro pre s h
   have hx : l.getD pre.length d = x := by
    rw [← h, List.getD_eq_getElem?_getD, List.getElem?_append_right (Nat.le_refl _), Nat.sub_self]
    rfl
   rw [List.length_cons, List.range'_succ, List.foldlM_cons, List.foldlM_cons, hx]
   congr 1
   funext s
   have := ih (pre ++ [x]) s (by rw [← h, List.append_assoc]; rfl)
   rw [List.length_append] at this
   exact this
 rw [Nat.sub_zero]
 exact key l [] s rfl
def upFrom (n a : Nat) : List Nat := List.range' (a + 1) (n - (a + 1))
def tripsL (n : Nat) : List (Nat × Nat × Nat) := (List.range' 0 n).flatMap fun a => (upFrom n a).flatMap fun b => (upFrom n b).map fun c => (a, b, c)
theorem mem_upFrom {n a b : Nat} (h : b ∈ upFrom n a) : a < b ∧ b < n := by
 simp only [upFrom, List.mem_range'_1] at h
 omega
theorem mem_trips {n a b c : Nat} (h : (a, b, c) ∈ tripsL n) : a < b ∧ b < c ∧ c < n := by
 simp only [tripsL, List.mem_flatMap, List.mem_map, Prod.mk.injEq] at h
 obtain ⟨x, _, y, hy, z, hz, rfl, rfl, rfl⟩ := h
 have := mem_upFrom hy
 have := mem_upFrom hz
 omega
theorem trips_mem {n a b c : Nat} (h1 : a < b) (h2 : b < c) (h3 : c < n) : (a, b, c) ∈ tripsL n := by
 simp only [tripsL, List.mem_flatMap, List.mem_map, Prod.mk.injEq, upFrom, List.mem_range'_1]
 exact ⟨a, by omega, b, by omega, c, by omega, rfl, rfl, rfl⟩
section
variable {σ ρ : Type} {n : Nat} {K : σ → Nat → Option ρ}
end
end Go.Proofs.YthhgcdfdjlijjaaDoor.M
namespace Go.Proofs.YthhgcdfdjlijjaaDoor.M
open Go.RowKit Go.Proofs.YthhgcdfdjlijjaaDoorW.PrintWords Go.Proofs.YthhgcdfdjlijjaaDoor.PX
abbrev IP := S55
theorem rdIP {l : List IP} {i : Nat} (h : i < l.length) : rd_T55 l (i : Int) = l[i] := by
 unfold rd_T55
 rw [Int.toNat_natCast, List.getD_eq_getElem?_getD, List.getElem?_eq_getElem h]
 rfl
def tripN (n : Nat) : List S76 := (List.range n).flatMap fun (i : Nat) => (List.range n).flatMap fun (j : Nat) => (List.range n).flatMap fun (k : Nat) => if i < j ∧ j < k then [(⟨(i : Int), (j : Int), (k : Int)⟩ : S76)] else []
theorem triples_closed : (impl_triplesOf.f 200 3 = some (tripN 3) ∧ impl_triplesOf.f 200 4 = some (tripN 4) ∧ impl_triplesOf.f 200 5 = some (tripN 5)) ∧ impl_triplesOf.f 200 6 = some (tripN 6) ∧ impl_triplesOf.f 200 7 = some (tripN 7) := by
 refine ⟨⟨?_, ?_, ?_⟩, ?_, ?_⟩ <;> kernel_rfl
theorem five {n : Nat} (h0 : 3 ≤ n) (h1 : n ≤ 7) {p : Nat → Prop} (a : p 3) (b : p 4) (c : p 5) (d : p 6) (e : p 7) : p n := by
 have : n = 3 ∨ n = 4 ∨ n = 5 ∨ n = 6 ∨ n = 7 := by omega
 rcases this with rfl | rfl | rfl | rfl | rfl <;> assumption
theorem triples_ev {n : Nat} (h0 : 3 ≤ n) (h1 : n ≤ 7) : Ev (fun k => impl_triplesOf.f k (n : Int)) (tripN n) := by
 obtain ⟨⟨h3, h4, h5⟩, h6, h7⟩ := triples_closed
 refine five (p := fun n => Ev (fun k => impl_triplesOf.f k (n : Int)) (tripN n)) h0 h1 ?_ ?_ ?_ ?_ ?_
 ·exact Ev.of (impl_triplesOf.mono 3) h3
 ·exact Ev.of (impl_triplesOf.mono 4) h4
 ·exact Ev.of (impl_triplesOf.mono 5) h5
 ·exact Ev.of (impl_triplesOf.mono 6) h6
 ·exact Ev.of (impl_triplesOf.mono 7) h7
theorem tripN_L {n : Nat} (h0 : 3 ≤ n) (h1 : n ≤ 7) : tripN n = (tripsL n).map fun q => ⟨(q.1 : Int), (q.2.1 : Int), (q.2.2 : Int)⟩ := by
 refine five (p := fun n => tripN n = (tripsL n).map fun q => ⟨(q.1 : Int), (q.2.1 : Int), (q.2.2 : Int)⟩) h0 h1 ?_ ?_ ?_ ?_ ?_ <;> kernel_rfl
theorem trips_small : ∀ n, n ≤ 7 → (tripsL n).length ≤ 35 := by decide +kernel
theorem trip_len {n : Nat} (h0 : 3 ≤ n) (h1 : n ≤ 7) : (tripN n).length ≤ 35 := by
 rw [tripN_L h0 h1, List.length_map]
 exact trips_small n h1
theorem rd_trip {ts : List S76} {i : Nat} (h : i < ts.length) : rd_T76 ts (i : Int) = ts[i] := by
 unfold rd_T76
 rw [Int.toNat_natCast, List.getD_eq_getElem?_getD, List.getElem?_eq_getElem h]
 rfl
theorem trip_pos {n p : Nat} (h0 : 3 ≤ n) (h1 : n ≤ 7) (hp : p < (tripN n).length) : ∃ a b c : Nat, (tripN n)[p] = ⟨(a : Int), (b : Int), (c : Int)⟩ ∧ a < b ∧ b < c ∧ c < n := by
 have e := tripN_L h0 h1
 have hm : (tripN n)[p] ∈ (tripsL n).map fun q => (⟨(q.1 : Int), (q.2.1 : Int), (q.2.2 : Int)⟩ : S76) := by rw [← e]; exact List.getElem_mem _
 obtain ⟨⟨a, b, c⟩, hq, he⟩ := List.mem_map.1 hm
 obtain ⟨h2, h3, h4⟩ := mem_trips hq
 exact ⟨a, b, c, he.symm, h2, h3, h4⟩
end Go.Proofs.YthhgcdfdjlijjaaDoor.M
namespace Go.Proofs.YthhgcdfdjlijjaaDoor.M
open Go.RowKit Go.Proofs.YthhgcdfdjlijjaaDoorW.PrintWords Go.Proofs.YthhgcdfdjlijjaaDoor.PX Go.Proofs.YthhgcdfdjlijjaaDoor.G
def nearP (most : Int) (p : IP) : Bool := (decide (-most ≤ p.f0) && decide (p.f0 ≤ most)) && (decide (-most ≤ p.f1) && decide (p.f1 ≤ most))
def areaP (a b c : IP) : Int := (b.f0 - a.f0) * (c.f1 - a.f1) - (b.f1 - a.f1) * (c.f0 - a.f0)
def sgnI (x : Int) : Int := if x < 0 then -1 else if x > 0 then 1 else 0
theorem nearP_iff {most : Int} {p : IP} : nearP most p = true ↔ (-most ≤ p.f0 ∧ p.f0 ≤ most) ∧ (-most ≤ p.f1 ∧ p.f1 ≤ most) := by
 unfold nearP
 simp only [Bool.and_eq_true, decide_eq_true_eq]
theorem nearIdx_any (most : Int) (l : List IP) : ∀ (d i : Nat), i + d = l.length → decide (0 ≤ nearIdx most l d (i : Int)) = (l.drop i).any fun p => farQ p.f0 most || farQ p.f1 most := by
 intro d
 induction d with
 | zero =>
  intro i hi
  rw [List.drop_of_length_le (by omega)]
  rfl
 | succ d ih =>
  intro i hi
  rw [nearIdx, List.drop_eq_getElem_cons (by omega), List.any_cons, rdIP (by omega)]
  cases g : (farQ (l[i]'(by omega)).f0 most || farQ (l[i]'(by omega)).f1 most) with
  | true =>
   rw [if_pos rfl, Bool.true_or]
   exact decide_eq_true (by omega)
  | false =>
   rw [if_neg (by decide), Bool.false_or]
   exact ih (i + 1) (by omega)
theorem impl_near (most : Int) (h0 : 0 ≤ most) (h1 : most ≤ 1000000) (l : List IP) : impl_areNear.f most l = some (l.all (nearP most)) := by
 unfold impl_areNear.f
 have h := nearIdx_any most l l.length 0 (by omega)
 rw [List.drop_zero] at h
 have h' : decide (0 ≤ nearIdx most l l.length 0) = l.any fun p => farQ p.f0 most || farQ p.f1 most := h
 rw [h', List.not_any_eq_all_not]
 congr 2
 funext p
 unfold farQ nearP
 rw [wrap_id (by omega) (by omega), Bool.eq_iff_iff]
 simp
theorem spec_fits (p : IP) (most : Int) (h0 : 0 ≤ most) (h1 : most ≤ 1000000) : spec_l2Fits.f p.f0 p.f1 most = some (nearP most p) := by
 have one : ∀ x : Int, spec_l1In.f x (-most) most = some (decide (-most ≤ x) && decide (x ≤ most)) := by
  intro x
  unfold spec_l1In.f
  by_cases h : x ≥ -most
  ·rw [if_pos h, decide_eq_true (show -most ≤ x from h), Bool.true_and]
  ·rw [if_neg h, decide_eq_false (show ¬ -most ≤ x from h), Bool.false_and]
 unfold spec_l2Fits.f nearP
 rw [wrap_id (by omega) (by omega), one, one]
 cases decide (-most ≤ p.f0) && decide (p.f0 ≤ most) <;> rfl
theorem mul_bd {x y : Int} (h1 : -2000 ≤ x) (h2 : x ≤ 2000) (h3 : -2000 ≤ y) (h4 : y ≤ 2000) : -4000000 ≤ x * y ∧ x * y ≤ 4000000 := by
 have h := Int.natAbs_mul x y
 have h' : x.natAbs * y.natAbs ≤ 2000 * 2000 := Nat.mul_le_mul (by omega) (by omega)
 omega
theorem area_ok {a b c : IP} (ha : nearP 1000 a = true) (hb : nearP 1000 b = true) (hc : nearP 1000 c = true) :
  wrap64 ((wrap64 ((wrap64 (b.f0 - a.f0)) * (wrap64 (c.f1 - a.f1)))) - (wrap64 ((wrap64 (b.f1 - a.f1)) * (wrap64 (c.f0 - a.f0))))) = areaP a b c ∧ -8000000 ≤ areaP a b c ∧ areaP a b c ≤ 8000000 := by
 obtain ⟨⟨a1, a2⟩, a3, a4⟩ := nearP_iff.1 ha
 obtain ⟨⟨b1, b2⟩, b3, b4⟩ := nearP_iff.1 hb
 obtain ⟨⟨c1, c2⟩, c3, c4⟩ := nearP_iff.1 hc
 have m1 := mul_bd (x := b.f0 - a.f0) (y := c.f1 - a.f1) (by omega) (by omega) (by omega) (by omega)
 have m2 := mul_bd (x := b.f1 - a.f1) (y := c.f0 - a.f0) (by omega) (by omega) (by omega) (by omega)
 rw [wrap_id (x := b.f0 - a.f0) (by omega) (by omega), wrap_id (x := c.f1 - a.f1) (by omega) (by omega), wrap_id (x := b.f1 - a.f1) (by omega) (by omega), wrap_id (x := c.f0 - a.f0) (by omega) (by omega)]
 rw [wrap_id (x := (b.f0 - a.f0) * (c.f1 - a.f1)) (by omega) (by omega), wrap_id (x := (b.f1 - a.f1) * (c.f0 - a.f0)) (by omega) (by omega)]
 unfold areaP
 exact ⟨wrap_id (by omega) (by omega), by omega, by omega⟩
def near3 (a b c : IP) : Bool := nearP 1000 a && (nearP 1000 b && nearP 1000 c)
theorem near3_iff {a b c : IP} : near3 a b c = true ↔ nearP 1000 a = true ∧ nearP 1000 b = true ∧ nearP 1000 c = true := by
 unfold near3
 simp only [Bool.and_eq_true]
theorem spec_area {a b c : IP} (h : near3 a b c = true) : spec_l2Area.f a.f0 a.f1 b.f0 b.f1 c.f0 c.f1 = some (areaP a b c) := by
 obtain ⟨ha, hb, hc⟩ := near3_iff.1 h
 unfold spec_l2Area.f
 rw [(area_ok ha hb hc).1]
theorem impl_area {a b c : IP} (h : near3 a b c = true) : impl_area.f a.f0 a.f1 b.f0 b.f1 c.f0 c.f1 = some (areaP a b c) := by
 obtain ⟨ha, hb, hc⟩ := near3_iff.1 h
 unfold impl_area.f
 rw [(area_ok ha hb hc).1]
theorem sign_of (x : Int) : impl_signOf.f x = some (sgnI x) := by
 unfold impl_signOf.f cmp_Compare_int.f cmp_isNaN_int.f sgnI
 by_cases h : x < 0
 ·simp [h]
 ·by_cases h' : x > 0 <;> simp [h, h']
def turnP (a b c : IP) : Int := if near3 a b c = true then sgnI (areaP a b c) else 0
theorem near_3 (a b c : IP) : impl_areNear.f 1000 [a, b, c] = some (near3 a b c) := by
 rw [impl_near 1000 (by decide) (by decide)]
 simp [near3]
theorem impl_turn (a b c : IP) : impl_TurnOf.f a.f0 a.f1 b.f0 b.f1 c.f0 c.f1 = some (turnP a b c) := by
 unfold impl_TurnOf.f turnP
 have e : ([(⟨a.f0, a.f1⟩ : IP), (⟨b.f0, b.f1⟩ : IP), (⟨c.f0, c.f1⟩ : IP)] : List IP) = [a, b, c] := rfl
 rw [e, near_3]
 by_cases h : near3 a b c = true
 ·simp only [Option.bind_some, h, if_true]
  rw [impl_area h]
  simp only [Option.bind_some]
  rw [sign_of]
  rfl
 ·simp [h]
def pt (l : List IP) (i : Nat) : IP := rd_T55 l (i : Int)
theorem pt_eq {l : List IP} {i : Nat} (h : i < l.length) : pt l i = l[i] := rdIP h
def flatQ (l : List IP) (q : Nat × Nat × Nat) : Bool := decide (areaP (pt l q.1) (pt l q.2.1) (pt l q.2.2) = 0)
def arePts (l : List IP) : Bool := (decide (3 ≤ l.length) && decide (l.length ≤ 7)) && (l.all (nearP 50) && !((tripsL l.length).any (flatQ l)))
theorem near_wide {p : IP} (h : nearP 50 p = true) : nearP 1000 p = true := by
 rw [nearP_iff] at h ⊢
 omega
theorem arePts_iff {l : List IP} : arePts l = true ↔ (3 ≤ l.length ∧ l.length ≤ 7) ∧ (∀ p ∈ l, nearP 50 p = true) ∧ ∀ a b c, a < b → b < c → c < l.length → areaP (pt l a) (pt l b) (pt l c) ≠ 0 := by
 unfold arePts
 simp only [Bool.and_eq_true, decide_eq_true_eq, List.all_eq_true, Bool.not_eq_true', List.any_eq_false, flatQ]
 constructor
 ·rintro ⟨h1, h2, h3⟩
  exact ⟨h1, h2, fun a b c hab hbc hc => h3 (a, b, c) (trips_mem hab hbc hc)⟩
 ·rintro ⟨h1, h2, h3⟩
  exact ⟨h1, h2, fun ⟨a, b, c⟩ hq => h3 a b c (mem_trips hq).1 (mem_trips hq).2.1 (mem_trips hq).2.2⟩
theorem pts_near3 {l : List IP} (h : l.all (nearP 50) = true) {a b c : Nat} (ha : a < l.length) (hb : b < l.length) (hc : c < l.length) : near3 (pt l a) (pt l b) (pt l c) = true := by
 have key : ∀ {i : Nat}, i < l.length → nearP 1000 (pt l i) = true := fun {i} hi => by
  rw [pt_eq hi]
  exact near_wide (List.all_eq_true.1 h _ (List.getElem_mem hi))
 exact near3_iff.2 ⟨key ha, key hb, key hc⟩
theorem spec_inPts (x lo hi : Int) : spec_l1In.f x lo hi = some (decide (lo ≤ x) && decide (x ≤ hi)) := by
 unfold spec_l1In.f
 by_cases h : x ≥ lo
 ·rw [if_pos h, decide_eq_true (show lo ≤ x from h), Bool.true_and]
 ·rw [if_neg h, decide_eq_false (show ¬ lo ≤ x from h), Bool.false_and]
def offPts (l : List IP) (k : Nat) : Bool := !nearP 50 (pt l k) || (List.range' 0 (k - 0)).any fun j => (List.range' 0 (j - 0)).any fun i => flatQ l (i, j, k)
theorem offPts_any (l : List IP) : (!((List.range' 0 (l.length - 0)).any (offPts l))) = (l.all (nearP 50) && !((tripsL l.length).any (flatQ l))) := by
 rw [Bool.eq_iff_iff]
 simp only [Bool.not_eq_true', List.any_eq_false, Bool.and_eq_true, List.all_eq_true, offPts, Bool.or_eq_true, not_or, Bool.not_eq_false, List.any_eq_true, not_exists, not_and, List.mem_range'_1]
 constructor
 ·intro h
  refine ⟨fun p hp => ?_, fun ⟨a, b, c⟩ hq => ?_⟩
  ·obtain ⟨i, hi, rfl⟩ := List.getElem_of_mem hp
   have := (h i (by omega)).1
   rw [pt_eq hi] at this
   simpa using this
  ·obtain ⟨h1, h2, h3⟩ := mem_trips hq
   exact (h c (by omega)).2 b (by omega) a (by omega)
 ·rintro ⟨h1, h2⟩ k hk
  refine ⟨?_, fun j hj i hi => h2 (i, j, k) (trips_mem (by omega) (by omega) (by omega))⟩
  rw [pt_eq (show k < l.length by omega)]
  simpa using h1 _ (List.getElem_mem _)
theorem spec_arePts (l : List IP) (hl : l.length ≤ 10000000) : Ev (fun q => spec_ArePoints.f q l) (arePts l) := by
 unfold spec_ArePoints.f
 refine ev_call (spec_inPts _ _ _) ?_
 by_cases hn : 3 ≤ l.length ∧ l.length ≤ 7
 ·refine ev_pos (by simp; omega) (ev_cast ?_ (show (!((List.range' 0 (l.length - 0)).any (offPts l))) = arePts l from ?_))
  ·have key := loop_up' (σ := Unit) (ρ := Bool) (lo := 0) (n := l.length) (K := fun _ _ => some true) (L := fun x _ q => spec_ArePoints.l0 q l x) (fun k _ => ∀ i, i < k → nearP 50 (pt l i) = true) (fun _ k => if offPts l k then .error false else .ok ()) (fun u _ => ?_) (fun k _ hk u hI => ?_) (fun k _ hk u hI u' e => ?_) (by omega) () (fun i hi => absurd hi (Nat.not_lt_zero _))
   ·rw [foldlM_any (offPts l)] at key
    cases hq : (List.range' 0 (l.length - 0)).any (offPts l) with
    | true => rw [hq] at key; exact key
    | false => rw [hq] at key; exact key _ (Ev.now _)
   ·refine Goes.step ?_
    simp only [spec_ArePoints.l0]
    exact Goes.neg (by omega) (Goes.ok (K := fun _ _ => some true) u)
   ·refine Goes.step ?_
    simp only [spec_ArePoints.l0]
    refine Goes.pos (by omega) (Goes.pos (by omega) (Goes.call (spec_fits (pt l k) 50 (by decide) (by decide)) ?_))
    cases hf : nearP 50 (pt l k) with
    | false => exact Goes.neg (by decide) (Goes.cast (Goes.ret _) (by simp [offPts, hf]))
    | true =>
     refine Goes.pos rfl ?_
     have one := loop_up (σ := Unit) (ρ := Bool) (lo := 0) (n := k) (K := fun _ q => spec_ArePoints.l0 q l ((k + 1 : Nat) : Int)) (L := fun x _ q => spec_ArePoints.l1 q l (k : Int) x) (fun _ j => if (List.range' 0 (j - 0)).any (fun i => flatQ l (i, j, k)) then .error false else .ok ()) (fun u => ?_) (fun j _ hj u => ?_) (by omega) ()
     ·rw [foldlM_any (fun j => (List.range' 0 (j - 0)).any fun i => flatQ l (i, j, k))] at one
      refine one.cast ?_
      simp [offPts, hf]
     ·refine Goes.step ?_
      simp only [spec_ArePoints.l1]
      rw [wrap_id (by omega) (by omega)]
      exact Goes.neg (by omega) (Goes.ok (K := fun (_ : Unit) q => spec_ArePoints.l0 q l ((k + 1 : Nat) : Int)) u)
     ·refine Goes.step ?_
      simp only [spec_ArePoints.l1]
      refine Goes.pos (by omega) ?_
      have two := loop_up (σ := Unit) (ρ := Bool) (lo := 0) (n := j) (K := fun _ q => spec_ArePoints.l1 q l (k : Int) ((j + 1 : Nat) : Int)) (L := fun x _ q => spec_ArePoints.l2 q l (k : Int) (j : Int) x) (fun _ i => if flatQ l (i, j, k) then .error false else .ok ()) (fun u => ?_) (fun i _ hi u => ?_) (by omega) ()
      ·rw [foldlM_any (fun i => flatQ l (i, j, k))] at two
       exact two
      ·refine Goes.step ?_
       simp only [spec_ArePoints.l2]
       rw [wrap_id (by omega) (by omega)]
       exact Goes.neg (by omega) (Goes.ok (K := fun (_ : Unit) q => spec_ArePoints.l1 q l (k : Int) ((j + 1 : Nat) : Int)) u)
      ·refine Goes.step ?_
       simp only [spec_ArePoints.l2]
       rw [wrap_id (x := (i : Int) + 1) (by omega) (by omega)]
       refine Goes.pos (by omega) (Goes.pos (by omega) (Goes.pos (by omega) (Goes.pos (by omega) (Goes.pos (by omega) (Goes.pos (by omega) (Goes.pos (by omega) ?_))))))
       have nn : ∀ x, x ≤ k → nearP 1000 (pt l x) = true := fun x hx => by
        by_cases e : x = k
        ·subst e; exact near_wide hf
        ·exact near_wide (hI x (by omega))
       refine Goes.call (spec_area (a := pt l i) (b := pt l j) (c := pt l k) (near3_iff.2 ⟨nn i (by omega), nn j (by omega), nn k (by omega)⟩)) ?_
       by_cases g : areaP (pt l i) (pt l j) (pt l k) = 0
       ·exact Goes.pos g (Goes.cast (Goes.ret _) (by simp [flatQ, g]))
       ·exact Goes.neg g (Goes.cast (Goes.ok (K := fun (_ : Unit) q => spec_ArePoints.l2 q l (k : Int) (j : Int) ((i + 1 : Nat) : Int)) u) (by simp [flatQ, g]))
   ·intro i hi
    by_cases ei : i = k
    ·subst ei
     cases hf : nearP 50 (pt l i) with
     | true => rfl
     | false => simp [offPts, hf] at e
    ·exact hI i (by omega)
  ·unfold arePts
   rw [offPts_any]
   simp [hn.1, hn.2]
 ·refine ev_neg (by simp; omega) (ev_cast (Ev.now _) ?_)
  unfold arePts
  have : (decide (3 ≤ l.length) && decide (l.length ≤ 7)) = false := by simp; omega
  rw [this]
  rfl
theorem impl_arePts (l : List IP) (hl : l.length ≤ 10000000) : Ev (fun q => impl_ArePoints.f q l) (arePts l) := by
 unfold impl_ArePoints.f
 have no : (decide (3 ≤ l.length) && decide (l.length ≤ 7)) = false → Ev (fun q => impl_ArePoints.j0 q l true) (arePts l) := fun h => by
  refine ev_step ?_
  simp only [impl_ArePoints.j0]
  refine ev_pos (by trivial) (ev_cast (Ev.now _) ?_)
  unfold arePts
  rw [h]
  rfl
 by_cases h3 : (l.length : Int) < 3
 ·exact ev_pos h3 (no (by simp; omega))
 refine ev_neg h3 ?_
 by_cases h7 : (l.length : Int) > 7
 ·exact ev_pos h7 (no (by simp; omega))
 refine ev_neg h7 (ev_call (impl_near 50 (by decide) (by decide) l) (ev_step ?_))
 simp only [impl_ArePoints.j0]
 have e0 : (decide (3 ≤ l.length) && decide (l.length ≤ 7)) = true := by simp; omega
 unfold arePts
 rw [e0, Bool.true_and]
 cases hn : l.all (nearP 50) with
 | false => exact ev_pos (by trivial) (Ev.now _)
 | true =>
  refine ev_neg (by decide) (Ev.bind (triples_ev (n := l.length) (by omega) (by omega)) ?_)
  rw [Bool.true_and]
  have eT := tripN_L (n := l.length) (by omega) (by omega)
  have lT := trip_len (n := l.length) (by omega) (by omega)
  have el : (tripN l.length).length = (tripsL l.length).length := by rw [eT, List.length_map]
  have key := loop_up (σ := Unit) (ρ := Bool) (lo := 0) (n := (tripN l.length).length) (K := fun _ _ => some true) (L := fun x _ q => impl_ArePoints.l0 q l (tripN l.length) ((tripN l.length).length : Int) x)
   (fun _ i => if flatQ l ((tripsL l.length).getD i (0, 0, 0)) then .error false else .ok ()) (fun u => ?_) (fun i _ hi u => ?_) (by omega) ()
  ·rw [el, foldlM_index (0, 0, 0) (fun (_ : Unit) q => if flatQ l q then (.error false : Except Bool Unit) else .ok ()), foldlM_any (flatQ l)] at key
   rw [el]
   cases hq : (tripsL l.length).any (flatQ l) with
   | true => rw [hq] at key; exact key
   | false => rw [hq] at key; exact key _ (Ev.now _)
  ·refine Goes.step ?_
   simp only [impl_ArePoints.l0]
   exact Goes.neg (by omega) (Goes.ok (K := fun _ _ => some true) u)
  ·obtain ⟨a, b, c, e, hab, hbc, hc⟩ := trip_pos (n := l.length) (by omega) (by omega) hi
   have eq : (tripsL l.length).getD i (0, 0, 0) = (a, b, c) := by
    have hi' : i < (tripsL l.length).length := by omega
    rw [List.getD_eq_getElem?_getD, List.getElem?_eq_getElem hi']
    simp only [eT, List.getElem_map] at e
    show (tripsL l.length)[i] = _
    generalize (tripsL l.length)[i] = z at e
    obtain ⟨x, y, w⟩ := z
    simp only at e
    injection e with e1 e2 e3
    rw [Int.ofNat_inj.1 e1, Int.ofNat_inj.1 e2, Int.ofNat_inj.1 e3]
   refine Goes.step ?_
   simp only [impl_ArePoints.l0, rd_trip hi, e]
   refine Goes.pos (by omega) (Goes.pos (by omega) (Goes.pos (by omega) (Goes.pos (by omega) (Goes.pos (by omega) (Goes.pos (by omega) (Goes.pos (by omega) (Goes.pos (by omega) (Goes.pos (by omega) (Goes.call (impl_turn (pt l a) (pt l b) (pt l c)) ?_)))))))))
   have n3 := pts_near3 hn (show a < l.length by omega) (show b < l.length by omega) hc
   have et : turnP (pt l a) (pt l b) (pt l c) = sgnI (areaP (pt l a) (pt l b) (pt l c)) := if_pos n3
   rw [et, eq, wrap_id (by omega) (by omega)]
   by_cases g : areaP (pt l a) (pt l b) (pt l c) = 0
   ·exact Goes.pos (by rw [g]; rfl) (Goes.cast (Goes.ret _) (by simp [flatQ, g]))
   ·refine Goes.neg ?_ (Goes.cast (Goes.ok (K := fun (_ : Unit) q => impl_ArePoints.l0 q l (tripN l.length) ((tripN l.length).length : Int) ((i + 1 : Nat) : Int)) u) (by simp [flatQ, g]))
    unfold sgnI
    split
    ·decide
    ·rw [if_pos (by omega)]; decide
end Go.Proofs.YthhgcdfdjlijjaaDoor.M
namespace Go.Proofs.YthhgcdfdjlijjaaDoor.M
open Go.RowKit Go.Proofs.YthhgcdfdjlijjaaDoorW.PrintWords Go.Proofs.YthhgcdfdjlijjaaDoor.PX Go.Proofs.YthhgcdfdjlijjaaDoor.G Go.Proofs.YthhgcdfdjlijjaaDoorW.PrintMore
open Go.Lib (decDigits itoa parseUint10 parseMag atoiAll)
theorem dec_one {u : Nat} (h : u < 10) : decDigits u = [UInt8.ofNat (48 + u)] := by rw [decDigits, dif_pos h]
theorem dec_step {u : Nat} (h : ¬ u < 10) : decDigits u = decDigits (u / 10) ++ [UInt8.ofNat (48 + u % 10)] := by rw [decDigits, dif_neg h]
theorem dig_nat {d : Nat} (h : d < 10) : (UInt8.ofNat (48 + d)).toNat = 48 + d := by
 rw [UInt8.toNat_ofNat']
 exact Nat.mod_eq_of_lt (by omega)
theorem dec_len (d : Nat) : ∀ u, u < 10 ^ (d + 1) → (decDigits u).length ≤ d + 1 := by
 induction d with
 | zero => intro u h; rw [dec_one (by simpa using h)]; exact Nat.le_refl _
 | succ d ih =>
  intro u h
  by_cases g : u < 10
  ·rw [dec_one g, List.length_singleton]; omega
  ·have := ih (u / 10) (by rw [Nat.pow_succ] at h; omega)
   rw [dec_step g, List.length_append, List.length_singleton]; omega
theorem dec_pos (u : Nat) : 1 ≤ (decDigits u).length := by
 by_cases g : u < 10
 ·rw [dec_one g]; exact Nat.le_refl _
 ·rw [dec_step g, List.length_append, List.length_singleton]; omega
theorem dec_dig (d : Nat) : ∀ u, u < 10 ^ (d + 1) → ∀ c ∈ decDigits u, 48 ≤ c.toNat ∧ c.toNat ≤ 57 := by
 induction d with
 | zero =>
  intro u h c hc
  have h : u < 10 := by simpa using h
  rw [dec_one h, List.mem_singleton] at hc
  rw [hc, dig_nat h]
  omega
 | succ d ih =>
  intro u h c hc
  by_cases g : u < 10
  ·rw [dec_one g, List.mem_singleton] at hc
   rw [hc, dig_nat g]
   omega
  ·rw [dec_step g, List.mem_append, List.mem_singleton] at hc
   rcases hc with hc | hc
   ·exact ih (u / 10) (by rw [Nat.pow_succ] at h; omega) c hc
   ·rw [hc, dig_nat (Nat.mod_lt _ (by omega))]
    have := Nat.mod_lt u (show 0 < 10 by omega)
    omega
/-! ### the library's reading -/
theorem parse_app (l r : List UInt8) : ∀ acc a, parseUint10 acc l = .ok a → parseUint10 acc (l ++ r) = parseUint10 a r := by
 induction l with
 | nil => intro acc a h; simp only [parseUint10] at h; cases h; rfl
 | cons c l ih =>
  intro acc a h
  simp only [parseUint10, List.cons_append] at h ⊢
  split at h
  ·rename_i h1
   rw [if_pos h1]
   split at h
   ·cases h
   ·rename_i h2
    rw [if_neg h2]
    split at h
    ·cases h
    ·rename_i h3
     rw [if_neg h3]
     exact ih _ _ h
  ·cases h
theorem parse_dec (d : Nat) : ∀ u, u < 10 ^ (d + 1) → u < 18446744073709551616 → parseUint10 0 (decDigits u) = .ok u := by
 have one : ∀ a x : Nat, x < 10 → a < 1844674407370955162 → a * 10 + x < 18446744073709551616 → parseUint10 a [UInt8.ofNat (48 + x)] = .ok (a * 10 + x) := by
  intro a x hx h1 h2
  simp only [parseUint10, dig_nat hx]
  rw [if_pos (by omega), if_neg (by omega), if_neg (by omega)]
  congr 1
  omega
 induction d with
 | zero =>
  intro u h _
  have h : u < 10 := by simpa using h
  rw [dec_one h, one 0 u h (by omega) (by omega), Nat.zero_mul, Nat.zero_add]
 | succ d ih =>
  intro u h h2
  by_cases g : u < 10
  ·rw [dec_one g, one 0 u g (by omega) (by omega), Nat.zero_mul, Nat.zero_add]
  ·rw [dec_step g, parse_app _ _ _ _ (ih (u / 10) (by rw [Nat.pow_succ] at h; omega) (by omega)), one (u / 10) (u % 10) (Nat.mod_lt _ (by omega)) (by omega) (by omega)]
   congr 1
   omega
theorem dec_ne (u : Nat) : decDigits u ≠ [] := fun h => by have := dec_pos u; rw [h] at this; exact absurd this (by decide)
theorem big20 {u : Nat} (h : u < 18446744073709551616) : u < 10 ^ (19 + 1) := by omega
theorem mag_dec {u : Nat} (h : u < 18446744073709551616) : parseMag (decDigits u) = .ok u := by
 unfold parseMag
 rw [if_neg (dec_ne u)]
 exact parse_dec 19 u (big20 h) h
theorem dec_head {u : Nat} (h : u < 18446744073709551616) : ∃ c r, decDigits u = c :: r ∧ 48 ≤ c.toNat ∧ c.toNat ≤ 57 := by
 cases e : decDigits u with
 | nil => exact absurd e (dec_ne u)
 | cons c r =>
  have := dec_dig 19 u (big20 h) c (by rw [e]; exact List.mem_cons_self)
  exact ⟨c, r, rfl, this⟩
theorem atoi_itoa {n : Int} (h0 : -9223372036854775808 ≤ n) (h1 : n ≤ 9223372036854775807) : atoiAll (itoa n) = .ok n := by
 unfold itoa
 by_cases g : n < 0
 ·rw [if_pos g, Lib.atoiAll_minus, mag_dec (by omega)]
  unfold Lib.signed
  simp only
  rw [if_neg (by omega)]
  congr 1
  omega
 ·rw [if_neg g]
  obtain ⟨c, r, e, c1, c2⟩ := dec_head (u := n.toNat) (by omega)
  have hm := mag_dec (u := n.toNat) (by omega)
  rw [e] at hm ⊢
  rw [Lib.atoiAll_plain c r (by omega) (by omega), hm]
  unfold Lib.signless
  simp only
  rw [if_neg (by omega)]
  congr 1
  omega
theorem itoaB_data (n : Int) : (itoaB n).data.toList = itoa n := rfl
/-! ### the reference's text -/
theorem app_list (a b : List UInt8) : (⟨a.toArray⟩ : ByteArray) ++ ⟨b.toArray⟩ = ⟨(a ++ b).toArray⟩ := by
 apply ByteArray.ext
 simp
theorem fmt_loop (neg : Bool) (d : Nat) : ∀ (x : Int) (l : List UInt8), x.natAbs < 10 ^ d → l.length + d ≤ 1000 → -9223372036854775808 ≤ x → x ≤ 9223372036854775807 →
  Ev (fun k => spec_FormatInt.l0 k x neg ⟨l.toArray⟩) ⟨((if neg = true then [45] else []) ++ ((if x = 0 then [] else decDigits x.natAbs) ++ l)).toArray⟩ := by
 have exit : ∀ (l : List UInt8), l.length ≤ 1000 → Ev (fun k => spec_FormatInt.l0 k 0 neg ⟨l.toArray⟩) ⟨((if neg = true then [45] else []) ++ ((if (0 : Int) = 0 then [] else decDigits (0 : Int).natAbs) ++ l)).toArray⟩ := by
  intro l hl
  refine ev_step ?_
  simp only [spec_FormatInt.l0]
  refine ev_pos (by first | rfl | trivial) ?_
  cases neg with
  | true =>
   refine ev_pos (by first | rfl | trivial) (ev_pos ?_ (ev_cast (Ev.now _) ?_))
   ·show 1 + l.length ≤ _
    omega
   ·exact app_list [45] l
  | false => exact ev_neg (by simp) (Ev.now _)
 induction d with
 | zero =>
  intro x l hx hl _ _
  have : x = 0 := by simp at hx; exact hx
  subst this
  exact exit l (by omega)
 | succ d ih =>
  intro x l hx hl h0 h1
  by_cases g : x = 0
  ·subst g
   exact exit l (by omega)
  ·have ml := Nat.mod_lt x.natAbs (show 0 < 10 by omega)
   have td : (Int.tdiv x 10).natAbs = x.natAbs / 10 := by
    rcases Int.natAbs_eq x with e | e
    ·rw [e]; exact Int.natAbs_natCast _
    ·rw [e, Int.neg_tdiv, Int.natAbs_neg, Int.natAbs_neg]; exact Int.natAbs_natCast _
   have tm : Int.tmod x 10 = if x < 0 then -((x.natAbs % 10 : Nat) : Int) else ((x.natAbs % 10 : Nat) : Int) := by
    rcases Int.natAbs_eq x with e | e
    ·rw [if_neg (by omega)]
     conv => lhs; rw [e]
     rfl
    ·rw [if_pos (by omega)]
     conv => lhs; rw [e, Int.neg_tmod]
     rfl
   have tz : Int.tdiv x 10 = 0 ↔ x.natAbs < 10 := by omega
   have tb : -9223372036854775808 ≤ Int.tdiv x 10 ∧ Int.tdiv x 10 ≤ 9223372036854775807 := by
    have : x.natAbs ≤ 9223372036854775808 := by omega
    omega
   have nx := ih (Int.tdiv x 10) (UInt8.ofNat (48 + x.natAbs % 10) :: l) (by rw [td]; rw [Nat.pow_succ] at hx; omega) (by rw [List.length_cons]; omega) tb.1 tb.2
   have fin : ((if neg = true then [45] else []) ++ ((if Int.tdiv x 10 = 0 then [] else decDigits (Int.tdiv x 10).natAbs) ++ UInt8.ofNat (48 + x.natAbs % 10) :: l) : List UInt8) = (if neg = true then [45] else []) ++ ((if x = 0 then [] else decDigits x.natAbs) ++ l) := by
    rw [if_neg g, td]
    by_cases s : x.natAbs < 10
    ·rw [if_pos (tz.2 s), dec_one s, Nat.mod_eq_of_lt s]
     rfl
    ·rw [if_neg (fun e => s (tz.1 e)), dec_step s, List.append_assoc]
     rfl
   rw [fin] at nx
   have go : ∀ y : Int, y = 48 + ((x.natAbs % 10 : Nat) : Int) → Ev (fun k => (some (([y % 256] : List Int) : List Int)).bind fun y101 => (if (strOfNums y101).size + (⟨l.toArray⟩ : ByteArray).size ≤ 9223372036854775807 then (spec_FormatInt.l0 k (wrap64 (Int.tdiv x 10)) neg ((strOfNums y101) ++ ⟨l.toArray⟩)) else (none)))
     ⟨((if neg = true then [45] else []) ++ ((if x = 0 then [] else decDigits x.natAbs) ++ l)).toArray⟩ := by
    intro y hy
    have e : y % 256 = ((48 + x.natAbs % 10 : Nat) : Int) := by omega
    rw [e]
    refine ev_call rfl (ev_pos ?_ ?_)
    ·show 1 + l.length ≤ _
     omega
    ·rw [wrap_id tb.1 tb.2]
     have e2 : strOfNums [((48 + x.natAbs % 10 : Nat) : Int)] ++ (⟨l.toArray⟩ : ByteArray) = ⟨(UInt8.ofNat (48 + x.natAbs % 10) :: l).toArray⟩ := app_list [UInt8.ofNat (48 + x.natAbs % 10)] l
     rw [e2]
     exact nx
   refine ev_step ?_
   simp only [spec_FormatInt.l0]
   refine ev_neg g ?_
   by_cases s : Int.tmod x 10 < 0
   ·refine ev_pos s (go _ ?_)
    rw [tm] at s ⊢
    split at s
    ·rename_i s'
     rw [if_pos s', wrap_id (x := -(-((x.natAbs % 10 : Nat) : Int))) (by omega) (by omega), wrap_id (by omega) (by omega)]
     omega
    ·omega
   ·refine ev_neg s (go _ ?_)
    rw [tm] at s ⊢
    split at s
    ·rename_i s'
     rw [if_pos s', wrap_id (by omega) (by omega)]
     omega
    ·rename_i s'
     rw [if_neg s', wrap_id (by omega) (by omega)]
theorem spec_fmt {n : Int} (h0 : -9223372036854775808 ≤ n) (h1 : n ≤ 9223372036854775807) : Ev (fun k => spec_FormatInt.f k n) (itoaB n) := by
 unfold spec_FormatInt.f
 by_cases g : n = 0
 ·subst g
  exact ev_pos rfl (ev_cast (Ev.now _) (show (⟨#[48]⟩ : ByteArray) = ⟨(decDigits 0).toArray⟩ by rw [dec_one (by decide)]; rfl))
 ·refine ev_neg g (ev_cast (fmt_loop (decide (n < 0)) 19 n [] (by omega) (by decide) h0 h1) ?_)
  unfold itoaB itoa
  rw [if_neg g, List.append_nil]
  by_cases s : n < 0
  ·rw [decide_eq_true s, if_pos rfl, if_pos s]
   rfl
  ·rw [decide_eq_false s, if_neg (by simp), if_neg s, show n.natAbs = n.toNat by omega]
   rfl
end Go.Proofs.YthhgcdfdjlijjaaDoor.M
namespace Go.Proofs.YthhgcdfdjlijjaaDoor.PX
open Go.RowKit Go.Proofs.YthhgcdfdjlijjaaDoor.G Go.Proofs.YthhgcdfdjlijjaaDoorW.PrintWords Go.Proofs.YthhgcdfdjlijjaaDoorW.PrintLast Go.Proofs.YthhgcdfdjlijjaaDoorW.PrintMore
attribute [local go_sem] max2_int min2_int max_two min_two max_three min_three max_four min_four   -- for this text's walks alone
set_option linter.unusedVariables false
set_option linter.unusedSimpArgs false
/-! ### spec_ParseNumber: function 24 -/
/-! ### impl_ParseNumber: function 25 -/
end Go.Proofs.YthhgcdfdjlijjaaDoor.PX
namespace Go.Proofs.YthhgcdfdjlijjaaDoor.M
open Go.RowKit Go.Proofs.YthhgcdfdjlijjaaDoorW.PrintWords Go.Proofs.YthhgcdfdjlijjaaDoor.PX Go.Proofs.YthhgcdfdjlijjaaDoor.G Go.Proofs.YthhgcdfdjlijjaaDoorW.PrintMore
open Go.Lib (decDigits itoa parseUint10 parseMag atoiAll)
def valF : Nat → List UInt8 → Option Nat
 | acc, [] => some acc
 | acc, c :: r => if 48 ≤ c.toNat ∧ c.toNat ≤ 57 then valF (10 * acc + (c.toNat - 48)) r else none
theorem valF_app (l r : List UInt8) : ∀ acc a, valF acc l = some a → valF acc (l ++ r) = valF a r := by
 induction l with
 | nil => intro acc a h; simp only [valF, Option.some.injEq] at h; subst h; rfl
 | cons c l ih =>
  intro acc a h
  simp only [valF, List.cons_append] at h ⊢
  split at h
  ·rename_i h1
   rw [if_pos h1]
   exact ih _ _ h
  ·cases h
theorem valF_dec (d : Nat) : ∀ u, u < 10 ^ (d + 1) → valF 0 (decDigits u) = some u := by
 have one : ∀ a x : Nat, x < 10 → valF a [UInt8.ofNat (48 + x)] = some (10 * a + x) := by
  intro a x hx
  simp only [valF, dig_nat hx]
  rw [if_pos (by omega)]
  congr 1
  omega
 induction d with
 | zero =>
  intro u h
  have h : u < 10 := by simpa using h
  rw [dec_one h, one 0 u h, Nat.mul_zero, Nat.zero_add]
 | succ d ih =>
  intro u h
  by_cases g : u < 10
  ·rw [dec_one g, one 0 u g, Nat.mul_zero, Nat.zero_add]
  ·rw [dec_step g, valF_app _ _ _ _ (ih (u / 10) (by rw [Nat.pow_succ] at h; omega)), one (u / 10) (u % 10) (Nat.mod_lt _ (by omega))]
   congr 1
   omega
theorem valF_lt (l : List UInt8) : ∀ acc v m, valF acc l = some v → acc < 10 ^ m → v < 10 ^ (m + l.length) := by
 induction l with
 | nil => intro acc v m h ha; simp only [valF, Option.some.injEq] at h; subst h; exact ha
 | cons c l ih =>
  intro acc v m h ha
  simp only [valF] at h
  split at h
  ·have := ih _ v (m + 1) h (by rw [Nat.pow_succ]; omega)
   rw [List.length_cons, show m + (l.length + 1) = m + 1 + l.length by omega]
   exact this
  ·cases h
def readE (s : ByteArray) (neg : Bool) : Option Nat → Int × Bool
 | none => (0, false)
 | some v => if (itoaB (if neg = true then -(v : Int) else (v : Int))).toList = s.toList then ((if neg = true then -(v : Int) else (v : Int)), true) else (0, false)
def tailB (s : ByteArray) (neg : Bool) : ByteArray := if neg = true then s.extract 1 s.size else s
def negB (s : ByteArray) : Bool := decide (0 < s.size) && (bt s 0 == 45)
def readS (s : ByteArray) (m : Nat) : Int × Bool := if (tailB s (negB s)).size < 1 ∨ (tailB s (negB s)).size > m then (0, false) else readE s (negB s) (valF 0 (tailB s (negB s)).data.toList)
theorem p12 : ∀ i, i ≤ 12 → 10 ^ i ≤ 1000000000000 := fun i h => by
 have := Nat.pow_le_pow_right (n := 10) (by omega) h
 omega
theorem read_loop (s t : ByteArray) (neg : Bool) (ht : t.data.toList.length ≤ 12) (d : Nat) : ∀ i acc : Nat, i + d = t.data.toList.length → acc < 10 ^ i → Ev (fun k => spec_l1Read.l0 k s neg t (acc : Int) (i : Int)) (readE s neg (valF acc (t.data.toList.drop i))) := by
 induction d with
 | zero =>
  intro i acc hi ha
  have := p12 i (by omega)
  refine ev_step ?_
  simp only [spec_l1Read.l0]
  rw [List.drop_of_length_le (by omega)]
  refine ev_neg (by rw [size_list]; omega) ?_
  simp only [valF, readE]
  cases neg with
  | true =>
   simp only [if_true]
   rw [wrap_id (x := -(acc : Int)) (by omega) (by omega)]
   refine Ev.bind (spec_fmt (by omega) (by omega)) ?_
   by_cases g : (itoaB (-(acc : Int))).toList = s.toList
   ·exact ev_cast (ev_pos g (Ev.now _)) (if_pos g).symm
   ·exact ev_cast (ev_neg g (Ev.now _)) (if_neg g).symm
  | false =>
   simp only [Bool.false_eq_true, if_false]
   refine Ev.bind (spec_fmt (by omega) (by omega)) ?_
   by_cases g : (itoaB (acc : Int)).toList = s.toList
   ·exact ev_cast (ev_pos g (Ev.now _)) (if_pos g).symm
   ·exact ev_cast (ev_neg g (Ev.now _)) (if_neg g).symm
 | succ d ih =>
  intro i acc hi ha
  have hil : i < t.data.toList.length := by omega
  have pb := p12 i (by omega)
  have pb' := p12 (i + 1) (by omega)
  refine ev_step ?_
  simp only [spec_l1Read.l0]
  rw [List.drop_eq_getElem_cons hil, bt_nat hil]
  simp only [valF]
  have hc := UInt8.toNat_lt (t.data.toList[i])
  generalize t.data.toList[i] = c at hc
  refine ev_pos (by rw [size_list]; omega) (ev_pos (by omega) ?_)
  by_cases g1 : (c.toNat : Int) < 48
  ·rw [if_neg (by omega)]
   exact ev_pos g1 (Ev.now _)
  ·refine ev_neg g1 ?_
   by_cases g2 : (c.toNat : Int) > 57
   ·rw [if_neg (by omega)]
    exact ev_pos g2 (Ev.now _)
   ·rw [if_pos (by omega)]
    refine ev_neg g2 ?_
    have nx := ih (i + 1) (10 * acc + (c.toNat - 48)) (by omega) (by rw [Nat.pow_succ]; omega)
    rw [Nat.pow_succ] at pb'
    rw [wrap_id (x := 10 * (acc : Int)) (by omega) (by omega), wrap_id (x := 10 * (acc : Int) + ((c.toNat : Int) - 48) % 256) (by omega) (by omega), wrap_id (x := (i : Int) + 1) (by omega) (by omega), show 10 * (acc : Int) + ((c.toNat : Int) - 48) % 256 = ((10 * acc + (c.toNat - 48) : Nat) : Int) by omega]
    exact nx
theorem spec_read (s : ByteArray) (m : Nat) (hm : m ≤ 12) (hs : s.size ≤ 1048576) : Ev (fun k => spec_l1Read.f k s (m : Int)) (readS s m) := by
 have j2 : ∀ (neg : Bool) (t : ByteArray), t = tailB s neg → Ev (fun k => spec_l1Read.j1 k s (m : Int) neg t) (if t.size < 1 ∨ t.size > m then (0, false) else readE s neg (valF 0 t.data.toList)) := by
  intro neg t _
  have two : ∀ b : Bool, b = decide (t.size < 1 ∨ t.size > m) → Ev (fun k => spec_l1Read.j2 k s neg t b) (if t.size < 1 ∨ t.size > m then (0, false) else readE s neg (valF 0 t.data.toList)) := by
   intro b hb
   refine ev_step ?_
   simp only [spec_l1Read.j2]
   by_cases g : t.size < 1 ∨ t.size > m
   ·rw [if_pos g]
    rw [decide_eq_true g] at hb
    exact ev_pos hb (Ev.now _)
   ·rw [if_neg g]
    rw [decide_eq_false g] at hb
    refine ev_neg (by rw [hb]; simp) ?_
    have r := read_loop s t neg (by rw [← size_list]; omega) t.data.toList.length 0 0 (by omega) (by simp)
    rw [List.drop_zero] at r
    exact r
  refine ev_step ?_
  simp only [spec_l1Read.j1]
  by_cases g : t.size < 1
  ·exact ev_pos (by omega) (two true (by rw [decide_eq_true (Or.inl g)]))
  ·refine ev_neg (by omega) (two _ ?_)
   rw [decide_eq_decide]
   omega
 have j0 : ∀ neg : Bool, (neg = true → 0 < s.size) → Ev (fun k => spec_l1Read.j0 k s (m : Int) neg) (if (tailB s neg).size < 1 ∨ (tailB s neg).size > m then (0, false) else readE s neg (valF 0 (tailB s neg).data.toList)) := by
  intro neg hn
  refine ev_step ?_
  simp only [spec_l1Read.j0]
  cases neg with
  | true =>
   have := hn rfl
   exact ev_pos (by first | rfl | trivial) (ev_pos (by omega) (j2 true _ rfl))
  | false => exact ev_neg (by simp) (j2 false _ rfl)
 unfold spec_l1Read.f readS
 by_cases g : 0 < s.size
 ·have e : negB s = (bt s 0 == 45) := by unfold negB; rw [decide_eq_true g, Bool.true_and]
  rw [e]
  exact ev_pos (by omega) (ev_pos (by omega) (j0 _ fun _ => g))
 ·have e : negB s = false := by unfold negB; rw [decide_eq_false g, Bool.false_and]
  rw [e]
  exact ev_neg (by omega) (j0 false (by simp))
theorem toL_inj {a b : ByteArray} : a.toList = b.toList ↔ a = b := by
 constructor
 ·intro h
  rw [ByteArray.toList_eq, ByteArray.toList_eq] at h
  exact ByteArray.ext (Array.ext' h)
 ·rintro rfl; rfl
theorem tail_data {s : ByteArray} {c : UInt8} {r : List UInt8} (h : s.data.toList = c :: r) : (s.extract 1 s.size).data.toList = r := by
 rw [ByteArray.data_extract, Array.toList_extract, h, size_list, h]
 simp [List.extract]
theorem readS_of {v : Int} {m : Nat} (hm1 : 1 ≤ m) (hm : m ≤ 12) (hv : v.natAbs < 10 ^ m) : readS (itoaB v) m = (v, true) := by
 have pb := p12 m hm
 have hmp : m ≠ 0 := by omega
 obtain ⟨m', rfl⟩ := Nat.exists_eq_succ_of_ne_zero hmp
 have hl := dec_len m' v.natAbs hv
 have hp := dec_pos v.natAbs
 have hv' := valF_dec m' v.natAbs hv
 obtain ⟨c, r, e, c1, c2⟩ := dec_head (u := v.natAbs) (by omega)
 by_cases g : v < 0
 ·have d : (itoaB v).data.toList = 45 :: decDigits v.natAbs := by rw [itoaB_data]; unfold itoa; rw [if_pos g]
  have hz : 0 < (itoaB v).size := by rw [size_list, d]; simp
  have hn : negB (itoaB v) = true := by
   unfold negB
   rw [decide_eq_true hz, Bool.true_and, beq_iff_eq]
   have := bt_nat (t := itoaB v) (i := 0) (by rw [d]; simp)
   rw [show ((0 : Nat) : Int) = 0 from rfl] at this
   rw [this]
   simp [d]
  have ht : (tailB (itoaB v) true).data.toList = decDigits v.natAbs := by unfold tailB; rw [if_pos rfl]; exact tail_data d
  unfold readS
  rw [hn, size_list, ht, if_neg (by omega), hv']
  unfold readE
  simp only [if_true]
  rw [show -((v.natAbs : Nat) : Int) = v by omega, if_pos rfl]
 ·have d : (itoaB v).data.toList = decDigits v.natAbs := by rw [itoaB_data]; unfold itoa; rw [if_neg g, show v.toNat = v.natAbs by omega]
  have hn : negB (itoaB v) = false := by
   unfold negB
   rw [Bool.and_eq_false_iff]
   right
   have := bt_nat (t := itoaB v) (i := 0) (by rw [d]; omega)
   rw [show ((0 : Nat) : Int) = 0 from rfl] at this
   rw [this, beq_eq_false_iff_ne]
   have e2 : (itoaB v).data.toList[0]'(by rw [d]; omega) = c := by simp [d, e]
   rw [e2]
   omega
  have ht : (tailB (itoaB v) false).data.toList = decDigits v.natAbs := by unfold tailB; rw [if_neg (by simp)]; exact d
  unfold readS
  rw [hn, size_list, ht, if_neg (by omega), hv']
  unfold readE
  simp only [Bool.false_eq_true, if_false]
  rw [show ((v.natAbs : Nat) : Int) = v by omega, if_pos rfl]
theorem readS_not {s : ByteArray} {m : Nat} (h : ∀ v : Int, v.natAbs < 10 ^ m → itoaB v ≠ s) : readS s m = (0, false) := by
 unfold readS
 by_cases g : (tailB s (negB s)).size < 1 ∨ (tailB s (negB s)).size > m
 ·rw [if_pos g]
 ·rw [if_neg g]
  cases e : valF 0 (tailB s (negB s)).data.toList with
  | none => rfl
  | some v =>
   have hv := valF_lt _ 0 v 0 e (by decide)
   rw [← size_list, Nat.zero_add] at hv
   have hv2 : v < 10 ^ m := Nat.lt_of_lt_of_le hv (Nat.pow_le_pow_right (by omega) (by omega))
   simp only [readE]
   rw [if_neg]
   rw [toL_inj]
   refine h _ ?_
   split <;> omega
theorem whole_of {v least most : Int} (h0 : -9223372036854775808 ≤ v) (h1 : v ≤ 9223372036854775807) (g0 : least ≤ v) (g1 : v ≤ most) (hs : (itoaB v).size ≤ 1048576) : impl_whole.f (itoaB v) least most = some (v, true) := by
 unfold impl_whole.f
 rw [if_pos (by omega), itoaB_data, atoi_itoa h0 h1]
 simp only
 rw [if_neg (by omega), if_neg (by omega), if_pos trivial]
theorem whole_not {s : ByteArray} {least most : Int} (hs : s.size ≤ 1048576) (h : ∀ v : Int, -9223372036854775808 ≤ v → v ≤ 9223372036854775807 → least ≤ v → v ≤ most → itoaB v ≠ s) : impl_whole.f s least most = some (0, false) := by
 unfold impl_whole.f
 rw [if_pos (by omega)]
 cases e : atoiAll s.data.toList
 ·rename_i v
  have vb := Lib.atoiAll_bounds e
  simp only
  by_cases c1 : v < least
  ·rw [if_pos c1]
  ·rw [if_neg c1]
   by_cases c2 : v > most
   ·rw [if_pos c2]
   ·rw [if_neg c2, if_neg]
    rw [toL_inj]
    exact h v vb.1 vb.2 (by omega) (by omega)
 ·rfl
 ·rfl
noncomputable def intA (s : ByteArray) : Int × Bool := readS s 12
theorem impl_int (s : ByteArray) (hs : s.size ≤ 1048576) : impl_ParseInt.f s = some (intA s) := by
 unfold impl_ParseInt.f intA
 by_cases h : ∃ v : Int, v.natAbs < 10 ^ 12 ∧ itoaB v = s
 ·obtain ⟨v, hv, rfl⟩ := h
  rw [whole_of (by omega) (by omega) (by omega) (by omega) hs, readS_of (by omega) (by omega) hv]
  rfl
 ·rw [whole_not hs fun v _ _ h1 h2 e => h ⟨v, by omega, e⟩, readS_not fun v hv e => h ⟨v, hv, e⟩]
  rfl
theorem spec_int (s : ByteArray) (hs : s.size ≤ 1048576) : Ev (fun k => spec_ParseInt.f k s) (intA s) := by
 unfold spec_ParseInt.f intA
 exact Ev.bind (spec_read s 12 (by omega) hs) (Ev.now _)
end Go.Proofs.YthhgcdfdjlijjaaDoor.M
namespace Go.Proofs.YthhgcdfdjlijjaaDoor.PX
open Go.RowKit Go.Proofs.YthhgcdfdjlijjaaDoor.G Go.Proofs.YthhgcdfdjlijjaaDoorW.PrintWords Go.Proofs.YthhgcdfdjlijjaaDoorW.PrintLast Go.Proofs.YthhgcdfdjlijjaaDoorW.PrintMore
attribute [local go_sem] max2_int min2_int max_two min_two max_three min_three max_four min_four   -- for this text's walks alone
set_option linter.unusedVariables false
set_option linter.unusedSimpArgs false
/-! ### spec_AreSigns: function 37 -/
/-! ### impl_AreSigns: function 38 -/
end Go.Proofs.YthhgcdfdjlijjaaDoor.PX
namespace Go.Proofs.YthhgcdfdjlijjaaDoor.M
open Go.RowKit Go.Proofs.YthhgcdfdjlijjaaDoorW.PrintWords Go.Proofs.YthhgcdfdjlijjaaDoor.PX
def splitG (t : ByteArray) (by_ : Int) (s : List ByteArray × Nat) (i : Nat) : List ByteArray × Nat := if i = t.size ∨ bt t (i : Int) = by_ then (s.1 ++ [t.extract s.2 i], i + 1) else s
def splitP (t : ByteArray) (by_ : Int) : List ByteArray := ((List.range' 0 (t.size + 1)).foldl (splitG t by_) ([], 0)).1
theorem splitG_ok {t : ByteArray} {by_ : Int} {s : List ByteArray × Nat} {i : Nat} (h : s.1.length ≤ i ∧ s.2 ≤ i) : (splitG t by_ s i).1.length ≤ i + 1 ∧ (splitG t by_ s i).2 ≤ i + 1 := by
 unfold splitG
 split
 ·simp only [List.length_append, List.length_singleton]; omega
 ·omega
theorem splitP_length (t : ByteArray) (by_ : Int) : (splitP t by_).length ≤ t.size + 1 := by
 have key : ∀ d i s, (s : List ByteArray × Nat).1.length ≤ i ∧ s.2 ≤ i → ((List.range' i d).foldl (splitG t by_) s).1.length ≤ i + d := by
  intro d
  induction d with
  | zero => intro i s h; exact h.1
  | succ d ih =>
   intro i s h
   rw [List.range'_succ, List.foldl_cons]
   have := ih (i + 1) _ (splitG_ok (t := t) (by_ := by_) h)
   omega
 have := key (t.size + 1) 0 ([], 0) ⟨Nat.le_refl _, Nat.le_refl _⟩
 unfold splitP
 omega
theorem impl_splitB (t : ByteArray) (by_ : Int) (ht : t.size ≤ 1048576) : Ev (fun k => impl_SplitByte.f k t by_) (splitP t by_) := by
 unfold impl_SplitByte.f
 have key := loop_up' (σ := List ByteArray × Nat) (ρ := List ByteArray) (lo := 0) (n := t.size + 1) (K := fun s _ => some s.1) (L := fun x s k => impl_SplitByte.l0 k t by_ s.1 (s.2 : Int) x) (fun x s => s.1.length ≤ x ∧ s.2 ≤ x)
  (fun s x => .ok (splitG t by_ s x)) (fun s _ => ?_) (fun x _ hx s hs => ?_) (fun x _ hx s hs s' e => ?_) (by omega) ([], 0) ⟨Nat.le_refl _, Nat.le_refl _⟩
 ·rw [foldlM_ok, Nat.sub_zero] at key
  exact key _ (Ev.now _)
 ·refine Goes.step ?_
  simp only [impl_SplitByte.l0]
  exact Goes.neg (by omega) (Goes.ok (K := fun s _ => some s.1) s)
 ·have cut : Goes (.ok (s.1 ++ [t.extract s.2 x], x + 1)) (fun (s : List ByteArray × Nat) k => impl_SplitByte.l0 k t by_ s.1 (s.2 : Int) ((x + 1 : Nat) : Int))
    (fun k => if 0 ≤ (s.2 : Int) then (if (s.2 : Int) ≤ (x : Int) then (if s.1.length < 8796093022208 then (impl_SplitByte.l0 k t by_ (s.1 ++ [t.extract (s.2 : Int).toNat (x : Int).toNat]) (wrap64 ((x : Int) + 1)) (wrap64 ((x : Int) + 1))) else none) else none) else none) := by
   rw [wrap_id (x := (x : Int) + 1) (by omega) (by omega), Int.toNat_natCast, Int.toNat_natCast]
   exact Goes.pos (by omega) (Goes.pos (by omega) (Goes.pos (by omega) (Goes.ok (K := fun (s : List ByteArray × Nat) k => impl_SplitByte.l0 k t by_ s.1 (s.2 : Int) ((x + 1 : Nat) : Int)) (s.1 ++ [t.extract s.2 x], x + 1))))
  refine Goes.step ?_
  simp only [impl_SplitByte.l0]
  refine Goes.pos (by omega) ?_
  unfold splitG
  by_cases e1 : x = t.size
  ·rw [if_pos (.inl e1)]
   exact Goes.pos (by omega) cut
  ·refine Goes.neg (by omega) (Goes.pos (by omega) (Goes.pos (by omega) ?_))
   by_cases e2 : bt t (x : Int) = by_
   ·rw [if_pos (.inr e2)]
    exact Goes.pos e2 cut
   ·rw [if_neg (fun h => h.elim e1 e2)]
    rw [wrap_id (x := (x : Int) + 1) (by omega) (by omega)]
    exact Goes.neg e2 (Goes.ok (K := fun (s : List ByteArray × Nat) k => impl_SplitByte.l0 k t by_ s.1 (s.2 : Int) ((x + 1 : Nat) : Int)) s)
 ·cases e
  exact splitG_ok hs
theorem spec_splitB (t : ByteArray) (by_ : Int) (ht : t.size ≤ 1048576) : Ev (fun k => spec_SplitByte.f k t by_) (splitP t by_) := by
 unfold spec_SplitByte.f
 have key := loop_up' (σ := List ByteArray × Nat) (ρ := List ByteArray) (lo := 0) (n := t.size + 1) (K := fun s _ => some s.1) (L := fun x s k => spec_SplitByte.l0 k t by_ s.1 (s.2 : Int) x) (fun x s => s.1.length ≤ x ∧ s.2 ≤ x)
  (fun s x => .ok (splitG t by_ s x)) (fun s _ => ?_) (fun x _ hx s hs => ?_) (fun x _ hx s hs s' e => ?_) (by omega) ([], 0) ⟨Nat.le_refl _, Nat.le_refl _⟩
 ·rw [foldlM_ok, Nat.sub_zero] at key
  exact key _ (Ev.now _)
 ·refine Goes.step ?_
  simp only [spec_SplitByte.l0]
  exact Goes.neg (by omega) (Goes.ok (K := fun s _ => some s.1) s)
 ·have cut : Goes (.ok (s.1 ++ [t.extract s.2 x], x + 1)) (fun (s : List ByteArray × Nat) k => spec_SplitByte.l0 k t by_ s.1 (s.2 : Int) ((x + 1 : Nat) : Int))
    (fun k => if 0 ≤ (s.2 : Int) then (if (s.2 : Int) ≤ (x : Int) then (if s.1.length < 8796093022208 then (spec_SplitByte.l0 k t by_ (s.1 ++ [t.extract (s.2 : Int).toNat (x : Int).toNat]) (wrap64 ((x : Int) + 1)) (wrap64 ((x : Int) + 1))) else none) else none) else none) := by
   rw [wrap_id (x := (x : Int) + 1) (by omega) (by omega), Int.toNat_natCast, Int.toNat_natCast]
   exact Goes.pos (by omega) (Goes.pos (by omega) (Goes.pos (by omega) (Goes.ok (K := fun (s : List ByteArray × Nat) k => spec_SplitByte.l0 k t by_ s.1 (s.2 : Int) ((x + 1 : Nat) : Int)) (s.1 ++ [t.extract s.2 x], x + 1))))
  refine Goes.step ?_
  simp only [spec_SplitByte.l0]
  refine Goes.pos (by omega) ?_
  unfold splitG
  by_cases e1 : x = t.size
  ·rw [if_pos (.inl e1)]
   exact Goes.pos (by omega) cut
  ·refine Goes.neg (by omega) (Goes.pos (by omega) (Goes.pos (by omega) ?_))
   by_cases e2 : bt t (x : Int) = by_
   ·rw [if_pos (.inr e2)]
    exact Goes.pos e2 cut
   ·rw [if_neg (fun h => h.elim e1 e2)]
    rw [wrap_id (x := (x : Int) + 1) (by omega) (by omega)]
    exact Goes.neg e2 (Goes.ok (K := fun (s : List ByteArray × Nat) k => spec_SplitByte.l0 k t by_ s.1 (s.2 : Int) ((x + 1 : Nat) : Int)) s)
 ·cases e
  exact splitG_ok hs
end Go.Proofs.YthhgcdfdjlijjaaDoor.M
namespace Go.Proofs.YthhgcdfdjlijjaaDoor.PX
open Go.RowKit Go.Proofs.YthhgcdfdjlijjaaDoor.G Go.Proofs.YthhgcdfdjlijjaaDoorW.PrintWords Go.Proofs.YthhgcdfdjlijjaaDoorW.PrintLast Go.Proofs.YthhgcdfdjlijjaaDoorW.PrintMore
attribute [local go_sem] max2_int min2_int max_two min_two max_three min_three max_four min_four   -- for this text's walks alone
set_option linter.unusedVariables false
set_option linter.unusedSimpArgs false
/-! ### spec_SignsText: function 14 -/
/-! ### impl_SignsText: function 16 -/
/-! ### spec_ParseSigns: function 29 -/
/-! ### impl_ParseSigns: function 30 -/
end Go.Proofs.YthhgcdfdjlijjaaDoor.PX
namespace Go.Proofs.YthhgcdfdjlijjaaDoor.M
open Go.RowKit Go.Proofs.YthhgcdfdjlijjaaDoorW.PrintWords Go.Proofs.YthhgcdfdjlijjaaDoor.PX Go.Proofs.YthhgcdfdjlijjaaDoor.G Go.Proofs.YthhgcdfdjlijjaaDoorW.PrintMore
open Go.Lib (decDigits itoa)
theorem readS_inv {s : ByteArray} {m : Nat} (hm1 : 1 ≤ m) (hm : m ≤ 12) (h : (readS s m).2 = true) : ∃ v : Int, v.natAbs < 10 ^ m ∧ itoaB v = s ∧ readS s m = (v, true) := by
 by_cases g : ∃ v : Int, v.natAbs < 10 ^ m ∧ itoaB v = s
 ·obtain ⟨v, hv, rfl⟩ := g
  exact ⟨v, hv, rfl, readS_of hm1 hm hv⟩
 ·rw [readS_not fun v hv e => g ⟨v, hv, e⟩] at h
  cases h
theorem splitG_le {t : ByteArray} {by_ : Int} {s : List ByteArray × Nat} {i : Nat} (h : ∀ x ∈ s.1, x.size ≤ t.size) : ∀ x ∈ (splitG t by_ s i).1, x.size ≤ t.size := by
 intro x hx
 unfold splitG at hx
 split at hx
 ·rw [List.mem_append, List.mem_singleton] at hx
  rcases hx with hx | rfl
  ·exact h x hx
  ·rw [ByteArray.size_extract]; omega
 ·exact h x hx
theorem splitP_le (t : ByteArray) (by_ : Int) : ∀ x ∈ splitP t by_, x.size ≤ t.size := by
 have key : ∀ (l : List Nat) (s : List ByteArray × Nat), (∀ x ∈ s.1, x.size ≤ t.size) → ∀ x ∈ (l.foldl (splitG t by_) s).1, x.size ≤ t.size := by
  intro l
  induction l with
  | nil => intro s h; exact h
  | cons i l ih => intro s h; rw [List.foldl_cons]; exact ih _ (splitG_le h)
 exact key _ ([], 0) (fun x hx => by cases hx)
theorem rdB_get {l : List ByteArray} {i : Nat} (h : i < l.length) : rdOf ByteArray.empty l (i : Int) = l[i] := by
 unfold rdOf
 rw [Int.toNat_natCast, List.getD_eq_getElem?_getD, List.getElem?_eq_getElem h]
 rfl
theorem rdB_le {t : ByteArray} {by_ : Int} {i : Nat} (h : i < (splitP t by_).length) : (rdOf ByteArray.empty (splitP t by_) (i : Int)).size ≤ t.size := by
 rw [rdB_get h]
 exact splitP_le t by_ _ (List.getElem_mem _)
end Go.Proofs.YthhgcdfdjlijjaaDoor.M
namespace Go.Proofs.YthhgcdfdjlijjaaDoor.M
open Go.RowKit Go.Proofs.YthhgcdfdjlijjaaDoorW.PrintWords Go.Proofs.YthhgcdfdjlijjaaDoor.PX Go.Proofs.YthhgcdfdjlijjaaDoor.G Go.Proofs.YthhgcdfdjlijjaaDoorW.PrintMore
open Go.Lib (decDigits itoa index occAt)
theorem first_or (P : Nat → Prop) : ∀ n : Nat, (∀ q, q < n → ¬ P q) ∨ ∃ j, j < n ∧ P j ∧ ∀ q, q < j → ¬ P q := by
 intro n
 induction n with
 | zero => exact .inl fun q h => absurd h (Nat.not_lt_zero _)
 | succ n ih =>
  rcases ih with h | ⟨j, hj, hp, hq⟩
  ·by_cases g : P n
   ·exact .inr ⟨n, by omega, g, h⟩
   ·refine .inl fun q hq => ?_
    by_cases e : q = n
    ·subst e; exact g
    ·exact h q (by omega)
  ·exact .inr ⟨j, by omega, hp, hq⟩
section
variable (s : ByteArray) (b : Int)
theorem foldA (d : Nat) : ∀ (i : Nat) (out : List ByteArray) (fr : Nat), 1 ≤ d → i + d = s.size + 1 → (∀ j : Nat, i ≤ j → j < s.size → bt s (j : Int) ≠ b) → (List.range' i d).foldl (splitG s b) (out, fr) = (out ++ [s.extract fr s.size], s.size + 1) := by
 induction d with
 | zero => intro i out fr h; omega
 | succ d ih =>
  intro i out fr _ hi hn
  rw [List.range'_succ, List.foldl_cons]
  by_cases g : i = s.size
  ·have : d = 0 := by omega
   subst this
   unfold splitG
   rw [if_pos (Or.inl g), List.range'_zero, List.foldl_nil, g]
  ·have e : splitG s b (out, fr) i = (out, fr) := by
    unfold splitG
    rw [if_neg (fun h => h.elim g (hn i (Nat.le_refl _) (by omega)))]
   rw [e]
   exact ih (i + 1) out fr (by omega) (by omega) fun j h1 h2 => hn j (by omega) h2
theorem foldB (j : Nat) (hj : j < s.size) (hb : bt s (j : Int) = b) (d : Nat) : ∀ (i : Nat) (out : List ByteArray) (fr : Nat), i + d = s.size + 1 → i ≤ j → (∀ q : Nat, i ≤ q → q < j → bt s (q : Int) ≠ b) →
  (List.range' i d).foldl (splitG s b) (out, fr) = (List.range' (j + 1) (s.size - j)).foldl (splitG s b) (out ++ [s.extract fr j], j + 1) := by
 induction d with
 | zero => intro i out fr h; omega
 | succ d ih =>
  intro i out fr hi hij hn
  rw [List.range'_succ, List.foldl_cons]
  by_cases g : i = j
  ·subst g
   have e : splitG s b (out, fr) i = (out ++ [s.extract fr i], i + 1) := by
    unfold splitG
    rw [if_pos (Or.inr hb)]
   rw [e, show d = s.size - i by omega]
  ·have e : splitG s b (out, fr) i = (out, fr) := by
    unfold splitG
    rw [if_neg (fun h => h.elim (fun h => by omega) (hn i (Nat.le_refl _) (by omega)))]
   rw [e]
   exact ih (i + 1) out fr (by omega) (by omega) fun q h1 h2 => hn q (by omega) h2
theorem split_cases : ((∀ q : Nat, q < s.size → bt s (q : Int) ≠ b) ∧ splitP s b = [s.extract 0 s.size]) ∨
  ∃ j : Nat, j < s.size ∧ bt s (j : Int) = b ∧ (∀ q : Nat, q < j → bt s (q : Int) ≠ b) ∧
   (((∀ q : Nat, j < q → q < s.size → bt s (q : Int) ≠ b) ∧ splitP s b = [s.extract 0 j, s.extract (j + 1) s.size]) ∨ ((∃ q : Nat, j < q ∧ q < s.size ∧ bt s (q : Int) = b) ∧ (splitP s b).length ≠ 2)) := by
 rcases first_or (fun q => bt s (q : Int) = b) s.size with h | ⟨j, hj, hp, hq⟩
 ·refine .inl ⟨h, ?_⟩
  unfold splitP
  rw [foldA s b (s.size + 1) 0 [] 0 (by omega) (by omega) fun j _ h2 => h j h2]
  rfl
 ·refine .inr ⟨j, hj, hp, hq, ?_⟩
  have e : splitP s b = ((List.range' (j + 1) (s.size - j)).foldl (splitG s b) ([s.extract 0 j], j + 1)).1 := by
   unfold splitP
   rw [foldB s b j hj hp (s.size + 1) 0 [] 0 (by omega) (by omega) fun q _ h => hq q h]
   rfl
  rcases first_or (fun q => j < q ∧ bt s (q : Int) = b) s.size with h | ⟨j2, hj2, ⟨hjj, hp2⟩, hq2⟩
  ·refine .inl ⟨fun q h1 h2 h3 => h q h2 ⟨h1, h3⟩, ?_⟩
   rw [e, foldA s b (s.size - j) (j + 1) _ _ (by omega) (by omega) fun q h1 h2 h3 => h q h2 ⟨by omega, h3⟩]
   rfl
  ·refine .inr ⟨⟨j2, hjj, hj2, hp2⟩, ?_⟩
   rw [e, foldB s b j2 hj2 hp2 (s.size - j) (j + 1) _ _ (by omega) (by omega) fun q h1 h2 h3 => hq2 q h2 ⟨by omega, h3⟩]
   have mono : ∀ (l : List Nat) (x : List ByteArray × Nat), x.1.length ≤ (l.foldl (splitG s b) x).1.length := by
    intro l
    induction l with
    | nil => intro x; exact Nat.le_refl _
    | cons i l ih =>
     intro x
     rw [List.foldl_cons]
     refine Nat.le_trans ?_ (ih _)
     unfold splitG
     split
     ·rw [List.length_append]; omega
     ·exact Nat.le_refl _
   rw [show s.size - j2 = (s.size - j2 - 1) + 1 by omega, List.range'_concat, List.foldl_append]
   simp only [List.foldl_cons, List.foldl_nil, Nat.one_mul]
   have m := mono (List.range' (j2 + 1) (s.size - j2 - 1)) ([s.extract 0 j] ++ [s.extract (j + 1) j2], j2 + 1)
   generalize (List.range' (j2 + 1) (s.size - j2 - 1)).foldl (splitG s b) ([s.extract 0 j] ++ [s.extract (j + 1) j2], j2 + 1) = X at m
   simp only [List.length_append, List.length_singleton] at m
   unfold splitG
   rw [if_pos (Or.inl (by omega)), List.length_append, List.length_singleton]
   omega
end
theorem ext_data (s : ByteArray) (a b : Nat) : (s.extract a b).data.toList = (s.data.toList.drop a).take (b - a) := by
 rw [ByteArray.data_extract, Array.toList_extract]
theorem occ_one (l : List UInt8) (c : UInt8) (i : Nat) : occAt l [c] i = true ↔ ∃ h : i < l.length, l[i] = c := by
 unfold occAt
 by_cases h : i < l.length
 ·rw [List.drop_eq_getElem_cons h]
  simp only [List.isPrefixOf, Bool.and_true, beq_iff_eq]
  exact ⟨fun e => ⟨h, e.symm⟩, fun ⟨_, e⟩ => e.symm⟩
 ·rw [List.drop_of_length_le (by omega)]
  simp only [List.isPrefixOf, Bool.false_eq_true, false_iff]
  exact fun ⟨h', _⟩ => h h'
theorem bt_44 {s : ByteArray} {q : Nat} (h : q < s.data.toList.length) : bt s (q : Int) = 44 ↔ s.data.toList[q] = 44 := by
 rw [bt_nat h]
 constructor
 ·intro e
  apply UInt8.toNat_inj.1
  show _ = 44
  omega
 ·intro e
  rw [e]
  rfl
theorem cut_none {s : ByteArray} (h : ∀ q : Nat, q < s.size → bt s (q : Int) ≠ 44) : Lib.cut s.data.toList [44] = (s.data.toList, [], false) := by
 unfold Lib.cut
 rw [Lib.index_none, if_neg (by omega)]
 intro j _
 rw [Bool.eq_false_iff]
 intro e
 obtain ⟨hj, e⟩ := (occ_one _ _ _).1 e
 exact h j hj ((bt_44 hj).2 e)
theorem cut_at {s : ByteArray} {j : Nat} (hj : j < s.size) (hb : bt s (j : Int) = 44) (h : ∀ q : Nat, q < j → bt s (q : Int) ≠ 44) : Lib.cut s.data.toList [44] = (s.data.toList.take j, s.data.toList.drop (j + 1), true) := by
 unfold Lib.cut
 rw [Lib.index_first (i := j) (Nat.le_of_lt hj) ((occ_one _ _ _).2 ⟨hj, (bt_44 hj).1 hb⟩) fun q hq => ?_, if_pos (by omega), Int.toNat_natCast]
 ·rfl
 ·rw [Bool.eq_false_iff]
  intro e
  obtain ⟨hj', e⟩ := (occ_one _ _ _).1 e
  exact h q hq ((bt_44 hj').2 e)
theorem int_no {s : ByteArray} (h : (intA s).2 = true) : 1 ≤ s.size ∧ ∀ q : Nat, q < s.size → bt s (q : Int) ≠ 44 := by
 obtain ⟨v, hv, rfl, _⟩ := readS_inv (m := 12) (by omega) (by omega) h
 have hd := dec_dig 11 v.natAbs hv
 have hp := dec_pos v.natAbs
 have all : ∀ c ∈ itoa v, c ≠ 44 := by
  intro c hc e
  subst e
  unfold itoa at hc
  split at hc
  ·rw [List.mem_cons] at hc
   rcases hc with hc | hc
   ·cases hc
   ·have := (hd _ hc).1
    exact absurd this (by decide)
  ·rename_i g
   rw [show v.toNat = v.natAbs by omega] at hc
   have := (hd _ hc).1
   exact absurd this (by decide)
 refine ⟨?_, fun q hq e => ?_⟩
 ·rw [size_list, itoaB_data]
  unfold itoa
  split
  ·rw [List.length_cons]; omega
  ·rename_i g
   rw [show v.toNat = v.natAbs by omega]; omega
 ·exact all _ (List.getElem_mem hq) ((bt_44 hq).1 e)
theorem bt_ext {s : ByteArray} {a q : Nat} (h : a + q < s.size) : bt (s.extract a s.size) (q : Int) = bt s ((a + q : Nat) : Int) := by
 have e := ext_data s a s.size
 have hl : q < (s.extract a s.size).data.toList.length := by
  rw [e, List.length_take, List.length_drop]
  have : s.data.toList.length = s.size := rfl
  omega
 rw [bt_nat hl, bt_nat (t := s) (i := a + q) h]
 congr 2
 simp only [e, List.getElem_take, List.getElem_drop]
noncomputable def pairP (s : ByteArray) : Option IP :=
 if (splitP s 44).length = 2 ∧ (intA (rdOf ByteArray.empty (splitP s 44) 0)).2 = true ∧ (intA (rdOf ByteArray.empty (splitP s 44) 1)).2 = true then some ⟨(intA (rdOf ByteArray.empty (splitP s 44) 0)).1, (intA (rdOf ByteArray.empty (splitP s 44) 1)).1⟩ else none
theorem cut_pair {s : ByteArray} (hs : s.size ≤ 1048576) : ∃ x y f, strings_Cut.f s ⟨#[44]⟩ = some (x, y, f) ∧ x.size ≤ s.size ∧ y.size ≤ s.size ∧
  ((((intA x).2 = true ∧ (intA y).2 = true) ∧ pairP s = some ⟨(intA x).1, (intA y).1⟩) ∨ (¬ ((intA x).2 = true ∧ (intA y).2 = true) ∧ pairP s = none)) := by
 have f : strings_Cut.f s ⟨#[44]⟩ = some (⟨(Lib.cut s.data.toList [44]).1.toArray⟩, ⟨(Lib.cut s.data.toList [44]).2.1.toArray⟩, (Lib.cut s.data.toList [44]).2.2) := if_pos (by omega)
 rcases split_cases s 44 with ⟨hn, e⟩ | ⟨j, hj, hb, hq, h⟩
 ·refine ⟨_, _, _, f, ?_, ?_, .inr ⟨?_, ?_⟩⟩
  ·rw [cut_none hn]; exact Nat.le_refl _
  ·rw [cut_none hn]; exact Nat.zero_le _
  ·rw [cut_none hn]
   intro g
   have := (int_no g.2).1
   exact absurd (show 1 ≤ 0 from this) (by decide)
  ·unfold pairP
   rw [if_neg]
   rw [e]
   rintro ⟨g, _⟩
   cases g
 ·have c := cut_at hj hb hq
  have ex : (⟨(s.data.toList.take j).toArray⟩ : ByteArray) = s.extract 0 j := by
   apply ByteArray.ext
   apply Array.ext'
   rw [ext_data]
   simp
  have ey : (⟨(s.data.toList.drop (j + 1)).toArray⟩ : ByteArray) = s.extract (j + 1) s.size := by
   apply ByteArray.ext
   apply Array.ext'
   rw [ext_data, List.take_of_length_le (by rw [List.length_drop]; exact Nat.le_refl _)]
  rw [c] at f
  simp only [ex, ey] at f
  refine ⟨_, _, _, f, by rw [ByteArray.size_extract]; omega, by rw [ByteArray.size_extract]; omega, ?_⟩
  rcases h with ⟨hn, e⟩ | ⟨⟨q, h1, h2, h3⟩, e⟩
  ·unfold pairP
   rw [e]
   by_cases g : (intA (s.extract 0 j)).2 = true ∧ (intA (s.extract (j + 1) s.size)).2 = true
   ·exact .inl ⟨g, if_pos ⟨rfl, g⟩⟩
   ·exact .inr ⟨g, if_neg fun h => g h.2⟩
  ·refine .inr ⟨fun g => ?_, ?_⟩
   ·have := (int_no g.2).2 (q - (j + 1)) (by rw [ByteArray.size_extract]; omega)
    rw [bt_ext (by omega), show j + 1 + (q - (j + 1)) = q by omega] at this
    exact this h3
   ·unfold pairP
    rw [if_neg fun h => e h.1]
noncomputable def paL : List ByteArray → List IP → List IP × Bool
 | [], out => if arePts out = true then (out, true) else ([], false)
 | s :: r, out => match pairP s with
  | none => ([], false)
  | some p => paL r (out ++ [p])
theorem paL_long (L : List ByteArray) : ∀ out, 8 ≤ out.length → paL L out = ([], false) := by
 induction L with
 | nil =>
  intro out h
  rw [paL, if_neg]
  intro g
  have := (arePts_iff.1 g).1
  omega
 | cons s r ih =>
  intro out h
  rw [paL]
  cases pairP s with
  | none => rfl
  | some p => exact ih _ (by rw [List.length_append]; omega)
theorem paL_len (L : List ByteArray) : ∀ out, (paL L out).1.length ≤ 7 := by
 induction L with
 | nil =>
  intro out
  rw [paL]
  split
  ·rename_i g
   exact (arePts_iff.1 g).1.2
  ·exact Nat.zero_le _
 | cons s r ih =>
  intro out
  rw [paL]
  cases pairP s with
  | none => exact Nat.zero_le _
  | some p => exact ih _
noncomputable def ptsP (t : ByteArray) : List IP × Bool := paL (splitP t 32) []
theorem spec_pa_loop (L : List ByteArray) (hz : ∀ x ∈ L, x.size ≤ 1048576) (hL : L.length ≤ 2000000) (d : Nat) : ∀ (i : Nat) (out : List IP), i + d = L.length → out.length ≤ i → Ev (fun k => spec_ParsePoints.l0 k out L (i : Int)) (paL (L.drop i) out) := by
 induction d with
 | zero =>
  intro i out hi ho
  refine ev_step ?_
  simp only [spec_ParsePoints.l0]
  rw [List.drop_of_length_le (by omega), paL]
  refine ev_neg (by omega) (Ev.bind (spec_arePts out (by omega)) ?_)
  by_cases g : arePts out = true
  ·exact ev_cast (ev_pos g (Ev.now _)) (if_pos g).symm
  ·exact ev_cast (ev_neg g (Ev.now _)) (if_neg g).symm
 | succ d ih =>
  intro i out hi ho
  have hil : i < L.length := by omega
  have hs := hz L[i] (List.getElem_mem _)
  refine ev_step ?_
  simp only [spec_ParsePoints.l0]
  rw [List.drop_eq_getElem_cons hil, paL, rdB_get hil, wrap_id (x := (i : Int) + 1) (by omega) (by omega)]
  refine ev_pos (by omega) (ev_pos (by omega) (Ev.bind (spec_splitB L[i] 44 hs) ?_))
  by_cases g : (splitP L[i] 44).length = 2
  ·have z0 := rdB_le (t := L[i]) (by_ := 44) (i := 0) (by omega)
   have z1 := rdB_le (t := L[i]) (by_ := 44) (i := 1) (by omega)
   refine ev_pos (by omega) (ev_pos (by omega) (Ev.bind (spec_int _ (Nat.le_trans z0 hs)) (ev_pos (by omega) (Ev.bind (spec_int _ (Nat.le_trans z1 hs)) ?_))))
   by_cases g0 : (intA (rdOf ByteArray.empty (splitP L[i] 44) 0)).2 = true
   ·refine ev_pos g0 ?_
    by_cases g1 : (intA (rdOf ByteArray.empty (splitP L[i] 44) 1)).2 = true
    ·have e : pairP L[i] = some ⟨(intA (rdOf ByteArray.empty (splitP L[i] 44) 0)).1, (intA (rdOf ByteArray.empty (splitP L[i] 44) 1)).1⟩ := if_pos ⟨g, g0, g1⟩
     rw [e]
     exact ev_pos g1 (ev_pos (by omega) (ih (i + 1) _ (by omega) (by rw [List.length_append, List.length_singleton]; omega)))
    ·have e : pairP L[i] = none := if_neg fun h => g1 h.2.2
     rw [e]
     exact ev_neg g1 (Ev.now _)
   ·have e : pairP L[i] = none := if_neg fun h => g0 h.2.1
    rw [e]
    exact ev_neg g0 (Ev.now _)
  ·have e : pairP L[i] = none := if_neg fun h => g h.1
   rw [e]
   exact ev_neg (by omega) (Ev.now _)
theorem impl_pa_loop (L : List ByteArray) (hz : ∀ x ∈ L, x.size ≤ 1048576) (hL : L.length ≤ 2000000) (d : Nat) : ∀ (i : Nat) (out : List IP), i + d = L.length → out.length ≤ 7 → Ev (fun k => impl_ParsePoints.l0 k out L (L.length : Int) (i : Int)) (paL (L.drop i) out) := by
 induction d with
 | zero =>
  intro i out hi ho
  refine ev_step ?_
  simp only [impl_ParsePoints.l0]
  rw [List.drop_of_length_le (by omega), paL]
  refine ev_neg (by omega) (Ev.bind (impl_arePts out (by omega)) ?_)
  by_cases g : arePts out = true
  ·exact ev_cast (ev_pos g (Ev.now _)) (if_pos g).symm
  ·exact ev_cast (ev_neg g (Ev.now _)) (if_neg g).symm
 | succ d ih =>
  intro i out hi ho
  have hil : i < L.length := by omega
  have hs := hz L[i] (List.getElem_mem _)
  obtain ⟨x, y, f, ef, zx, zy, h⟩ := cut_pair hs
  refine ev_step ?_
  simp only [impl_ParsePoints.l0]
  rw [List.drop_eq_getElem_cons hil, paL, rdB_get hil, wrap_id (x := (i : Int) + 1) (by omega) (by omega)]
  refine ev_pos (by omega) (ev_pos (by omega) (ev_pos (by omega) (ev_call ef (ev_call (impl_int x (Nat.le_trans zx hs)) (ev_call (impl_int y (Nat.le_trans zy hs)) ?_)))))
  rcases h with ⟨⟨g0, g1⟩, e⟩ | ⟨g, e⟩
  ·rw [e]
   show Ev _ (paL (L.drop (i + 1)) (out ++ [(⟨(intA x).1, (intA y).1⟩ : IP)]))
   refine ev_pos g0 (ev_pos g1 ?_)
   by_cases o : out.length = 7
   ·rw [show paL (L.drop (i + 1)) (out ++ [(⟨(intA x).1, (intA y).1⟩ : IP)]) = ([], false) from paL_long _ _ (by rw [List.length_append, List.length_singleton]; omega)]
    exact ev_pos (by omega) (Ev.now _)
   ·exact ev_neg (by omega) (ev_pos (by omega) (ih (i + 1) _ (by omega) (by rw [List.length_append, List.length_singleton]; omega)))
  ·rw [e]
   by_cases g0 : (intA x).2 = true
   ·exact ev_pos g0 (ev_neg (fun g1 => g ⟨g0, g1⟩) (Ev.now _))
   ·exact ev_neg g0 (Ev.now _)
theorem spec_ptsP (t : ByteArray) (ht : t.size ≤ 1048576) : Ev (fun k => spec_ParsePoints.f k t) (ptsP t) := by
 unfold spec_ParsePoints.f ptsP
 have hl := splitP_length t 32
 exact Ev.bind (spec_splitB t 32 ht) (spec_pa_loop _ (fun x hx => Nat.le_trans (splitP_le t 32 x hx) ht) (by omega) (splitP t 32).length 0 [] (by omega) (Nat.le_refl _))
theorem impl_ptsP (t : ByteArray) (ht : t.size ≤ 1048576) : Ev (fun k => impl_ParsePoints.f k t) (ptsP t) := by
 unfold impl_ParsePoints.f ptsP
 have hl := splitP_length t 32
 exact Ev.bind (impl_splitB t 32 ht) (impl_pa_loop _ (fun x hx => Nat.le_trans (splitP_le t 32 x hx) ht) (by omega) (splitP t 32).length 0 [] (by omega) (Nat.zero_le _))
end Go.Proofs.YthhgcdfdjlijjaaDoor.M
namespace Go.Proofs.YthhgcdfdjlijjaaDoor.PX
open Go.RowKit Go.Proofs.YthhgcdfdjlijjaaDoor.G Go.Proofs.YthhgcdfdjlijjaaDoorW.PrintWords Go.Proofs.YthhgcdfdjlijjaaDoorW.PrintLast Go.Proofs.YthhgcdfdjlijjaaDoorW.PrintMore
attribute [local go_sem] max2_int min2_int max_two min_two max_three min_three max_four min_four   -- for this text's walks alone
set_option linter.unusedVariables false
set_option linter.unusedSimpArgs false
/-! ### laws_szPointS: function 17 -/
/-! ### laws_toPoint: function 41 -/
/-! ### laws_toPointS: function 19 -/
end Go.Proofs.YthhgcdfdjlijjaaDoor.PX
namespace Go.Proofs.YthhgcdfdjlijjaaDoor.M
open Go.RowKit Go.Proofs.YthhgcdfdjlijjaaDoorW.PrintWords Go.Proofs.YthhgcdfdjlijjaaDoor.PX
theorem eqPts_loop (l : List IP) (hl : l.length ≤ 10000000) (d : Nat) : ∀ i : Nat, i + d = l.length → Ev (fun k => laws_eqPointS.l0 k l l (i : Int)) true := by
 induction d with
 | zero =>
  intro i hi
  refine ev_step ?_
  simp only [laws_eqPointS.l0]
  exact ev_neg (by omega) (Ev.now _)
 | succ d ih =>
  intro i hi
  refine ev_step ?_
  simp only [laws_eqPointS.l0]
  refine ev_pos (by omega) (ev_pos (by omega) (ev_pos (by omega) (ev_call (a := true) ?_ (ev_pos rfl ?_))))
  ·unfold laws_eqPoint.f
   rw [if_pos rfl, if_pos rfl]
  ·rw [wrap_id (by omega) (by omega)]
   exact ih (i + 1) (by omega)
theorem eqPts_self (l : List IP) (hl : l.length ≤ 10000000) : Ev (fun k => laws_eqPointS.f k l l) true := by
 unfold laws_eqPointS.f
 exact ev_pos rfl (eqPts_loop l hl l.length 0 (by omega))
end Go.Proofs.YthhgcdfdjlijjaaDoor.M
namespace Go.Proofs.YthhgcdfdjlijjaaDoor.M
open Go.RowKit Go.Proofs.YthhgcdfdjlijjaaDoorW.PrintWords Go.Proofs.YthhgcdfdjlijjaaDoor.PX Go.Proofs.YthhgcdfdjlijjaaDoor.G
def marksP (n : Nat) : List IP := (List.range n).map fun (i : Nat) => (⟨((2 * i + 1 : Nat) : Int), ((2 * i + 2 : Nat) : Int)⟩ : IP)
theorem marksP_length (n : Nat) : (marksP n).length = n := by simp [marksP]
theorem marksP_succ (n : Nat) : marksP (n + 1) = marksP n ++ [(⟨((2 * n + 1 : Nat) : Int), ((2 * n + 2 : Nat) : Int)⟩ : IP)] := by simp [marksP, List.range_succ]
theorem set_mid {α : Type} (p : List α) (y v : α) (s : List α) : (p ++ y :: s).set p.length v = p ++ v :: s := by
 rw [List.set_append_right _ _ (Nat.le_refl _), Nat.sub_self, List.set_cons_zero]
theorem rd_mid (p : List IP) (y : IP) (s : List IP) : rd_T55 (p ++ y :: s) (p.length : Int) = y := by
 rw [rdIP (by rw [List.length_append, List.length_cons]; omega), List.getElem_append_right (Nat.le_refl _)]
 simp
theorem markP_loop (d : Nat) : ∀ (i : Nat) (suf : List IP), suf.length = d → i + d ≤ 10000000 → Ev (fun k => laws_markPointS.l0 k (marksP i ++ suf) ((2 * i + 1 : Nat) : Int) (i : Int)) (((2 * (i + d) + 1 : Nat) : Int), marksP (i + d)) := by
 induction d with
 | zero =>
  intro i suf hs hb
  obtain rfl : suf = [] := List.eq_nil_of_length_eq_zero hs
  refine ev_step ?_
  simp only [laws_markPointS.l0, List.length_append, marksP_length, List.length_nil]
  refine ev_neg (by omega) (ev_cast (Ev.now _) ?_)
  rw [List.append_nil]
  rfl
 | succ d ih =>
  intro i suf hs hb
  cases suf with
  | nil => cases hs
  | cons y ys =>
   rw [List.length_cons] at hs
   refine ev_step ?_
   simp only [laws_markPointS.l0, List.length_append, marksP_length, List.length_cons]
   refine ev_pos (by omega) (ev_pos (by omega) (ev_call rfl ?_))
   have hi : (i : Int).toNat = (marksP i).length := by rw [marksP_length]; rfl
   have hi' : (i : Int) = ((marksP i).length : Int) := by rw [marksP_length]
   rw [hi, set_mid, show rd_T55 (marksP i ++ (⟨((2 * i + 1 : Nat) : Int), (rd_T55 (marksP i ++ y :: ys) (i : Int)).f1⟩ : IP) :: ys) (i : Int) = (⟨((2 * i + 1 : Nat) : Int), (rd_T55 (marksP i ++ y :: ys) (i : Int)).f1⟩ : IP) from by
    have := rd_mid (marksP i) (⟨((2 * i + 1 : Nat) : Int), (rd_T55 (marksP i ++ y :: ys) (i : Int)).f1⟩ : IP) ys
    rw [← hi'] at this
    exact this, set_mid]
   rw [wrap_id (x := ((2 * i + 1 : Nat) : Int) + 1) (by omega) (by omega), wrap_id (x := ((2 * i + 1 : Nat) : Int) + 1 + 1) (by omega) (by omega), wrap_id (x := (i : Int) + 1) (by omega) (by omega)]
   have e : marksP i ++ (⟨((2 * i + 1 : Nat) : Int), ((2 * i + 1 : Nat) : Int) + 1⟩ : IP) :: ys = marksP (i + 1) ++ ys := by
    rw [marksP_succ, List.append_assoc]
    rfl
   rw [show i + (d + 1) = (i + 1) + d by omega, show ((2 * i + 1 : Nat) : Int) + 1 + 1 = ((2 * (i + 1) + 1 : Nat) : Int) by omega]
   have := ih (i + 1) ys (by omega) (by omega)
   rw [← e] at this
   exact this
theorem markP_ev (l : List IP) (hl : l.length ≤ 10000000) : Ev (fun k => laws_markPointS.f k l 1) (((2 * l.length + 1 : Nat) : Int), marksP l.length) := by
 unfold laws_markPointS.f
 have := markP_loop l.length 0 l rfl (by omega)
 exact ev_cast this (by rw [Nat.zero_add])
theorem heldP_loop (n : Nat) (hn : n ≤ 10000000) (d : Nat) : ∀ i : Nat, i + d = n → Ev (fun k => laws_heldPointS.l0 k (marksP n) ((2 * i + 1 : Nat) : Int) (i : Int)) ((2 * n + 1 : Nat) : Int) := by
 induction d with
 | zero =>
  intro i hi
  refine ev_step ?_
  simp only [laws_heldPointS.l0, marksP_length]
  refine ev_neg (by omega) (ev_cast (Ev.now _) ?_)
  omega
 | succ d ih =>
  intro i hi
  have e : rd_T55 (marksP n) (i : Int) = (⟨((2 * i + 1 : Nat) : Int), ((2 * i + 2 : Nat) : Int)⟩ : IP) := by
   rw [rdIP (by rw [marksP_length]; omega)]
   simp [marksP]
  refine ev_step ?_
  simp only [laws_heldPointS.l0, marksP_length, e]
  refine ev_pos (by omega) (ev_pos (by omega) (ev_pos (by first | rfl | trivial) ?_))
  rw [wrap_id (x := ((2 * i + 1 : Nat) : Int) + 1) (by omega) (by omega), wrap_id (x := ((2 * i + 1 : Nat) : Int) + 1 + 1) (by omega) (by omega), wrap_id (x := (i : Int) + 1) (by omega) (by omega)]
  refine ev_pos (by omega) ?_
  rw [show ((2 * i + 1 : Nat) : Int) + 1 + 1 = ((2 * (i + 1) + 1 : Nat) : Int) by omega]
  exact ih (i + 1) (by omega)
theorem heldP_ev (n : Nat) (hn : n ≤ 10000000) : Ev (fun k => laws_heldPointS.f k (marksP n) 1) ((2 * n + 1 : Nat) : Int) := by
 unfold laws_heldPointS.f
 exact heldP_loop n hn n 0 (by omega)
end Go.Proofs.YthhgcdfdjlijjaaDoor.M
namespace Go.Proofs.YthhgcdfdjlijjaaDoor.Pure
open Go.RowKit Go.Proofs.YthhgcdfdjlijjaaDoorW.PrintWords Go.Proofs.YthhgcdfdjlijjaaDoor.PX Go.Proofs.YthhgcdfdjlijjaaDoor.M Go.Proofs.YthhgcdfdjlijjaaDoor.G
theorem FnExactParsePoints (s : ByteArray) (_ : s.size ≤ 140737488351232) : ∃ k, laws_FnExactParsePoints.f k s = some true := by
 refine Ev.rounds (r := true) ?_
 unfold laws_FnExactParsePoints.f
 by_cases h : (s.size : Int) > 1048576
 ·exact ev_pos h (Ev.now _)
 have hs := spec_ptsP s (by omega)
 have hi := impl_ptsP s (by omega)
 have hl := paL_len (splitP s 32) []
 unfold ptsP at hs hi
 generalize paL (splitP s 32) [] = V at hs hi hl
 obtain ⟨v, b⟩ := V
 simp only at hl
 have j1 : Ev (fun k => laws_FnExactParsePoints.j1 k (marksP v.length) ((2 * v.length + 1 : Nat) : Int) false) true := by
  refine ev_step ?_
  simp only [laws_FnExactParsePoints.j1]
  exact ev_neg (by simp) (Ev.bind (heldP_ev v.length (by omega)) (ev_neg (by omega) (ev_pos rfl (Ev.now _))))
 have j0 : Ev (fun k => laws_FnExactParsePoints.j0 k s v b v false) true := by
  refine ev_step ?_
  simp only [laws_FnExactParsePoints.j0]
  refine ev_neg (by simp) (Ev.bind (markP_ev v (by omega)) (Ev.bind (heldP_ev v.length (by omega)) (ev_neg (by omega) (ev_pos rfl (Ev.bind hi (Ev.bind (eqPts_self v (by omega)) (ev_pos rfl ?_)))))))
  rw [bne_self_eq_false]
  exact j1
 refine ev_neg h (Ev.bind hs (Ev.bind hi (Ev.bind (eqPts_self v (by omega)) (ev_pos rfl ?_))))
 simp only [bne_self_eq_false]
 exact j0
end Go.Proofs.YthhgcdfdjlijjaaDoor.Pure
namespace Go.Proofs.YthhgcdfdjlijjaaDoor.fnExactParsePoints
open Go.ChangeShapes Go.WideShapes Go.ChangeAt Go.RowKit Go.Joins
open Go.ChangeMaps (open_string shut_string)
set_option linter.unusedVariables false
theorem own : ownKnob Tryd.prog.godebug = none := by kernel_rfl
theorem str_mk {H : Type} {enc : TypeId × Value → H} {P : Program} {w : World} {base : Nat} {spare : Nat → Bool} {held : Bool} {t : TypeId} {s : ByteArray} (ht : P.underlying t = some .string) (hs : s.size ≤ maxLen) : DataW.trod enc P w base spare held 1 t [.string s] = some (.lit (.string s.data.toList), []) := by
 simp [DataW.trod, ht, hs]
set_option maxRecDepth 100000 in
theorem lifted (os : Os) (started : os.Started) (H : Type) (enc : TypeId × Value → H) :
  ReturnsInHanded {} Tryd.checked os 10 .any (fun w args => (Rows.fnExactParsePointsSpec.pre enc Tryd.prog Tryd.f10 Rows.fnExactParsePointsRow.domain false w args ∧ laidMetH Tryd.prog G.l5 w) ∧ sizedMet enc Tryd.prog Tryd.f10 (OpenSpec.ofChange Rows.fnExactParsePointsSpec) false w args) (Rows.fnExactParsePointsSpec.post enc Tryd.prog Tryd.f10 false true false false) := by
 refine Go.Proofs.YthhgcdfdjlijjaaDoor.G.handed_and_shaped (C := Tryd.checked) (X := fun w _ => laidMetH Tryd.prog G.l5 w) (fun _ _ _ hh h => h.of_heap hh) own started (by kernel_rfl) Tryd.func10
  (ChangeSpec.witness_shaped (enc := enc) (C := Tryd.checked) (os := os) (X := fun w _ => laidMetH Tryd.prog G.l5 w) false (World.doorLaid Tryd.prog 62 os) #[.string ByteArray.empty] 8 rfl (World.shaped_of_RefB (by kernel_rfl) (by kernel_rfl)) (by kernel_rfl) (by kernel_rfl) (by kernel_rfl) (G.met5 os _)) ?_
 intro W base args ds gs before hval0 hW hcnd hsz0 hL hsh _
 have hsz : (DataW.weightsEach Tryd.prog (Tryd.f10.params.toList ++ Rows.fnExactParsePointsSpec.plain.varTypes Tryd.prog) (ds ++ gs)).all (· ≤ reachBytes) = true := hsz0
 have hval : ∀ (j : Nat) t v, Tryd.f10.params[j]? = some t → args[j]? = some v → Value.okWide Tryd.prog W .any base t v := hval0
 have hW' := hW
 obtain ⟨p, q, hA0, hV, rfl, hfz, hnd⟩ := hW
 have hA : DataW.TrodAll enc Tryd.prog W 0 (fun _ => true) true Tryd.f10.params.toList args.toList ds p := hA0
 rw [Tryd.params10] at hA hval hsz
 obtain ⟨v0, vs0, d0, ds0, p0, q0, hargs, rfl, rfl, h0, r0⟩ := trodAll_cons hA
 obtain ⟨rfl, rfl, rfl⟩ := trodAll_nil r0
 obtain rfl : args = #[v0] := by cases args; simp_all
 obtain ⟨rfl, rfl⟩ := trodVars_none hV
 obtain ⟨a0, rfl, rfl, rfl, y0⟩ := open_string Tryd.underlying9 (hval 0 9 v0 rfl rfl) h0
 have w0 : a0.size ≤ 140737488351232 := by
  have z := sized_string hsz (j := 0) (t := 9) rfl rfl
  rw [Array.length_toList] at z
  exact z
 clear hA0 hval0 hsz0 hsz
 obtain ⟨k, hP⟩ := Pure.FnExactParsePoints a0 w0
 refine (PX.laws_FnExactParsePoints.calls k a0 true W hP rfl (G.laid5_T3 hL hsh)).mono fun e W' ⟨he, bel⟩ => ?_
 subst he
 exact ⟨_, rfl, _, _, _, [], _, [], hW', trodAll_mk1 (shut_bool Tryd.underlying4 _), (trodAll_cons_mk (shut_string Tryd.underlying9 y0) trodAll_mk0), rfl, bel.frame _, fun h => by cases h⟩
theorem over : Rows.fnExactParsePointsRow.holds Tryd.pinned (OpenSpec.ofChange Rows.fnExactParsePointsSpec) :=
 OpenClaim.holds_of_wide 10 Tryd.f10 rfl rfl rfl rfl rfl rfl rfl ⟨rfl, rfl, rfl, rfl, rfl⟩ rfl rfl rfl rfl rfl (by kernel_rfl) Tryd.func10 (by kernel_rfl)
  (of_decide_eq_true (by kernel_rfl)) (by unfold Func.isWrapper; first | (rw [if_pos (by decide +kernel)]; kernel_rfl) | (rw [if_neg (by decide +kernel)]; exact ⟨rfl, rfl⟩))
  (fun os started H enc _ => lifted os started H enc)
theorem proved : Rows.FnExactParsePointsCardSaid :=
 Claim7.holds_tied_plain_at .later [] [.data, .data, .data, .sentinel, .sentinel] true (true, "b6297fe4dff1945e15340171e309d32cd1111b5a543af04a2fb5a0138c81a0d9") true over (fun _ h => by cases h) (by kernel_rfl) (fun _ h => by cases h) fnExactParsePoints_row_tie rfl ⟨rfl, rfl⟩ (by kernel_rfl) rfl
  (fun f fn hf hfn => by
   obtain rfl : f = 10 := Option.some.inj (hf.symm.trans (show Tryd.prog.funcNamed "loop.example/g03104/laws.FnExactParsePoints" = some 10 by kernel_rfl))
   obtain rfl : fn = Tryd.f10 := (Option.some.inj (Tryd.func10.symm.trans hfn)).symm
   exact ⟨by kernel_rfl, fun j t ht => by
    have hm : t ∈ Tryd.f10.params.toList := Array.mem_toList_iff.2 (Array.mem_of_getElem? ht)
    have hall : (Tryd.f10.params.toList.all fun u => !Tryd.prog.wantsStandIn u) = true := by kernel_rfl
    exact (show Tryd.prog.wantsStandIn t = false by simpa using List.all_eq_true.1 hall t hm)⟩)
  (by kernel_rfl)
#print axioms proved
end Go.Proofs.YthhgcdfdjlijjaaDoor.fnExactParsePoints
namespace Go.Proofs.YthhgcdfdjlijjaaDoor
theorem fnExactParsePoints_holds : Rows.FnExactParsePointsCardSaid := fnExactParsePoints.proved
end Go.Proofs.YthhgcdfdjlijjaaDoor
