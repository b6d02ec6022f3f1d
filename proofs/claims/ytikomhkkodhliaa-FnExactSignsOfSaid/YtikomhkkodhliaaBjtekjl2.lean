/- A part of proofs about signs and points: what some functions answer, and that their calls answer so. No condition. -/
import Derived.Test.YtikomhkkodhliaaProg
import Derived.Test.YtikomhkkodhliaaV1
import Derived.Test.YtikomhkkodhliaaBjtekjl1
set_option linter.unusedVariables false
set_option linter.unusedSimpArgs false
namespace Go.Proofs.Ytikomhkkodhliaa.M
open Go.RowKit Go.Proofs.YtikomhkkodhliaaW.PrintWords
section
variable {σ τ ρ α β : Type}
/-- A piece of code: it ends with an answer, or goes on with a state. -/
def Goes (z : Except ρ σ) (K : σ → Nat → Option ρ) (g : Nat → Option ρ) : Prop :=
  match z with
  | .error v => Ev g v
  | .ok s => ∀ r, Ev (K s) r → Ev g r
variable {z : Except ρ σ} {K : σ → Nat → Option ρ}
theorem Goes.ok (s : σ) : Goes (.ok s) K (K s) := fun _ h => h
theorem Goes.error {g : Nat → Option ρ} {v : ρ} (h : Ev g v) : Goes (.error v) K g := h
theorem Goes.ret (v : ρ) : Goes (.error v) K (fun _ => some v) := Ev.now v
theorem Goes.map {g g' : Nat → Option ρ} (hg : ∀ r, Ev g' r → Ev g r) (h : Goes z K g') : Goes z K g := by
  cases z with
  | error v => exact hg _ h
  | ok s => exact fun r hr => hg _ (h r hr)
theorem Goes.step {g : Nat → Option ρ} (h : Goes z K (fun k => g (k + 1))) : Goes z K g := Goes.map (fun _ => ev_step) h
theorem Goes.pos {c : Prop} [Decidable c] {a b : Nat → Option ρ} (hc : c) (h : Goes z K a) : Goes z K (fun k => if c then a k else b k) := Goes.map (fun _ => ev_pos hc) h
theorem Goes.neg {c : Prop} [Decidable c] {a b : Nat → Option ρ} (hc : ¬ c) (h : Goes z K b) : Goes z K (fun k => if c then a k else b k) := Goes.map (fun _ => ev_neg hc) h
theorem Goes.call {x : Option α} {a : α} {f : Nat → α → Option ρ} (hx : x = some a) (h : Goes z K (fun k => f k a)) : Goes z K (fun k => x.bind (f k)) := Goes.map (fun _ => ev_call hx) h
theorem Goes.ev {x : Nat → Option α} {a : α} {f : Nat → α → Option ρ} (hx : Ev x a) (h : Goes z K (fun k => f k a)) : Goes z K (fun k => (x k).bind (f k)) := Goes.map (fun _ => Ev.bind hx) h
theorem Goes.bind {y : Except ρ τ} {f : τ → Except ρ σ} {K' : τ → Nat → Option ρ} {g : Nat → Option ρ} (h : Goes y K' g) (h' : ∀ s, Goes (f s) K (K' s)) : Goes (y >>= f) K g := by
  cases y with
  | error v => exact h
  | ok s => exact Goes.map (h ·) (h' s)
theorem Goes.cast {z' : Except ρ σ} {g : Nat → Option ρ} (h : Goes z K g) (e : z = z') : Goes z' K g := e ▸ h
theorem Goes.onK {K' : σ → Nat → Option ρ} {g : Nat → Option ρ} (h : Goes z K g) (hk : ∀ s r, Ev (K' s) r → Ev (K s) r) : Goes z K' g := by
  cases z with
  | error v => exact h
  | ok s => exact fun r hr => h r (hk _ _ hr)
/-- The answer of a piece: its own, or what follows it. -/
theorem Goes.out {g : Nat → Option ρ} {r : ρ} (h : Goes z K g) (he : ∀ v, z = .error v → v = r) (ho : ∀ s, z = .ok s → Ev (K s) r) : Ev g r := by
  cases z with
  | error v => exact he v rfl ▸ h
  | ok s => exact h r (ho s rfl)
/-- A loop that counts up to n. -/
theorem loop_up {lo n : Nat} {L : Int → σ → Nat → Option ρ} (dec : σ → Nat → Except ρ σ) (hf : ∀ s, Goes (.ok s) K (L (n : Int) s))
    (hb : ∀ i, lo ≤ i → i < n → ∀ s, Goes (dec s i) (fun s => L ((i + 1 : Nat) : Int) s) (L (i : Int) s)) (hlo : lo ≤ n) (s : σ) : Goes ((List.range' lo (n - lo)).foldlM dec s) K (L (lo : Int) s) := by
  have key : ∀ d i, lo ≤ i → i + d = n → ∀ s, Goes ((List.range' i d).foldlM dec s) K (L (i : Int) s) := by
    intro d
    induction d with
    | zero =>
      intro i _ hi s
      obtain rfl : i = n := by omega
      exact hf s
    | succ d ih =>
      intro i hl hi s
      rw [List.range'_succ, List.foldlM_cons]
      exact Goes.bind (hb i hl (by omega) s) (fun s => ih (i + 1) (by omega) (by omega) s)
  exact key (n - lo) lo (Nat.le_refl _) (by omega) s
/-- The same with a fact on the state that each round keeps. -/
theorem loop_up' {lo n : Nat} {L : Int → σ → Nat → Option ρ} (I : Nat → σ → Prop) (dec : σ → Nat → Except ρ σ) (hf : ∀ s, I n s → Goes (.ok s) K (L (n : Int) s))
    (hb : ∀ i, lo ≤ i → i < n → ∀ s, I i s → Goes (dec s i) (fun s => L ((i + 1 : Nat) : Int) s) (L (i : Int) s)) (hi : ∀ i, lo ≤ i → i < n → ∀ s, I i s → ∀ s', dec s i = .ok s' → I (i + 1) s') (hlo : lo ≤ n) (s : σ) (hs : I lo s) :
    Goes ((List.range' lo (n - lo)).foldlM dec s) K (L (lo : Int) s) := by
  have key : ∀ d i, lo ≤ i → i + d = n → ∀ s, I i s → Goes ((List.range' i d).foldlM dec s) K (L (i : Int) s) := by
    intro d
    induction d with
    | zero =>
      intro i _ hid s hs
      obtain rfl : i = n := by omega
      exact hf s hs
    | succ d ih =>
      intro i hl hid s hs
      rw [List.range'_succ, List.foldlM_cons]
      have h := hb i hl (by omega) s hs
      have h' := hi i hl (by omega) s hs
      cases hd : dec s i with
      | error v => rw [hd] at h; exact h
      | ok s' =>
        rw [hd] at h
        exact Goes.map (h ·) (ih (i + 1) (by omega) (by omega) s' (h' s' hd))
  exact key (n - lo) lo (Nat.le_refl _) (by omega) s hs
theorem foldlM_flatMap (f : α → List β) (g : σ → β → Except ρ σ) (l : List α) : ∀ s, (l.flatMap f).foldlM g s = l.foldlM (fun s a => (f a).foldlM g s) s := by
  induction l with
  | nil => intro s; rfl
  | cons x l ih =>
    intro s
    rw [List.flatMap_cons, List.foldlM_append, List.foldlM_cons]
    congr 1
    funext s
    exact ih s
theorem foldlM_mapx (f : α → β) (g : σ → β → Except ρ σ) (l : List α) : ∀ s, (l.map f).foldlM g s = l.foldlM (fun s a => g s (f a)) s := by
  induction l with
  | nil => intro s; rfl
  | cons x l ih =>
    intro s
    rw [List.map_cons, List.foldlM_cons, List.foldlM_cons]
    congr 1
    funext s
    exact ih s
theorem foldlM_ok (g : σ → α → σ) (l : List α) : ∀ s, (l.foldlM (fun s a => (.ok (g s a) : Except ρ σ)) s) = .ok (l.foldl g s) := by
  induction l with
  | nil => intro s; rfl
  | cons x l ih => intro s; exact ih (g s x)
theorem foldlM_find (c : α → Bool) (v : α → ρ) (l : List α) : l.foldlM (fun (_ : Unit) a => if c a then (.error (v a) : Except ρ Unit) else .ok ()) () = match l.find? c with | some a => .error (v a) | none => .ok () := by
  induction l with
  | nil => rfl
  | cons x l ih =>
    rw [List.foldlM_cons, List.find?_cons]
    cases hx : c x with
    | true => rfl
    | false => exact ih
theorem foldlM_any (c : α → Bool) (v : ρ) (l : List α) : l.foldlM (fun (_ : Unit) a => if c a then (.error v : Except ρ Unit) else .ok ()) () = if l.any c then .error v else .ok () := by
  rw [foldlM_find c (fun _ => v) l]
  cases h : l.find? c with
  | none =>
    have : l.any c = false := by simpa using h
    rw [this]; rfl
  | some a =>
    have : l.any c = true := List.any_eq_true.2 ⟨a, List.mem_of_find?_eq_some h, List.find?_some h⟩
    rw [this]; rfl
end
/-- A loop over a list's places, as a fold over the list. -/
theorem foldlM_index {σ ρ α : Type} (d : α) (f : σ → α → Except ρ σ) (l : List α) (s : σ) : (List.range' 0 (l.length - 0)).foldlM (fun s i => f s (l.getD i d)) s = l.foldlM f s := by
  have key : ∀ (l' pre : List α) (s : σ), pre ++ l' = l → (List.range' pre.length l'.length).foldlM (fun s i => f s (l.getD i d)) s = l'.foldlM f s := by
    intro l'
    induction l' with
    | nil => intro pre s _; rfl
    | cons x l' ih =>
      intro pre s h
      have hx : l.getD pre.length d = x := by
        rw [← h, List.getD_eq_getElem?_getD, List.getElem?_append_right (Nat.le_refl _), Nat.sub_self]
        rfl
      rw [List.length_cons, List.range'_succ, List.foldlM_cons, List.foldlM_cons, hx]
      congr 1
      funext s
      have := ih (pre ++ [x]) s (by rw [← h, List.append_assoc]; rfl)
      rw [List.length_append] at this
      exact this
  rw [Nat.sub_zero]
  exact key l [] s rfl
theorem foldl_filter {α β : Type} (c : α → Bool) (f : α → β) (l : List α) : ∀ s : List β, l.foldl (fun s a => if c a then s ++ [f a] else s) s = s ++ (l.filter c).map f := by
  induction l with
  | nil => intro s; simp
  | cons x l ih =>
    intro s
    rw [List.foldl_cons, ih, List.filter_cons]
    split
    · rw [List.map_cons, List.append_assoc]; rfl
    · rfl
/-- The ascending twos, threes and fours below n. -/
def upFrom (n a : Nat) : List Nat := List.range' (a + 1) (n - (a + 1))
def pairsL (n : Nat) : List (Nat × Nat) := (List.range' 0 n).flatMap fun a => (upFrom n a).map fun b => (a, b)
def tripsL (n : Nat) : List (Nat × Nat × Nat) := (List.range' 0 n).flatMap fun a => (upFrom n a).flatMap fun b => (upFrom n b).map fun c => (a, b, c)
def quadsL (n : Nat) : List (Nat × Nat × Nat × Nat) := (List.range' 0 n).flatMap fun a => (upFrom n a).flatMap fun b => (upFrom n b).flatMap fun c => (upFrom n c).map fun d => (a, b, c, d)
theorem mem_upFrom {n a b : Nat} (h : b ∈ upFrom n a) : a < b ∧ b < n := by
  simp only [upFrom, List.mem_range'_1] at h
  omega
theorem mem_pairs {n a b : Nat} (h : (a, b) ∈ pairsL n) : a < b ∧ b < n := by
  simp only [pairsL, List.mem_flatMap, List.mem_map, Prod.mk.injEq] at h
  obtain ⟨x, _, y, hy, rfl, rfl⟩ := h
  exact mem_upFrom hy
theorem mem_trips {n a b c : Nat} (h : (a, b, c) ∈ tripsL n) : a < b ∧ b < c ∧ c < n := by
  simp only [tripsL, List.mem_flatMap, List.mem_map, Prod.mk.injEq] at h
  obtain ⟨x, _, y, hy, z, hz, rfl, rfl, rfl⟩ := h
  have := mem_upFrom hy
  have := mem_upFrom hz
  omega
theorem mem_quads {n a b c d : Nat} (h : (a, b, c, d) ∈ quadsL n) : a < b ∧ b < c ∧ c < d ∧ d < n := by
  simp only [quadsL, List.mem_flatMap, List.mem_map, Prod.mk.injEq] at h
  obtain ⟨x, _, y, hy, z, hz, u, hu, rfl, rfl, rfl, rfl⟩ := h
  have := mem_upFrom hy
  have := mem_upFrom hz
  have := mem_upFrom hu
  omega
theorem pairs_mem {n a b : Nat} (h1 : a < b) (h2 : b < n) : (a, b) ∈ pairsL n := by
  simp only [pairsL, List.mem_flatMap, List.mem_map, Prod.mk.injEq, upFrom, List.mem_range'_1]
  exact ⟨a, by omega, b, by omega, rfl, rfl⟩
theorem trips_mem {n a b c : Nat} (h1 : a < b) (h2 : b < c) (h3 : c < n) : (a, b, c) ∈ tripsL n := by
  simp only [tripsL, List.mem_flatMap, List.mem_map, Prod.mk.injEq, upFrom, List.mem_range'_1]
  exact ⟨a, by omega, b, by omega, c, by omega, rfl, rfl, rfl⟩
theorem quads_mem {n a b c d : Nat} (h1 : a < b) (h2 : b < c) (h3 : c < d) (h4 : d < n) : (a, b, c, d) ∈ quadsL n := by
  simp only [quadsL, List.mem_flatMap, List.mem_map, Prod.mk.injEq, upFrom, List.mem_range'_1]
  exact ⟨a, by omega, b, by omega, c, by omega, d, by omega, rfl, rfl, rfl, rfl⟩
section
variable {σ ρ : Type} {n : Nat} {K : σ → Nat → Option ρ}
/-- Two, three, four loops in each other, over ascending numbers. -/
theorem loops2 {L0 : Int → σ → Nat → Option ρ} {L1 : Int → Int → σ → Nat → Option ρ} (dec : σ → Nat × Nat → Except ρ σ)
    (e0 : ∀ s, Goes (.ok s) K (L0 (n : Int) s)) (s0 : ∀ a, a < n → ∀ s, Goes (.ok s) (fun s => L1 (a : Int) ((a + 1 : Nat) : Int) s) (L0 (a : Int) s))
    (e1 : ∀ a, a < n → ∀ s, Goes (.ok s) (fun s => L0 ((a + 1 : Nat) : Int) s) (L1 (a : Int) (n : Int) s))
    (hb : ∀ a b, a < b → b < n → ∀ s, Goes (dec s (a, b)) (fun s => L1 (a : Int) ((b + 1 : Nat) : Int) s) (L1 (a : Int) (b : Int) s)) (s : σ) : Goes ((pairsL n).foldlM dec s) K (L0 0 s) := by
  have h := loop_up (K := K) (L := L0) (lo := 0) (n := n) (fun s a => (upFrom n a).foldlM (fun s b => dec s (a, b)) s) e0 (fun a _ ha s => ?_) (by omega) s
  · refine Goes.cast h ?_
    rw [pairsL, foldlM_flatMap]
    simp only [foldlM_mapx, Nat.sub_zero]
  · exact Goes.map (fun _ => s0 a ha s _) (loop_up (K := fun s => L0 ((a + 1 : Nat) : Int) s) (L := L1 (a : Int)) (fun s b => dec s (a, b)) (e1 a ha) (fun b hl hb' s => hb a b (by omega) hb' s) (by omega) s)
theorem loops3 {L0 : Int → σ → Nat → Option ρ} {L1 : Int → Int → σ → Nat → Option ρ} {L2 : Int → Int → Int → σ → Nat → Option ρ} (dec : σ → Nat × Nat × Nat → Except ρ σ)
    (e0 : ∀ s, Goes (.ok s) K (L0 (n : Int) s)) (s0 : ∀ a, a < n → ∀ s, Goes (.ok s) (fun s => L1 (a : Int) ((a + 1 : Nat) : Int) s) (L0 (a : Int) s))
    (e1 : ∀ a, a < n → ∀ s, Goes (.ok s) (fun s => L0 ((a + 1 : Nat) : Int) s) (L1 (a : Int) (n : Int) s)) (s1 : ∀ a b, a < b → b < n → ∀ s, Goes (.ok s) (fun s => L2 (a : Int) (b : Int) ((b + 1 : Nat) : Int) s) (L1 (a : Int) (b : Int) s))
    (e2 : ∀ a b, a < b → b < n → ∀ s, Goes (.ok s) (fun s => L1 (a : Int) ((b + 1 : Nat) : Int) s) (L2 (a : Int) (b : Int) (n : Int) s))
    (hb : ∀ a b c, a < b → b < c → c < n → ∀ s, Goes (dec s (a, b, c)) (fun s => L2 (a : Int) (b : Int) ((c + 1 : Nat) : Int) s) (L2 (a : Int) (b : Int) (c : Int) s)) (s : σ) : Goes ((tripsL n).foldlM dec s) K (L0 0 s) := by
  refine Goes.cast (loops2 (n := n) (K := K) (L0 := L0) (L1 := L1) (fun s p => (upFrom n p.2).foldlM (fun s c => dec s (p.1, p.2, c)) s) e0 s0 e1 (fun a b hab hb' s => ?_) s) ?_
  · exact Goes.map (fun _ => s1 a b hab hb' s _) (loop_up (K := fun s => L1 (a : Int) ((b + 1 : Nat) : Int) s) (L := L2 (a : Int) (b : Int)) (fun s c => dec s (a, b, c)) (e2 a b hab hb') (fun c hl hc s => hb a b c hab (by omega) hc s) (by omega) s)
  · simp only [pairsL, tripsL, foldlM_flatMap, foldlM_mapx]
theorem loops4 {L0 : Int → σ → Nat → Option ρ} {L1 : Int → Int → σ → Nat → Option ρ} {L2 : Int → Int → Int → σ → Nat → Option ρ} {L3 : Int → Int → Int → Int → σ → Nat → Option ρ} (dec : σ → Nat × Nat × Nat × Nat → Except ρ σ)
    (e0 : ∀ s, Goes (.ok s) K (L0 (n : Int) s)) (s0 : ∀ a, a < n → ∀ s, Goes (.ok s) (fun s => L1 (a : Int) ((a + 1 : Nat) : Int) s) (L0 (a : Int) s))
    (e1 : ∀ a, a < n → ∀ s, Goes (.ok s) (fun s => L0 ((a + 1 : Nat) : Int) s) (L1 (a : Int) (n : Int) s)) (s1 : ∀ a b, a < b → b < n → ∀ s, Goes (.ok s) (fun s => L2 (a : Int) (b : Int) ((b + 1 : Nat) : Int) s) (L1 (a : Int) (b : Int) s))
    (e2 : ∀ a b, a < b → b < n → ∀ s, Goes (.ok s) (fun s => L1 (a : Int) ((b + 1 : Nat) : Int) s) (L2 (a : Int) (b : Int) (n : Int) s)) (s2 : ∀ a b c, a < b → b < c → c < n → ∀ s, Goes (.ok s) (fun s => L3 (a : Int) (b : Int) (c : Int) ((c + 1 : Nat) : Int) s) (L2 (a : Int) (b : Int) (c : Int) s))
    (e3 : ∀ a b c, a < b → b < c → c < n → ∀ s, Goes (.ok s) (fun s => L2 (a : Int) (b : Int) ((c + 1 : Nat) : Int) s) (L3 (a : Int) (b : Int) (c : Int) (n : Int) s))
    (hb : ∀ a b c d, a < b → b < c → c < d → d < n → ∀ s, Goes (dec s (a, b, c, d)) (fun s => L3 (a : Int) (b : Int) (c : Int) ((d + 1 : Nat) : Int) s) (L3 (a : Int) (b : Int) (c : Int) (d : Int) s)) (s : σ) : Goes ((quadsL n).foldlM dec s) K (L0 0 s) := by
  refine Goes.cast (loops3 (n := n) (K := K) (L0 := L0) (L1 := L1) (L2 := L2) (fun s p => (upFrom n p.2.2).foldlM (fun s d => dec s (p.1, p.2.1, p.2.2, d)) s) e0 s0 e1 s1 e2 (fun a b c hab hbc hc s => ?_) s) ?_
  · exact Goes.map (fun _ => s2 a b c hab hbc hc s _) (loop_up (lo := c + 1) (n := n) (K := fun s => L2 (a : Int) (b : Int) ((c + 1 : Nat) : Int) s) (L := L3 (a : Int) (b : Int) (c : Int)) (fun s d => dec s (a, b, c, d)) (e3 a b c hab hbc hc) (fun d hl hd s => hb a b c d hab hbc (by omega) hd s) (by omega) s)
  · simp only [tripsL, quadsL, foldlM_flatMap, foldlM_mapx]
/-- A fold whose rounds make a measure grow by one at most. -/
theorem fold_len {α : Type} (len : σ → Nat) {dec : σ → α → Except ρ σ} (hl : ∀ s x s', dec s x = .ok s' → len s' ≤ len s + 1) (l : List α) : ∀ s s', l.foldlM dec s = .ok s' → len s' ≤ len s + l.length := by
  induction l with
  | nil => intro s s' h; cases h; exact Nat.le_refl _
  | cons x l ih =>
    intro s s' h
    rw [List.foldlM_cons] at h
    cases hd : dec s x with
    | error v => rw [hd] at h; cases h
    | ok s1 =>
      rw [hd] at h
      have h1 := hl _ _ _ hd
      have h2 := ih s1 s' h
      rw [List.length_cons]
      omega
theorem upFrom_length (n a : Nat) : (upFrom n a).length = n - (a + 1) := List.length_range' ..
/-- The same loops, where a measure of the state is bounded: each round makes it grow by one at most. -/
theorem loops2B {L0 : Int → σ → Nat → Option ρ} {L1 : Int → Int → σ → Nat → Option ρ} (hn : n ≤ 7) (len : σ → Nat) (B : Nat) (dec : σ → Nat × Nat → Except ρ σ) (hl : ∀ s x s', dec s x = .ok s' → len s' ≤ len s + 1)
    (e0 : ∀ s, Goes (.ok s) K (L0 (n : Int) s)) (s0 : ∀ a, a < n → ∀ s, Goes (.ok s) (fun s => L1 (a : Int) ((a + 1 : Nat) : Int) s) (L0 (a : Int) s))
    (e1 : ∀ a, a < n → ∀ s, Goes (.ok s) (fun s => L0 ((a + 1 : Nat) : Int) s) (L1 (a : Int) (n : Int) s))
    (hb : ∀ a b, a < b → b < n → ∀ s, len s ≤ B + 49 → Goes (dec s (a, b)) (fun s => L1 (a : Int) ((b + 1 : Nat) : Int) s) (L1 (a : Int) (b : Int) s)) (s : σ) (hs : len s ≤ B) : Goes ((pairsL n).foldlM dec s) K (L0 0 s) := by
  have h := loop_up' (K := K) (L := L0) (lo := 0) (n := n) (fun a s => len s ≤ B + 7 * a) (fun s a => (upFrom n a).foldlM (fun s b => dec s (a, b)) s) (fun s _ => e0 s) (fun a _ ha s hs => ?_) (fun a _ ha s hs s' e => ?_) (by omega) s (by omega)
  · refine Goes.cast h ?_
    rw [pairsL, foldlM_flatMap]
    simp only [foldlM_mapx, Nat.sub_zero]
  · exact Goes.map (fun _ => s0 a ha s _) (loop_up' (lo := a + 1) (n := n) (K := fun s => L0 ((a + 1 : Nat) : Int) s) (L := L1 (a : Int)) (fun b s => len s ≤ B + 7 * a + b) (fun s b => dec s (a, b)) (fun s _ => e1 a ha s)
      (fun b hlo hb' s hs => hb a b (by omega) hb' s (by omega)) (fun b hlo hb' s hs s' e => by have := hl _ _ _ e; omega) (by omega) s (by omega))
  · have := fold_len len (fun s x s' => hl s (a, x) s') _ _ _ e
    rw [upFrom_length] at this
    omega
theorem loops3B {L0 : Int → σ → Nat → Option ρ} {L1 : Int → Int → σ → Nat → Option ρ} {L2 : Int → Int → Int → σ → Nat → Option ρ} (hn : n ≤ 7) (len : σ → Nat) (B : Nat) (dec : σ → Nat × Nat × Nat → Except ρ σ) (hl : ∀ s x s', dec s x = .ok s' → len s' ≤ len s + 1)
    (e0 : ∀ s, Goes (.ok s) K (L0 (n : Int) s)) (s0 : ∀ a, a < n → ∀ s, Goes (.ok s) (fun s => L1 (a : Int) ((a + 1 : Nat) : Int) s) (L0 (a : Int) s))
    (e1 : ∀ a, a < n → ∀ s, Goes (.ok s) (fun s => L0 ((a + 1 : Nat) : Int) s) (L1 (a : Int) (n : Int) s)) (s1 : ∀ a b, a < b → b < n → ∀ s, Goes (.ok s) (fun s => L2 (a : Int) (b : Int) ((b + 1 : Nat) : Int) s) (L1 (a : Int) (b : Int) s))
    (e2 : ∀ a b, a < b → b < n → ∀ s, Goes (.ok s) (fun s => L1 (a : Int) ((b + 1 : Nat) : Int) s) (L2 (a : Int) (b : Int) (n : Int) s))
    (hb : ∀ a b c, a < b → b < c → c < n → ∀ s, len s ≤ B + 343 → Goes (dec s (a, b, c)) (fun s => L2 (a : Int) (b : Int) ((c + 1 : Nat) : Int) s) (L2 (a : Int) (b : Int) (c : Int) s)) (s : σ) (hs : len s ≤ B) : Goes ((tripsL n).foldlM dec s) K (L0 0 s) := by
  have h := loop_up' (K := K) (L := L0) (lo := 0) (n := n) (fun a s => len s ≤ B + 49 * a) (fun s a => (upFrom n a).foldlM (fun s b => (upFrom n b).foldlM (fun s c => dec s (a, b, c)) s) s) (fun s _ => e0 s) (fun a _ ha s hs => ?_) (fun a _ ha s hs s' e => ?_) (by omega) s (by omega)
  · refine Goes.cast h ?_
    rw [tripsL, foldlM_flatMap]
    simp only [foldlM_mapx, foldlM_flatMap, Nat.sub_zero]
  · refine Goes.map (fun _ => s0 a ha s _) (loop_up' (lo := a + 1) (n := n) (K := fun s => L0 ((a + 1 : Nat) : Int) s) (L := L1 (a : Int)) (fun b s => len s ≤ B + 49 * a + 7 * b) (fun s b => (upFrom n b).foldlM (fun s c => dec s (a, b, c)) s) (fun s _ => e1 a ha s)
      (fun b hlo hb' s hs => ?_) (fun b hlo hb' s hs s' e => ?_) (by omega) s (by omega))
    · exact Goes.map (fun _ => s1 a b (by omega) hb' s _) (loop_up' (lo := b + 1) (n := n) (K := fun s => L1 (a : Int) ((b + 1 : Nat) : Int) s) (L := L2 (a : Int) (b : Int)) (fun c s => len s ≤ B + 49 * a + 7 * b + c) (fun s c => dec s (a, b, c)) (fun s _ => e2 a b (by omega) hb' s)
        (fun c hl' hc s hs => hb a b c (by omega) (by omega) hc s (by omega)) (fun c hl' hc s hs s' e => by have := hl _ _ _ e; omega) (by omega) s (by omega))
    · have := fold_len len (fun s x s' => hl s (a, b, x) s') _ _ _ e
      rw [upFrom_length] at this
      omega
  · have key : ∀ (l : List Nat), ∀ s s', l.foldlM (fun s b => (upFrom n b).foldlM (fun s c => dec s (a, b, c)) s) s = .ok s' → len s' ≤ len s + 7 * l.length := by
      intro l
      induction l with
      | nil => intro s s' h; cases h; exact Nat.le_refl _
      | cons x l ih =>
        intro s s' h
        rw [List.foldlM_cons] at h
        cases hd : (upFrom n x).foldlM (fun s c => dec s (a, x, c)) s with
        | error v => rw [hd] at h; cases h
        | ok s1 =>
          rw [hd] at h
          have h1 := fold_len len (fun s y s' => hl s (a, x, y) s') _ _ _ hd
          have h2 := ih s1 s' h
          rw [upFrom_length] at h1
          rw [List.length_cons]
          omega
    have := key _ _ _ e
    rw [upFrom_length] at this
    omega
theorem fold_len2 {n : Nat} (hn : n ≤ 7) {α : Type} (len : σ → Nat) (w : Nat) {dec : σ → α → Except ρ σ} (hl : ∀ s x s', dec s x = .ok s' → len s' ≤ len s + w) (l : List α) : ∀ s s', l.foldlM dec s = .ok s' → len s' ≤ len s + w * l.length := by
  induction l with
  | nil => intro s s' h; cases h; exact Nat.le_refl _
  | cons x l ih =>
    intro s s' h
    rw [List.foldlM_cons] at h
    cases hd : dec s x with
    | error v => rw [hd] at h; cases h
    | ok s1 =>
      rw [hd] at h
      have h1 := hl _ _ _ hd
      have h2 := ih s1 s' h
      rw [List.length_cons, Nat.mul_succ]
      omega
set_option maxRecDepth 8000 in
theorem loops4B {L0 : Int → σ → Nat → Option ρ} {L1 : Int → Int → σ → Nat → Option ρ} {L2 : Int → Int → Int → σ → Nat → Option ρ} {L3 : Int → Int → Int → Int → σ → Nat → Option ρ} (hn : n ≤ 7) (len : σ → Nat) (B : Nat) (dec : σ → Nat × Nat × Nat × Nat → Except ρ σ) (hl : ∀ s x s', dec s x = .ok s' → len s' ≤ len s + 1)
    (e0 : ∀ s, Goes (.ok s) K (L0 (n : Int) s)) (s0 : ∀ a, a < n → ∀ s, Goes (.ok s) (fun s => L1 (a : Int) ((a + 1 : Nat) : Int) s) (L0 (a : Int) s))
    (e1 : ∀ a, a < n → ∀ s, Goes (.ok s) (fun s => L0 ((a + 1 : Nat) : Int) s) (L1 (a : Int) (n : Int) s)) (s1 : ∀ a b, a < b → b < n → ∀ s, Goes (.ok s) (fun s => L2 (a : Int) (b : Int) ((b + 1 : Nat) : Int) s) (L1 (a : Int) (b : Int) s))
    (e2 : ∀ a b, a < b → b < n → ∀ s, Goes (.ok s) (fun s => L1 (a : Int) ((b + 1 : Nat) : Int) s) (L2 (a : Int) (b : Int) (n : Int) s)) (s2 : ∀ a b c, a < b → b < c → c < n → ∀ s, Goes (.ok s) (fun s => L3 (a : Int) (b : Int) (c : Int) ((c + 1 : Nat) : Int) s) (L2 (a : Int) (b : Int) (c : Int) s))
    (e3 : ∀ a b c, a < b → b < c → c < n → ∀ s, Goes (.ok s) (fun s => L2 (a : Int) (b : Int) ((c + 1 : Nat) : Int) s) (L3 (a : Int) (b : Int) (c : Int) (n : Int) s))
    (hb : ∀ a b c d, a < b → b < c → c < d → d < n → ∀ s, len s ≤ B + 2401 → Goes (dec s (a, b, c, d)) (fun s => L3 (a : Int) (b : Int) (c : Int) ((d + 1 : Nat) : Int) s) (L3 (a : Int) (b : Int) (c : Int) (d : Int) s)) (s : σ) (hs : len s ≤ B) : Goes ((quadsL n).foldlM dec s) K (L0 0 s) := by
  have f3 : ∀ a b c : Nat, ∀ s s', (upFrom n c).foldlM (fun s d => dec s (a, b, c, d)) s = .ok s' → len s' ≤ len s + 7 := fun a b c s s' h => by
    have := fold_len len (fun s x s' => hl s (a, b, c, x) s') _ _ _ h
    rw [upFrom_length] at this
    omega
  have f2 : ∀ a b : Nat, ∀ s s', (upFrom n b).foldlM (fun s c => (upFrom n c).foldlM (fun s d => dec s (a, b, c, d)) s) s = .ok s' → len s' ≤ len s + 49 := fun a b s s' h => by
    have := fold_len2 hn len 7 (fun s x s' => f3 a b x s s') _ _ _ h
    rw [upFrom_length] at this
    omega
  have f1 : ∀ a : Nat, ∀ s s', (upFrom n a).foldlM (fun s b => (upFrom n b).foldlM (fun s c => (upFrom n c).foldlM (fun s d => dec s (a, b, c, d)) s) s) s = .ok s' → len s' ≤ len s + 343 := fun a s s' h => by
    have := fold_len2 hn len 49 (fun s x s' => f2 a x s s') _ _ _ h
    rw [upFrom_length] at this
    omega
  have h := loop_up' (K := K) (L := L0) (lo := 0) (n := n) (fun a s => len s ≤ B + 343 * a) (fun s a => (upFrom n a).foldlM (fun s b => (upFrom n b).foldlM (fun s c => (upFrom n c).foldlM (fun s d => dec s (a, b, c, d)) s) s) s) (fun s _ => e0 s) (fun a _ ha s hs => ?_) (fun a _ ha s hs s' e => by have := f1 a _ _ e; omega) (by omega) s (by omega)
  · refine Goes.cast h ?_
    rw [quadsL, foldlM_flatMap]
    simp only [foldlM_mapx, foldlM_flatMap, Nat.sub_zero]
  · refine Goes.map (fun _ => s0 a ha s _) (loop_up' (lo := a + 1) (n := n) (K := fun s => L0 ((a + 1 : Nat) : Int) s) (L := L1 (a : Int)) (fun b s => len s ≤ B + 343 * a + 49 * b) (fun s b => (upFrom n b).foldlM (fun s c => (upFrom n c).foldlM (fun s d => dec s (a, b, c, d)) s) s) (fun s _ => e1 a ha s)
      (fun b hlo hb' s hs => ?_) (fun b hlo hb' s hs s' e => by have := f2 a b _ _ e; omega) (by omega) s (by omega))
    refine Goes.map (fun _ => s1 a b (by omega) hb' s _) (loop_up' (lo := b + 1) (n := n) (K := fun s => L1 (a : Int) ((b + 1 : Nat) : Int) s) (L := L2 (a : Int) (b : Int)) (fun c s => len s ≤ B + 343 * a + 49 * b + 7 * c) (fun s c => (upFrom n c).foldlM (fun s d => dec s (a, b, c, d)) s) (fun s _ => e2 a b (by omega) hb' s)
      (fun c hl' hc s hs => ?_) (fun c hl' hc s hs s' e => by have := f3 a b c _ _ e; omega) (by omega) s (by omega))
    exact Goes.map (fun _ => s2 a b c (by omega) (by omega) hc s _) (loop_up' (lo := c + 1) (n := n) (K := fun s => L2 (a : Int) (b : Int) ((c + 1 : Nat) : Int) s) (L := L3 (a : Int) (b : Int) (c : Int)) (fun d s => len s ≤ B + 343 * a + 49 * b + 7 * c + d) (fun s d => dec s (a, b, c, d)) (fun s _ => e3 a b c (by omega) (by omega) hc s)
      (fun d hd' hd s hs => hb a b c d (by omega) (by omega) (by omega) hd s (by omega)) (fun d hd' hd s hs s' e => by have := hl _ _ _ e; omega) (by omega) s (by omega))
theorem foldlM_okL {α : Type} (g : σ → α → σ) (len : σ → Nat) (hg : ∀ s a, len (g s a) ≤ len s + 1) : ∀ s x s', (fun s a => (.ok (g s a) : Except ρ σ)) s x = .ok s' → len s' ≤ len s + 1 := by
  intro s x s' h
  cases h
  exact hg s x
end
end Go.Proofs.Ytikomhkkodhliaa.M
namespace Go.Proofs.Ytikomhkkodhliaa.M
open Go.RowKit Go.Proofs.YtikomhkkodhliaaW.PrintWords Go.Proofs.Ytikomhkkodhliaa.PX
abbrev LP := S34
abbrev IP := S36
def toPt (p : LP) : IP := ⟨p.f0, p.f1⟩
theorem rdLP {l : List LP} {i : Nat} (h : i < l.length) : rd_T34 l (i : Int) = l[i] := by
  unfold rd_T34
  rw [Int.toNat_natCast, List.getD_eq_getElem?_getD, List.getElem?_eq_getElem h]
  rfl
theorem toPts_loop (l : List LP) (hl : l.length ≤ 10000000) (d : Nat) : ∀ i : Nat, i + d = l.length → Ev (fun k => laws_toPointS.l0 k l ((l.map toPt).take i ++ List.replicate d z36) (i : Int)) (l.map toPt) := by
  induction d with
  | zero =>
    intro i hi
    refine ev_step ?_
    simp only [laws_toPointS.l0]
    refine ev_neg (by omega) (ev_cast (Ev.now _) ?_)
    rw [List.replicate_zero, List.append_nil, List.take_of_length_le (by rw [List.length_map]; omega)]
  | succ d ih =>
    intro i hi
    have hlt : i < l.length := by omega
    have hl' : i < (l.map toPt).length := by rw [List.length_map]; omega
    refine ev_step ?_
    simp only [laws_toPointS.l0]
    refine ev_pos (by omega) (ev_pos (by omega) (ev_call rfl (ev_pos ?_ ?_)))
    · rw [List.length_append, List.length_take, List.length_replicate, List.length_map]; omega
    · rw [rdLP hlt, wrap_id (x := (i : Int) + 1) (by omega) (by omega)]
      have e : ((l.map toPt).take i ++ List.replicate (d + 1) z36).set (i : Int).toNat (⟨l[i].f0, l[i].f1⟩ : IP) = (l.map toPt).take (i + 1) ++ List.replicate d z36 := by
        rw [Int.toNat_natCast, List.set_append_right _ _ (by rw [List.length_take]; omega), List.length_take, List.length_map, show i - min i l.length = 0 by omega, List.replicate_succ, List.set_cons_zero, List.take_add_one, List.getElem?_eq_getElem hl', List.getElem_map, List.append_assoc]
        rfl
      have g := ih (i + 1) (by omega)
      rw [← e] at g
      exact g
theorem toPts_ev (l : List LP) (hl : l.length ≤ 10000000) : Ev (fun k => laws_toPointS.f k l) (l.map toPt) := by
  unfold laws_toPointS.f
  rw [Int.toNat_natCast]
  have := toPts_loop l hl l.length 0 (by omega)
  rw [List.take_zero, List.nil_append] at this
  exact ev_pos (by omega) (ev_pos (by omega) this)
theorem szPts (l : List LP) (m : Int) : ∃ r, laws_szPointS.f l m = some r := by
  unfold laws_szPointS.f
  split <;> exact ⟨_, rfl⟩
theorem szPts_le (l : List LP) (m r : Int) (hm : m ≤ 1048576) (h0 : 0 ≤ m) (hl : l.length ≤ 9223372036854775807) (h : laws_szPointS.f l m = some r) (hr : ¬ r < 0) : l.length ≤ 1048576 ∧ r ≤ 1048576 ∧ 0 ≤ r := by
  unfold laws_szPointS.f at h
  rw [wrap_id (by omega) (by omega)] at h
  split at h
  · cases h; omega
  · cases h; omega
theorem rdIP {l : List IP} {i : Nat} (h : i < l.length) : rd_T36 l (i : Int) = l[i] := by
  unfold rd_T36
  rw [Int.toNat_natCast, List.getD_eq_getElem?_getD, List.getElem?_eq_getElem h]
  rfl
theorem eqPts_loop (l : List IP) (hl : l.length ≤ 10000000) (d : Nat) : ∀ i : Nat, i + d = l.length → Ev (fun k => laws_eqPointS.l0 k l l (i : Int)) true := by
  induction d with
  | zero =>
    intro i hi
    refine ev_step ?_
    simp only [laws_eqPointS.l0]
    exact ev_neg (by omega) (Ev.now _)
  | succ d ih =>
    intro i hi
    refine ev_step ?_
    simp only [laws_eqPointS.l0]
    refine ev_pos (by omega) (ev_pos (by omega) (ev_pos (by omega) (ev_call (a := true) ?_ (ev_pos rfl ?_))))
    · unfold laws_eqPoint.f
      rw [if_pos rfl, if_pos rfl]
    · rw [wrap_id (by omega) (by omega)]
      exact ih (i + 1) (by omega)
theorem eqPts_self (l : List IP) (hl : l.length ≤ 10000000) : Ev (fun k => laws_eqPointS.f k l l) true := by
  unfold laws_eqPointS.f
  exact ev_pos rfl (eqPts_loop l hl l.length 0 (by omega))
end Go.Proofs.Ytikomhkkodhliaa.M
namespace Go.Proofs.Ytikomhkkodhliaa.M
open Go.RowKit Go.Proofs.YtikomhkkodhliaaW.PrintWords Go.Proofs.Ytikomhkkodhliaa.PX Go.Proofs.Ytikomhkkodhliaa.G
/-- The sign at a place of a text. -/
def sgB (t : ByteArray) (m : Nat) : Int := if bt t (m : Int) = 45 then -1 else 1
theorem sgB_cases (t : ByteArray) (m : Nat) : sgB t m = 1 ∨ sgB t m = -1 := by unfold sgB; split <;> simp
/-- The ascending threes of n elements. -/
def tripN (n : Nat) : List S71 := (List.range n).flatMap fun (i : Nat) => (List.range n).flatMap fun (j : Nat) => (List.range n).flatMap fun (k : Nat) => if i < j ∧ j < k then [(⟨(i : Int), (j : Int), (k : Int)⟩ : S71)] else []
theorem triples_closed : (impl_triplesOf.f 200 3 = some (tripN 3) ∧ impl_triplesOf.f 200 4 = some (tripN 4) ∧ impl_triplesOf.f 200 5 = some (tripN 5)) ∧ impl_triplesOf.f 200 6 = some (tripN 6) ∧ impl_triplesOf.f 200 7 = some (tripN 7) := by
  refine ⟨⟨?_, ?_, ?_⟩, ?_, ?_⟩ <;> kernel_rfl
theorem five {n : Nat} (h0 : 3 ≤ n) (h1 : n ≤ 7) {p : Nat → Prop} (a : p 3) (b : p 4) (c : p 5) (d : p 6) (e : p 7) : p n := by
  have : n = 3 ∨ n = 4 ∨ n = 5 ∨ n = 6 ∨ n = 7 := by omega
  rcases this with rfl | rfl | rfl | rfl | rfl <;> assumption
theorem triples_ev {n : Nat} (h0 : 3 ≤ n) (h1 : n ≤ 7) : Ev (fun k => impl_triplesOf.f k (n : Int)) (tripN n) := by
  obtain ⟨⟨h3, h4, h5⟩, h6, h7⟩ := triples_closed
  refine five (p := fun n => Ev (fun k => impl_triplesOf.f k (n : Int)) (tripN n)) h0 h1 ?_ ?_ ?_ ?_ ?_
  · exact Ev.of (impl_triplesOf.mono 3) h3
  · exact Ev.of (impl_triplesOf.mono 4) h4
  · exact Ev.of (impl_triplesOf.mono 5) h5
  · exact Ev.of (impl_triplesOf.mono 6) h6
  · exact Ev.of (impl_triplesOf.mono 7) h7
/-- Which sign a place of the table has: whether it is turned, and its place in the text. -/
def six (i j k m x : Nat) : Option (Bool × Nat) :=
  if x = ix3 j i k then some (true, m) else if x = ix3 k j i then some (true, m) else if x = ix3 i k j then some (true, m)
  else if x = ix3 k i j then some (false, m) else if x = ix3 j k i then some (false, m) else if x = ix3 i j k then some (false, m) else none
def lookT : List S71 → Nat → Nat → Option (Bool × Nat)
  | [], _, _ => none
  | y :: r, m, x => match lookT r (m + 1) x with
    | some z => some z
    | none => six y.f0.toNat y.f1.toNat y.f2.toNat m x
def sgv (neg : Bool) (s : Int) : Int := if neg then -s else s
def foldTbl (t : ByteArray) : List Int → List S71 → Nat → List Int
  | l, [], _ => l
  | l, y :: r, m => foldTbl t (set6 l y.f0.toNat y.f1.toNat y.f2.toNat (sgB t m)) r (m + 1)
theorem set_getD (l : List Int) (m x : Nat) (v : Int) (hx : x < l.length) : (l.set m v).getD x 0 = if x = m then v else l.getD x 0 := by
  simp only [List.getD_eq_getElem?_getD, List.getElem?_set]
  by_cases h : m = x
  · subst h; simp [hx]
  · rw [if_neg h, if_neg (fun e => h e.symm)]
theorem set6_getD (l : List Int) (i j k m x : Nat) (s : Int) (hx : x < l.length) :
    (set6 l i j k s).getD x 0 = match six i j k m x with | some z => sgv z.1 s | none => l.getD x 0 := by
  unfold set6 six
  rw [set_getD _ _ _ _ (by simp only [List.length_set]; exact hx), set_getD _ _ _ _ (by simp only [List.length_set]; exact hx), set_getD _ _ _ _ (by simp only [List.length_set]; exact hx),
    set_getD _ _ _ _ (by simp only [List.length_set]; exact hx), set_getD _ _ _ _ (by simp only [List.length_set]; exact hx), set_getD _ _ _ _ hx]
  split
  · rfl
  split
  · rfl
  split
  · rfl
  split
  · rfl
  split
  · rfl
  split <;> rfl
theorem six_snd {i j k m x : Nat} {z : Bool × Nat} (h : six i j k m x = some z) : z.2 = m := by
  unfold six at h
  (repeat' split at h) <;> first | (cases h; rfl) | cases h
theorem foldTbl_length (t : ByteArray) : ∀ (ts : List S71) (l : List Int) (m : Nat), (foldTbl t l ts m).length = l.length
  | [], _, _ => rfl
  | y :: r, l, m => by rw [foldTbl, foldTbl_length t r, set6_length]
theorem foldTbl_getD (t : ByteArray) (x : Nat) : ∀ (ts : List S71) (l : List Int) (m : Nat), x < l.length →
    (foldTbl t l ts m).getD x 0 = match lookT ts m x with | some z => sgv z.1 (sgB t z.2) | none => l.getD x 0
  | [], _, _, _ => rfl
  | y :: r, l, m, hx => by
    rw [foldTbl, foldTbl_getD t x r _ _ (by rw [set6_length]; exact hx), lookT]
    cases lookT r (m + 1) x with
    | some z => rfl
    | none =>
      simp only []
      rw [set6_getD _ _ _ _ m _ _ hx]
      cases hz : six y.f0.toNat y.f1.toNat y.f2.toNat m x with
      | none => rfl
      | some z => rw [← six_snd hz]
/-- The table of signs. -/
def tblL (n : Nat) (t : ByteArray) : List Int := foldTbl t ((n : Int) :: List.replicate 343 (0 : Int)) (tripN n) 0
theorem tblL_length (n : Nat) (t : ByteArray) : (tblL n t).length = 344 := by
  unfold tblL
  rw [foldTbl_length, List.length_cons, List.length_replicate]
/-- The sign of three elements (0 where two are equal). -/
def chi (n : Nat) (t : ByteArray) (i j k : Nat) : Int := match lookT (tripN n) 0 (ix3 i j k) with | some z => sgv z.1 (sgB t z.2) | none => 0
theorem tbl_rd (n : Nat) (t : ByteArray) (i j k : Nat) (hi : i < 7) (hj : j < 7) (hk : k < 7) : rd3 (tblL n t) (i : Int) (j : Int) (k : Int) = chi n t i j k := by
  have hx : ix3 i j k < 344 := by unfold ix3; omega
  have e : rd3 (tblL n t) (i : Int) (j : Int) (k : Int) = (tblL n t).getD (ix3 i j k) 0 := by
    unfold rd3 rd
    have : (1 + (i : Int) * 49 + (j : Int) * 7 + (k : Int)).toNat = ix3 i j k := by unfold ix3; omega
    rw [this]
  rw [e]
  unfold tblL chi
  rw [foldTbl_getD t _ _ _ _ (by rw [List.length_cons, List.length_replicate]; exact hx)]
  have h0 : ((n : Int) :: List.replicate 343 (0 : Int)).getD (ix3 i j k) 0 = 0 := by
    have : ix3 i j k = (i * 49 + j * 7 + k) + 1 := by unfold ix3; omega
    rw [this, List.getD_cons_succ, List.getD_eq_getElem?_getD, List.getElem?_replicate]
    split <;> rfl
  rw [h0]
theorem tbl_n (n : Nat) (t : ByteArray) : rd (tblL n t) 0 = n := by
  have e : rd (tblL n t) 0 = (tblL n t).getD 0 0 := rfl
  rw [e]
  unfold tblL
  rw [foldTbl_getD t 0 _ _ _ (by rw [List.length_cons]; omega)]
  have h : ∀ (ts : List S71) (m : Nat), lookT ts m 0 = none := by
    intro ts
    induction ts with
    | nil => intro m; rfl
    | cons y r ih =>
      intro m
      rw [lookT, ih]
      have hp : ∀ a b c : Nat, ¬ 0 = ix3 a b c := fun a b c => by unfold ix3; omega
      simp only [six]
      rw [if_neg (hp _ _ _), if_neg (hp _ _ _), if_neg (hp _ _ _), if_neg (hp _ _ _), if_neg (hp _ _ _), if_neg (hp _ _ _)]
  rw [h]
  rfl
def smallT (ts : List S71) : Bool := ts.all fun y => decide (0 ≤ y.f0) && decide (y.f0 < 7) && decide (0 ≤ y.f1) && decide (y.f1 < 7) && decide (0 ≤ y.f2) && decide (y.f2 < 7)
theorem set_some (l : List Int) (a b c s : Int) (hl : l.length = 344) (ha : 0 ≤ a ∧ a < 7) (hb : 0 ≤ b ∧ b < 7) (hc : 0 ≤ c ∧ c < 7) (hs : s = 1 ∨ s = -1) : impl_chi_set.f l a b c s = some (set6 l a.toNat b.toNat c.toNat s) := by
  unfold impl_chi_set.f
  rw [if_pos ⟨hl, ha, hb, hc, by omega, by omega⟩]
def smallC (n : Nat) : Bool := smallT (tripN n) && decide (((tripN n).length : Int) = cntW n)
theorem trip_small {n : Nat} (h0 : 3 ≤ n) (h1 : n ≤ 7) : smallT (tripN n) = true ∧ ((tripN n).length : Int) = cntW n := by
  have h : smallC n = true := by refine five (p := fun n => smallC n = true) h0 h1 ?_ ?_ ?_ ?_ ?_ <;> decide +kernel
  simpa [smallC] using h
end Go.Proofs.Ytikomhkkodhliaa.M
namespace Go.Proofs.Ytikomhkkodhliaa.PX
open Go.RowKit Go.Proofs.Ytikomhkkodhliaa.G Go.Proofs.YtikomhkkodhliaaW.PrintWords Go.Proofs.YtikomhkkodhliaaW.PrintLast Go.Proofs.YtikomhkkodhliaaW.PrintMore
attribute [local go_sem] max2_int min2_int max_two min_two max_three min_three max_four min_four   -- for this text's walks alone
set_option linter.unusedVariables false
set_option linter.unusedSimpArgs false
/-! ### spec_l3Byte: function 61 -/
def spec_l3Byte.f (a0 : Int) : Option (ByteArray) := if a0 > 0 then (some (⟨#[43]⟩ : ByteArray)) else (some (⟨#[45]⟩ : ByteArray))
set_option maxHeartbeats 8000000 in
set_option maxRecDepth 100000 in
theorem spec_l3Byte.calls (a0 : Int) (r : ByteArray) (w : World) (h : spec_l3Byte.f a0 = some r) :
  Calls Try.prog 61 #[.int .i64 a0] w fun e w' => e = .returned (.string r) ∧ Drawn0 w w' := by
 have H : (if a0 > 0 then (some (⟨#[43]⟩ : ByteArray)) else (some (⟨#[45]⟩ : ByteArray))) = some r := h
 clear h
 by_cases c2 : a0 > 0
 ·rw [if_pos c2] at H
  have c2b0 : decide (0 < a0) = true := decide_eq_true c2
  clear c2
  obtain rfl := Option.some.inj H
  go_enter Try.func61, Try.ntmps61
  go_wp2
  go_ret
  exact ⟨by first | rfl | (simp; done) | (simp [*]; done), by repeat (first | exact Drawn0.refl _ | apply Drawn0.step)⟩
 ·rw [if_neg c2] at H
  have c2b0 : decide (0 < a0) = false := decide_eq_false c2
  clear c2
  obtain rfl := Option.some.inj H
  go_enter Try.func61, Try.ntmps61
  go_wp2
  go_ret
  exact ⟨by first | rfl | (simp; done) | (simp [*]; done), by repeat (first | exact Drawn0.refl _ | apply Drawn0.step)⟩
end Go.Proofs.Ytikomhkkodhliaa.PX
namespace Go.Proofs.Ytikomhkkodhliaa.M
open Go.RowKit Go.Proofs.YtikomhkkodhliaaW.PrintWords Go.Proofs.Ytikomhkkodhliaa.PX Go.Proofs.Ytikomhkkodhliaa.G
/-- The byte of a sign. -/
def sgC (x : Int) : UInt8 := if x > 0 then 43 else 45
def mkB (l : List UInt8) : ByteArray := ⟨l.toArray⟩
theorem mkB_size (l : List UInt8) : (mkB l).size = l.length := by simp [mkB, ByteArray.size]
theorem mkB_append (l l' : List UInt8) : mkB l ++ mkB l' = mkB (l ++ l') := by
  apply ByteArray.ext
  rw [ByteArray.data_append]
  simp [mkB]
theorem mkB_list (t : ByteArray) : mkB t.data.toList = t := rfl
theorem byte_ev (x : Int) : spec_l3Byte.f x = some (mkB [sgC x]) := by
  unfold spec_l3Byte.f sgC
  split <;> rfl
/-- The bytes of the places (i, j, m), m from k on. -/
def byt (n : Nat) (t : ByteArray) (l : List Nat) (i j k : Nat) : UInt8 := sgC (chi n t (l.getD i 0) (l.getD j 0) (l.getD k 0))
def pk2 (n : Nat) (t : ByteArray) (l : List Nat) (i j k d : Nat) : List UInt8 := (List.range' k d).map fun k => byt n t l i j k
def pk1 (n : Nat) (t : ByteArray) (l : List Nat) (i j d : Nat) : List UInt8 := (List.range' j d).flatMap fun j => pk2 n t l i j (j + 1) (l.length - (j + 1))
def pk0 (n : Nat) (t : ByteArray) (l : List Nat) (i d : Nat) : List UInt8 := (List.range' i d).flatMap fun i => pk1 n t l i (i + 1) (l.length - (i + 1))
theorem pk2_length (n : Nat) (t : ByteArray) (l : List Nat) (i j k d : Nat) : (pk2 n t l i j k d).length = d := by simp [pk2]
theorem pk1_length (n : Nat) (t : ByteArray) (l : List Nat) (hl : l.length ≤ 7) (i : Nat) (d : Nat) : ∀ j, (pk1 n t l i j d).length ≤ 7 * d := by
  induction d with
  | zero => intro j; simp [pk1]
  | succ d ih =>
    intro j
    have e : pk1 n t l i j (d + 1) = pk2 n t l i j (j + 1) (l.length - (j + 1)) ++ pk1 n t l i (j + 1) d := by rw [pk1, List.range'_succ, List.flatMap_cons]; rfl
    have := ih (j + 1)
    rw [e, List.length_append, pk2_length]
    omega
/-- The places of a list's triples in the text, as the tables hold them. -/
def lkL (n : Nat) (l : List Nat) : List (Option (Bool × Nat)) := (List.range' 0 l.length).flatMap fun i => (List.range' (i + 1) (l.length - (i + 1))).flatMap fun j => (List.range' (j + 1) (l.length - (j + 1))).map fun k => lookT (tripN n) 0 (ix3 (l.getD i 0) (l.getD j 0) (l.getD k 0))
def lkB (t : ByteArray) (z : Option (Bool × Nat)) : UInt8 := sgC (match z with | some z => sgv z.1 (sgB t z.2) | none => 0)
theorem pk0_look (n : Nat) (t : ByteArray) (l : List Nat) : pk0 n t l 0 l.length = (lkL n l).map (lkB t) := by
  simp only [pk0, pk1, pk2, lkL, List.map_flatMap, List.map_map]
  rfl
theorem lkB_text {t : ByteArray} (ht : ∀ c ∈ t.data.toList, c = 43 ∨ c = 45) {p : Nat} (hp : p < t.data.toList.length) : lkB t (some (false, p)) = t.data.toList[p] := by
  show sgC (sgB t p) = _
  unfold sgB
  rw [bt_nat hp]
  rcases ht _ (List.getElem_mem hp) with e | e <;> rw [e] <;> rfl
end Go.Proofs.Ytikomhkkodhliaa.M
namespace Go.Proofs.Ytikomhkkodhliaa.M
open Go.RowKit Go.Proofs.YtikomhkkodhliaaW.PrintWords Go.Proofs.Ytikomhkkodhliaa.PX Go.Proofs.Ytikomhkkodhliaa.G
theorem list_ext0 {l l' : List Int} (h : l.length = l'.length) (h' : ∀ x, x < l.length → l.getD x 0 = l'.getD x 0) : l = l' := by
  refine List.ext_getElem h fun x h1 h2 => ?_
  have := h' x h1
  rw [List.getD_eq_getElem?_getD, List.getD_eq_getElem?_getD, List.getElem?_eq_getElem h1, List.getElem?_eq_getElem h2] at this
  exact this
/-- The sign at a cell, out of the signs at the places. -/
def valS (n : Nat) (s : Nat → Int) (x : Nat) : Int := match lookT (tripN n) 0 x with | some z => sgv z.1 (s z.2) | none => 0
/-- The sign of three elements, out of the signs at the places. -/
def chiS (n : Nat) (s : Nat → Int) (a b c : Nat) : Int := valS n s (ix3 a b c)
def tblS (n : Nat) (s : Nat → Int) : List Int := (n : Int) :: (List.range 343).map fun x => valS n s (x + 1)
theorem tblS_length (n : Nat) (s : Nat → Int) : (tblS n s).length = 344 := by simp [tblS]
theorem tblS_getD (n : Nat) (s : Nat → Int) {x : Nat} (h0 : x ≠ 0) (hx : x < 344) : (tblS n s).getD x 0 = valS n s x := by
  obtain ⟨y, rfl⟩ : ∃ y, x = y + 1 := ⟨x - 1, by omega⟩
  rw [tblS, List.getD_cons_succ, List.getD_eq_getElem?_getD, List.getElem?_map, List.getElem?_range (by omega)]
  rfl
theorem tblS_n (n : Nat) (s : Nat → Int) : rd (tblS n s) 0 = n := rfl
theorem tblS_rd (n : Nat) (s : Nat → Int) {a b c : Nat} (ha : a < 7) (hb : b < 7) (hc : c < 7) : rd3 (tblS n s) (a : Int) (b : Int) (c : Int) = chiS n s a b c := by
  have e : rd3 (tblS n s) (a : Int) (b : Int) (c : Int) = (tblS n s).getD (ix3 a b c) 0 := by
    unfold rd3 rd
    have : (1 + (a : Int) * 49 + (b : Int) * 7 + (c : Int)).toNat = ix3 a b c := by unfold ix3; omega
    rw [this]
  rw [e, tblS_getD n s (by unfold ix3; omega) (by unfold ix3; omega)]
  rfl
theorem chi_chiS (n : Nat) (t : ByteArray) (a b c : Nat) : chi n t a b c = chiS n (sgB t) a b c := rfl
theorem tblL_S (n : Nat) (t : ByteArray) : tblL n t = tblS n (sgB t) := by
  refine list_ext0 (by rw [tblL_length, tblS_length]) fun x hx => ?_
  rw [tblL_length] at hx
  by_cases h0 : x = 0
  · subst h0
    exact tbl_n n t
  · rw [tblS_getD n _ h0 hx]
    unfold tblL valS
    rw [foldTbl_getD t _ _ _ _ (by rw [List.length_cons, List.length_replicate]; exact hx)]
    obtain ⟨y, rfl⟩ : ∃ y, x = y + 1 := ⟨x - 1, by omega⟩
    have : ((n : Int) :: List.replicate 343 (0 : Int)).getD (y + 1) 0 = 0 := by
      rw [List.getD_cons_succ, List.getD_eq_getElem?_getD, List.getElem?_replicate]
      split <;> rfl
    rw [this]
    all_goals (cases lookT (tripN n) 0 (y + 1) <;> rfl)
theorem tblS_zero (n : Nat) : (n : Int) :: List.replicate 343 (0 : Int) = tblS n (fun _ => 0) := by
  unfold tblS
  congr 1
  refine List.ext_getElem (by rw [List.length_replicate, List.length_map, List.length_range]) fun x h1 h2 => ?_
  simp only [List.getElem_replicate, List.getElem_map, List.getElem_range, valS]
  cases lookT (tripN n) 0 (x + 1) with
  | none => rfl
  | some z => obtain ⟨b, m⟩ := z; cases b <;> rfl
theorem six_mem {i j k m x : Nat} {z : Bool × Nat} (h : six i j k m x = some z) : z.2 = m := six_snd h
/-- What a cell's place is: the three elements there, in some order. -/
theorem lookT_at (ts : List S71) : ∀ (m0 x : Nat) (z : Bool × Nat), lookT ts m0 x = some z → ∃ p, ∃ h : p < ts.length, z.2 = m0 + p ∧ six ts[p].f0.toNat ts[p].f1.toNat ts[p].f2.toNat (m0 + p) x = some z := by
  induction ts with
  | nil => intro m0 x z h; cases h
  | cons y r ih =>
    intro m0 x z h
    rw [lookT] at h
    cases hr : lookT r (m0 + 1) x with
    | some z' =>
      rw [hr] at h
      cases h
      obtain ⟨p, hp, h1, h2⟩ := ih (m0 + 1) x _ hr
      refine ⟨p + 1, by simp only [List.length_cons]; omega, by omega, ?_⟩
      simp only [List.getElem_cons_succ]
      rw [show m0 + (p + 1) = m0 + 1 + p by omega]
      exact h2
    | none =>
      rw [hr] at h
      have h' : six y.f0.toNat y.f1.toNat y.f2.toNat m0 x = some z := h
      exact ⟨0, by simp, by rw [six_snd h']; rfl, h'⟩
def idx6 (a b c : Nat) : List Nat := [ix3 b a c, ix3 c b a, ix3 a c b, ix3 c a b, ix3 b c a, ix3 a b c]
theorem six_none {a b c m x : Nat} : six a b c m x = none ↔ x ∉ idx6 a b c := by
  unfold six idx6
  simp only [List.mem_cons, List.not_mem_nil, or_false, not_or]
  constructor
  · intro h
    (repeat' split at h) <;> first | exact ⟨by assumption, by assumption, by assumption, by assumption, by assumption, by assumption⟩ | cases h
  · rintro ⟨h1, h2, h3, h4, h5, h6⟩
    rw [if_neg h1, if_neg h2, if_neg h3, if_neg h4, if_neg h5, if_neg h6]
def tripAt (n p : Nat) : S71 := (tripN n).getD p ⟨0, 0, 0⟩
theorem tripAt_eq {n p : Nat} (h : p < (tripN n).length) : tripAt n p = (tripN n)[p] := by
  unfold tripAt
  rw [List.getD_eq_getElem?_getD, List.getElem?_eq_getElem h]; rfl
def chkP1 (n a b c : Nat) : Bool :=
  match lookT (tripN n) 0 (ix3 a b c) with
  | some (neg, p) => decide (p < (tripN n).length) && (lookT (tripN n) 0 (ix3 b a c) == some (!neg, p)) && (lookT (tripN n) 0 (ix3 c b a) == some (!neg, p)) && (lookT (tripN n) 0 (ix3 a c b) == some (!neg, p)) &&
      (lookT (tripN n) 0 (ix3 c a b) == some (neg, p)) && (lookT (tripN n) 0 (ix3 b c a) == some (neg, p)) &&
      ((idx6 (tripAt n p).f0.toNat (tripAt n p).f1.toNat (tripAt n p).f2.toNat).all fun x => (idx6 a b c).contains x)
  | none => false
def chkP (n : Nat) : Bool := (List.range n).all fun a => (List.range n).all fun b => (List.range n).all fun c => (decide (a = b) || decide (b = c) || decide (a = c)) || chkP1 n a b c
theorem chkP_all {n : Nat} (h0 : 3 ≤ n) (h1 : n ≤ 7) : chkP n = true := by
  refine five (p := fun n => chkP n = true) h0 h1 ?_ ?_ ?_ ?_ ?_ <;> decide +kernel
theorem look_of {n a b c : Nat} (h0 : 3 ≤ n) (h1 : n ≤ 7) (ha : a < n) (hb : b < n) (hc : c < n) (hab : a ≠ b) (hbc : b ≠ c) (hac : a ≠ c) :
    ∃ neg p, lookT (tripN n) 0 (ix3 a b c) = some (neg, p) ∧ p < (tripN n).length ∧ lookT (tripN n) 0 (ix3 b a c) = some (!neg, p) ∧ lookT (tripN n) 0 (ix3 c b a) = some (!neg, p) ∧ lookT (tripN n) 0 (ix3 a c b) = some (!neg, p) ∧
      lookT (tripN n) 0 (ix3 c a b) = some (neg, p) ∧ lookT (tripN n) 0 (ix3 b c a) = some (neg, p) ∧ ∀ x ∈ idx6 (tripAt n p).f0.toNat (tripAt n p).f1.toNat (tripAt n p).f2.toNat, x ∈ idx6 a b c := by
  have h := chkP_all h0 h1
  have h := List.all_eq_true.1 h a (List.mem_range.2 ha)
  have h := List.all_eq_true.1 h b (List.mem_range.2 hb)
  have h := List.all_eq_true.1 h c (List.mem_range.2 hc)
  rw [decide_eq_false hab, decide_eq_false hbc, decide_eq_false hac] at h
  simp only [Bool.or_self, Bool.false_or] at h
  unfold chkP1 at h
  split at h
  · rename_i neg p hp
    simp only [Bool.and_eq_true, decide_eq_true_eq, beq_iff_eq, List.all_eq_true, List.contains_iff_mem] at h
    obtain ⟨⟨⟨⟨⟨⟨g0, g1⟩, g2⟩, g3⟩, g4⟩, g5⟩, g6⟩ := h
    exact ⟨neg, p, hp, g0, g1, g2, g3, g4, g5, g6⟩
  · cases h
def upd (s : Nat → Int) (p : Nat) (v : Int) : Nat → Int := fun q => if q = p then v else s q
theorem upd_self (s : Nat → Int) (p : Nat) (v : Int) : upd s p v p = v := if_pos rfl
theorem upd_ne (s : Nat → Int) {p q : Nat} (v : Int) (h : q ≠ p) : upd s p v q = s q := if_neg h
theorem sgv_sgv (f neg : Bool) (v : Int) : sgv (f ^^ neg) (sgv neg v) = sgv f v := by
  cases f <;> cases neg <;> simp [sgv]
/-- Giving three elements a sign, in any order. -/
theorem set_tblS {n a b c p : Nat} {neg : Bool} (s : Nat → Int) (v : Int) (h0 : 3 ≤ n) (h1 : n ≤ 7) (ha : a < n) (hb : b < n) (hc : c < n) (hab : a ≠ b) (hbc : b ≠ c) (hac : a ≠ c) (hl : lookT (tripN n) 0 (ix3 a b c) = some (neg, p)) :
    set6 (tblS n s) a b c v = tblS n (upd s p (sgv neg v)) := by
  obtain ⟨neg', p', e0, hp, e1, e2, e3, e4, e5, e6⟩ := look_of h0 h1 ha hb hc hab hbc hac
  rw [hl] at e0
  cases e0
  refine list_ext0 (by rw [set6_length, tblS_length, tblS_length]) fun x hx => ?_
  rw [set6_length] at hx
  have hx' := hx
  rw [tblS_length] at hx'
  rw [set6_getD _ _ _ _ 0 _ _ hx]
  have key : ∀ (f : Bool) (y : Nat), y ≠ 0 → y < 344 → lookT (tripN n) 0 y = some (f ^^ neg, p) → sgv f v = (tblS n (upd s p (sgv neg v))).getD y 0 := by
    intro f y hy0 hy hly
    rw [tblS_getD _ _ hy0 hy]
    unfold valS
    rw [hly]
    show _ = sgv (f ^^ neg) (upd s p (sgv neg v) p)
    rw [upd_self, sgv_sgv]
  have nz : ∀ i j k : Nat, ix3 i j k ≠ 0 := fun i j k => by unfold ix3; omega
  cases hs : six a b c 0 x with
  | some z =>
    have hs' := hs
    unfold six at hs'
    split at hs'
    · rename_i e; cases hs'; subst e; exact key true _ (nz _ _ _) hx' (by rw [e1]; cases neg <;> rfl)
    split at hs'
    · rename_i e; cases hs'; subst e; exact key true _ (nz _ _ _) hx' (by rw [e2]; cases neg <;> rfl)
    split at hs'
    · rename_i e; cases hs'; subst e; exact key true _ (nz _ _ _) hx' (by rw [e3]; cases neg <;> rfl)
    split at hs'
    · rename_i e; cases hs'; subst e; exact key false _ (nz _ _ _) hx' (by rw [e4]; cases neg <;> rfl)
    split at hs'
    · rename_i e; cases hs'; subst e; exact key false _ (nz _ _ _) hx' (by rw [e5]; cases neg <;> rfl)
    split at hs'
    · rename_i e; cases hs'; subst e; exact key false _ (nz _ _ _) hx' (by rw [hl]; cases neg <;> rfl)
    · cases hs'
  | none =>
    show (tblS n s).getD x 0 = _
    by_cases hz : x = 0
    · subst hz; rfl
    rw [tblS_getD _ _ hz hx', tblS_getD _ _ hz hx']
    unfold valS
    cases hx0 : lookT (tripN n) 0 x with
    | none => rfl
    | some z =>
      show sgv z.1 (s z.2) = sgv z.1 (upd s p (sgv neg v) z.2)
      rw [upd_ne]
      intro hzp
      obtain ⟨q, hq, g1, g2⟩ := lookT_at (tripN n) 0 x z hx0
      obtain rfl : q = p := by omega
      rw [← tripAt_eq hq] at g2
      refine six_none.1 hs (e6 x ?_)
      refine Classical.byContradiction fun hn => ?_
      rw [six_none.2 hn] at g2
      cases g2
theorem tblS_congr {n : Nat} {s s' : Nat → Int} (h : ∀ p, p < (tripN n).length → s p = s' p) : tblS n s = tblS n s' := by
  unfold tblS
  congr 1
  refine List.map_congr_left fun x _ => ?_
  unfold valS
  cases hx0 : lookT (tripN n) 0 (x + 1) with
  | none => rfl
  | some z =>
    obtain ⟨q, hq, g1, g2⟩ := lookT_at (tripN n) 0 _ z hx0
    show sgv z.1 (s z.2) = sgv z.1 (s' z.2)
    rw [h z.2 (by omega)]
def chkI (n : Nat) : Bool := (List.range (tripN n).length).all fun p => (lookT (tripN n) 0 (ix3 (tripAt n p).f0.toNat (tripAt n p).f1.toNat (tripAt n p).f2.toNat) == some (false, p)) && decide ((tripAt n p).f0 < (tripAt n p).f1) && decide ((tripAt n p).f1 < (tripAt n p).f2) && decide ((tripAt n p).f2 < n) && decide (0 ≤ (tripAt n p).f0)
theorem chkI_all {n : Nat} (h0 : 3 ≤ n) (h1 : n ≤ 7) : (chkI n && decide ((tripN n).length ≤ 35)) = true := by
  refine five (p := fun n => (chkI n && decide ((tripN n).length ≤ 35)) = true) h0 h1 ?_ ?_ ?_ ?_ ?_ <;> decide +kernel
theorem trip_len {n : Nat} (h0 : 3 ≤ n) (h1 : n ≤ 7) : (tripN n).length ≤ 35 := by
  have h := chkI_all h0 h1
  simp only [Bool.and_eq_true, decide_eq_true_eq] at h
  exact h.2
theorem tripN_L {n : Nat} (h0 : 3 ≤ n) (h1 : n ≤ 7) : tripN n = (tripsL n).map fun q => ⟨(q.1 : Int), (q.2.1 : Int), (q.2.2 : Int)⟩ := by
  refine five (p := fun n => tripN n = (tripsL n).map fun q => ⟨(q.1 : Int), (q.2.1 : Int), (q.2.2 : Int)⟩) h0 h1 ?_ ?_ ?_ ?_ ?_ <;> kernel_rfl
/-- The elements at a place: ascending, and their sign is the place's. -/
theorem trip_at {n p : Nat} (h0 : 3 ≤ n) (h1 : n ≤ 7) (hp : p < (tripN n).length) : ∃ a b c : Nat, (tripN n)[p] = ⟨(a : Int), (b : Int), (c : Int)⟩ ∧ a < b ∧ b < c ∧ c < n ∧ lookT (tripN n) 0 (ix3 a b c) = some (false, p) := by
  have h := chkI_all h0 h1
  simp only [Bool.and_eq_true, decide_eq_true_eq] at h
  have h := List.all_eq_true.1 h.1 p (List.mem_range.2 hp)
  simp only [Bool.and_eq_true, decide_eq_true_eq, beq_iff_eq] at h
  obtain ⟨⟨⟨⟨g0, g1⟩, g2⟩, g3⟩, g4⟩ := h
  rw [tripAt_eq hp] at *
  generalize (tripN n)[p] = y at *
  obtain ⟨x0, x1, x2⟩ := y
  simp only at *
  refine ⟨x0.toNat, x1.toNat, x2.toNat, ?_, by omega, by omega, by omega, g0⟩
  rw [Int.toNat_of_nonneg (by omega), Int.toNat_of_nonneg (by omega), Int.toNat_of_nonneg (by omega)]
theorem chiS_at {n p a b c : Nat} {neg : Bool} (s : Nat → Int) (h : lookT (tripN n) 0 (ix3 a b c) = some (neg, p)) : chiS n s a b c = sgv neg (s p) := by
  unfold chiS valS
  rw [h]
/-- The text of a table. -/
def txtS (n : Nat) (s : Nat → Int) : ByteArray := mkB ((List.range (tripN n).length).map fun p => sgC (s p))
theorem foldl_snoc {α β : Type} (f : α → β) (l : List α) : ∀ s : List β, l.foldl (fun s a => s ++ [f a]) s = s ++ l.map f := by
  induction l with
  | nil => intro s; simp
  | cons x l ih => intro s; rw [List.foldl_cons, ih, List.map_cons, List.append_assoc]; rfl
theorem txtS_list (n : Nat) (s : Nat → Int) : (txtS n s).data.toList = (List.range (tripN n).length).map fun p => sgC (s p) := rfl
theorem txtS_congr {n : Nat} {s s' : Nat → Int} (h : ∀ p, p < (tripN n).length → s p = s' p) : txtS n s = txtS n s' := by
  unfold txtS
  congr 1
  refine List.map_congr_left fun p hp => ?_
  rw [h p (List.mem_range.1 hp)]
theorem txtS_ok {n : Nat} (s : Nat → Int) (h0 : 3 ≤ n) (h1 : n ≤ 7) : areOk n (txtS n s) = true := by
  rw [areOk_iff]
  refine ⟨by omega, ?_, fun c hc => ?_⟩
  · rw [← (trip_small h0 h1).2, txtS, mkB_size, List.length_map, List.length_range]
  · rw [txtS_list, List.mem_map] at hc
    obtain ⟨p, _, rfl⟩ := hc
    unfold sgC
    split <;> simp
theorem sgB_txtS {n p : Nat} {s : Nat → Int} (hp : p < (tripN n).length) (hs : s p = 1 ∨ s p = -1) : sgB (txtS n s) p = s p := by
  have hl : p < (txtS n s).data.toList.length := by rw [txtS_list, List.length_map, List.length_range]; exact hp
  unfold sgB
  rw [bt_nat hl]
  have : (txtS n s).data.toList[p] = sgC (s p) := by simp only [txtS_list, List.getElem_map, List.getElem_range]
  rw [this]
  rcases hs with h | h <;> rw [h] <;> rfl
theorem tblL_txtS {n : Nat} {s : Nat → Int} (hs : ∀ p, p < (tripN n).length → s p = 1 ∨ s p = -1) : tblL n (txtS n s) = tblS n s := by
  rw [tblL_S]
  exact tblS_congr fun p hp => sgB_txtS hp (hs p hp)
theorem txtS_sgB {n : Nat} {t : ByteArray} (h : areOk n t = true) : txtS n (sgB t) = t := by
  obtain ⟨⟨h0, h1⟩, h2, ht⟩ := (areOk_iff _ _).1 h
  have hc := (trip_small (n := n) (by omega) (by omega)).2
  rw [size_list] at h2
  have e : (List.range (tripN n).length).map (fun p => sgC (sgB t p)) = t.data.toList := ?_
  · unfold txtS
    rw [e]
    rfl
  refine List.ext_getElem (by rw [List.length_map, List.length_range]; omega) fun p hp1 hp2 => ?_
  simp only [List.getElem_map, List.getElem_range]
  unfold sgB
  rw [bt_nat hp2]
  rcases ht _ (List.getElem_mem hp2) with e | e
  · rw [e]; rfl
  · rw [e]; rfl
theorem chiS_pm {n a b c : Nat} {s : Nat → Int} (h0 : 3 ≤ n) (h1 : n ≤ 7) (hs : ∀ p, p < (tripN n).length → s p = 1 ∨ s p = -1) (ha : a < n) (hb : b < n) (hc : c < n) (hab : a ≠ b) (hbc : b ≠ c) (hac : a ≠ c) : chiS n s a b c = 1 ∨ chiS n s a b c = -1 := by
  obtain ⟨neg, p, e0, hp, _⟩ := look_of h0 h1 ha hb hc hab hbc hac
  rw [chiS_at s e0]
  rcases hs p hp with e | e <;> rw [e] <;> cases neg <;> simp [sgv]
theorem chi_txtS {n a b c : Nat} {s : Nat → Int} (hs : ∀ p, p < (tripN n).length → s p = 1 ∨ s p = -1) : chi n (txtS n s) a b c = chiS n s a b c := by
  rw [chi_chiS]
  unfold chiS valS
  cases hx0 : lookT (tripN n) 0 (ix3 a b c) with
  | none => rfl
  | some z =>
    obtain ⟨q, hq, g1, g2⟩ := lookT_at (tripN n) 0 _ z hx0
    show sgv z.1 _ = sgv z.1 _
    have hz : z.2 < (tripN n).length := by omega
    rw [sgB_txtS hz (hs _ hz)]
theorem rd_trip {ts : List S71} {i : Nat} (h : i < ts.length) : rd_T71 ts (i : Int) = ts[i] := by
  unfold rd_T71
  rw [Int.toNat_natCast, List.getD_eq_getElem?_getD, List.getElem?_eq_getElem h]
  rfl
/-- The text of a table, by its threes. -/
theorem txtS_trips {n : Nat} {s : Nat → Int} (g : Nat × Nat × Nat → UInt8) (h0 : 3 ≤ n) (h1 : n ≤ 7) (h : ∀ (p : Nat) (hp : p < (tripN n).length) (a b c : Nat), (tripN n)[p] = ⟨(a : Int), (b : Int), (c : Int)⟩ → sgC (s p) = g (a, b, c)) : mkB ((tripsL n).map g) = txtS n s := by
  unfold txtS
  congr 1
  have e := tripN_L h0 h1
  have el : (tripsL n).length = (tripN n).length := by rw [e, List.length_map]
  refine List.ext_getElem (by rw [List.length_map, List.length_map, List.length_range, el]) fun p hp1 hp2 => ?_
  rw [List.length_map, List.length_range] at hp2
  simp only [List.getElem_map, List.getElem_range]
  have hp : p < (tripsL n).length := by omega
  have e1 : (tripN n)[p] = ⟨((tripsL n)[p].1 : Int), ((tripsL n)[p].2.1 : Int), ((tripsL n)[p].2.2 : Int)⟩ := by
    simp only [e, List.getElem_map]
  exact (h p hp2 _ _ _ e1).symm
end Go.Proofs.Ytikomhkkodhliaa.M
namespace Go.Proofs.Ytikomhkkodhliaa.PX
open Go.RowKit Go.Proofs.Ytikomhkkodhliaa.G Go.Proofs.YtikomhkkodhliaaW.PrintWords Go.Proofs.YtikomhkkodhliaaW.PrintLast Go.Proofs.YtikomhkkodhliaaW.PrintMore
attribute [local go_sem] max2_int min2_int max_two min_two max_three min_three max_four min_four   -- for this text's walks alone
set_option linter.unusedVariables false
set_option linter.unusedSimpArgs false
/-! ### spec_AreaOf: function 23 -/
def spec_AreaOf.f (a0_0 : Int) (a0_1 : Int) (a1_0 : Int) (a1_1 : Int) (a2_0 : Int) (a2_1 : Int) : Option (Int) := (spec_l2Fits.f a0_0 a0_1 1000).bind fun t193 => (if t193 = true then ((spec_l2Fits.f a1_0 a1_1 1000).bind fun t194 => (if t194 = true then ((spec_l2Fits.f a2_0 a2_1 1000).bind fun t195 => (if t195 = true then ((spec_l2Area.f a0_0 a0_1 a1_0 a1_1 a2_0 a2_1).bind fun t196 => (some t196)) else (some 0))) else (some 0))) else (some 0))
set_option maxHeartbeats 8000000 in
set_option maxRecDepth 100000 in
theorem spec_AreaOf.calls (a0_0 : Int) (a0_1 : Int) (a1_0 : Int) (a1_1 : Int) (a2_0 : Int) (a2_1 : Int) (r : Int) (w : World) (h : spec_AreaOf.f a0_0 a0_1 a1_0 a1_1 a2_0 a2_1 = some r) :
  Calls Try.prog 23 #[.agg #[.int .i64 a0_0, .int .i64 a0_1], .agg #[.int .i64 a1_0, .int .i64 a1_1], .agg #[.int .i64 a2_0, .int .i64 a2_1]] w fun e w' => e = .returned (.int .i64 r) ∧ Below w.heap.size w w' := by
 have hu36 := Try.underlying36
 have HB := Aside0.mk (Below.refl w.heap.size w)
 have H : ((spec_l2Fits.f a0_0 a0_1 1000).bind fun t193 => (if t193 = true then ((spec_l2Fits.f a1_0 a1_1 1000).bind fun t194 => (if t194 = true then ((spec_l2Fits.f a2_0 a2_1 1000).bind fun t195 => (if t195 = true then ((spec_l2Area.f a0_0 a0_1 a1_0 a1_1 a2_0 a2_1).bind fun t196 => (some t196)) else (some 0))) else (some 0))) else (some 0))) = some r := h
 clear h
 replace H := Option.bind_eq_some_iff.mp H
 obtain ⟨t193, A40, H⟩ := H
 replace H : (if t193 = true then ((spec_l2Fits.f a1_0 a1_1 1000).bind fun t194 => (if t194 = true then ((spec_l2Fits.f a2_0 a2_1 1000).bind fun t195 => (if t195 = true then ((spec_l2Area.f a0_0 a0_1 a1_0 a1_1 a2_0 a2_1).bind fun t196 => (some t196)) else (some 0))) else (some 0))) else (some 0)) = some r := H
 have A4 := Aside0.mk A40
 clear A40
 by_cases c5 : t193 = true
 ·subst c5
  have H1 : ((spec_l2Fits.f a1_0 a1_1 1000).bind fun t194 => (if t194 = true then ((spec_l2Fits.f a2_0 a2_1 1000).bind fun t195 => (if t195 = true then ((spec_l2Area.f a0_0 a0_1 a1_0 a1_1 a2_0 a2_1).bind fun t196 => (some t196)) else (some 0))) else (some 0))) = some r := by rw [if_pos rfl] at H; exact H
  clear H
  have H := H1
  clear H1
  replace H := Option.bind_eq_some_iff.mp H
  obtain ⟨t194, A60, H⟩ := H
  replace H : (if t194 = true then ((spec_l2Fits.f a2_0 a2_1 1000).bind fun t195 => (if t195 = true then ((spec_l2Area.f a0_0 a0_1 a1_0 a1_1 a2_0 a2_1).bind fun t196 => (some t196)) else (some 0))) else (some 0)) = some r := H
  have A6 := Aside0.mk A60
  clear A60
  by_cases c7 : t194 = true
  ·subst c7
   have H1 : ((spec_l2Fits.f a2_0 a2_1 1000).bind fun t195 => (if t195 = true then ((spec_l2Area.f a0_0 a0_1 a1_0 a1_1 a2_0 a2_1).bind fun t196 => (some t196)) else (some 0))) = some r := by rw [if_pos rfl] at H; exact H
   clear H
   have H := H1
   clear H1
   replace H := Option.bind_eq_some_iff.mp H
   obtain ⟨t195, A80, H⟩ := H
   replace H : (if t195 = true then ((spec_l2Area.f a0_0 a0_1 a1_0 a1_1 a2_0 a2_1).bind fun t196 => (some t196)) else (some 0)) = some r := H
   have A8 := Aside0.mk A80
   clear A80
   by_cases c9 : t195 = true
   ·subst c9
    have H1 : ((spec_l2Area.f a0_0 a0_1 a1_0 a1_1 a2_0 a2_1).bind fun t196 => (some t196)) = some r := by rw [if_pos rfl] at H; exact H
    clear H
    have H := H1
    clear H1
    replace H := Option.bind_eq_some_iff.mp H
    obtain ⟨t196, A100, H⟩ := H
    replace H : (some t196) = some r := H
    have A10 := Aside0.mk A100
    clear A100
    obtain rfl := Option.some.inj H
    go_enter Try.func23, Try.ntmps23
    go_wp2_with (first | ((with_reducible refine gate_dst (N := 3) rfl ?_); refine box_event ?hg (N := 3) ?hd (cs := #[.int .i64 a0_0, .int .i64 a0_1]) (t := 36) ?hr ?_; (case hd => rfl); (case hg => rfl); (case hr => first | (go_simp; done) | (go_simp; rfl)); intro gb190 hg w11 hbox hb; have BK190 := Aside0.mk (hbox); have GW190 := Aside0.mk ((by rw [hg]; exact (below_size zB) : w.heap.size ≤ gb190)); have GE190 := Aside0.mk ((by rw [hg]; exact (below_size zB) : w.heap.size ≤ gb190)); replace HB := Aside0.mk (below_step zB hb); clear hb hbox hg) | ((with_reducible refine gate_dst (N := 4) rfl ?_); refine box_event ?hg (N := 4) ?hd (cs := #[.int .i64 a1_0, .int .i64 a1_1]) (t := 36) ?hr ?_; (case hd => rfl); (case hg => rfl); (case hr => first | (go_simp; done) | (go_simp; rfl)); intro gb191 hg w12 hbox hb; have n0_ := Aside0.mk (blk_below (g := gb190) (o := .cells #[.int .i64 a0_0, .int .i64 a0_1] 36 (0, 0)) (zK BK190.out) hb); have n1_ := Aside0.mk (below_step (zG GE190.out) hb); have n2_ := Aside0.mk (hbox); have n3_ := Aside0.mk ((by rw [hg]; exact (below_size (zG GE190.out)) : w.heap.size ≤ gb191)); have n4_ := Aside0.mk ((by rw [hg]; exact (below_size (zG GE190.out)) : w.heap.size ≤ gb191)); have n5_ := Aside0.mk ((by rw [hg]; exact Nat.ne_of_lt (blk_lt (g := gb190) (o := .cells #[.int .i64 a0_0, .int .i64 a0_1] 36 (0, 0)) (zK BK190.out)) : gb190 ≠ gb191)); have n6_ := Aside0.mk ((by rw [hg]; exact Nat.ne_of_gt (blk_lt (g := gb190) (o := .cells #[.int .i64 a0_0, .int .i64 a0_1] 36 (0, 0)) (zK BK190.out)) : gb191 ≠ gb190)); clear BK190; clear HB; have BK190 := n0_; have HB := n1_; have BK191 := n2_; have GW191 := n3_; have GE191 := n4_; have NB190_191 := n5_; have NB191_190 := n6_; clear n0_ n1_ n2_ n3_ n4_ n5_ n6_; clear hb hbox hg) | ((with_reducible refine gate_dst (N := 5) rfl ?_); refine box_event ?hg (N := 5) ?hd (cs := #[.int .i64 a2_0, .int .i64 a2_1]) (t := 36) ?hr ?_; (case hd => rfl); (case hg => rfl); (case hr => first | (go_simp; done) | (go_simp; rfl)); intro gb192 hg w13 hbox hb; have n0_ := Aside0.mk (blk_below (g := gb190) (o := .cells #[.int .i64 a0_0, .int .i64 a0_1] 36 (0, 0)) (zK BK190.out) hb); have n1_ := Aside0.mk (blk_below (g := gb191) (o := .cells #[.int .i64 a1_0, .int .i64 a1_1] 36 (0, 0)) (zK BK191.out) hb); have n2_ := Aside0.mk (below_step (by repeat (first | (with_reducible first | exact HB.out | apply below_alloc | apply pw_below_drewN | apply below_drew1 | refine below_set ?_ GE190.out | refine below_set ?_ GE191.out) | exact HB.out)) hb); have n3_ := Aside0.mk (hbox); have n4_ := Aside0.mk ((by rw [hg]; exact (below_size (by repeat (first | (with_reducible first | exact HB.out | apply below_alloc | apply pw_below_drewN | apply below_drew1 | refine below_set ?_ GE190.out | refine below_set ?_ GE191.out) | exact HB.out))) : w.heap.size ≤ gb192)); have n5_ := Aside0.mk ((by rw [hg]; exact (below_size (by repeat (first | (with_reducible first | exact HB.out | apply below_alloc | apply pw_below_drewN | apply below_drew1 | refine below_set ?_ GE190.out | refine below_set ?_ GE191.out) | exact HB.out))) : w.heap.size ≤ gb192)); have n6_ := Aside0.mk ((by rw [hg]; exact Nat.ne_of_lt (blk_lt (g := gb190) (o := .cells #[.int .i64 a0_0, .int .i64 a0_1] 36 (0, 0)) (zK BK190.out)) : gb190 ≠ gb192)); have n7_ := Aside0.mk ((by rw [hg]; exact Nat.ne_of_gt (blk_lt (g := gb190) (o := .cells #[.int .i64 a0_0, .int .i64 a0_1] 36 (0, 0)) (zK BK190.out)) : gb192 ≠ gb190)); have n8_ := Aside0.mk ((by rw [hg]; exact Nat.ne_of_lt (blk_lt (g := gb191) (o := .cells #[.int .i64 a1_0, .int .i64 a1_1] 36 (0, 0)) (zK BK191.out)) : gb191 ≠ gb192)); have n9_ := Aside0.mk ((by rw [hg]; exact Nat.ne_of_gt (blk_lt (g := gb191) (o := .cells #[.int .i64 a1_0, .int .i64 a1_1] 36 (0, 0)) (zK BK191.out)) : gb192 ≠ gb191)); clear BK190; clear BK191; clear HB; have BK190 := n0_; have BK191 := n1_; have HB := n2_; have BK192 := n3_; have GW192 := n4_; have GE192 := n5_; have NB190_192 := n6_; have NB192_190 := n7_; have NB191_192 := n8_; have NB192_191 := n9_; clear n0_ n1_ n2_ n3_ n4_ n5_ n6_ n7_ n8_ n9_; clear hb hbox hg; have hnb14 := NB190_191.out; have hnc14 := NB191_190.out; have hnb15 := NB190_192.out; have hnc15 := NB192_190.out; have hcz16_0 : w13.cell? ⟨gb190, 0, none⟩ = some (.int .i64 a0_0) := (blk_cell BK190.out 0).trans rfl; have hcz16_1 : w13.cell? ⟨gb190, 1, none⟩ = some (.int .i64 a0_1) := (blk_cell BK190.out 1).trans rfl; have hfz16_0 := blk_frozen BK190.out 0; have hfz16_1 := blk_frozen BK190.out 1) | ((with_reducible refine gate_callee (f := 48) rfl ?_); refine goesL_ (some 8) rfl rfl Try.func48 (by kernel_rfl) rfl #[.agg #[.int .i64 a0_0, .int .i64 a0_1], .int .i64 1000] rfl zM ?_; (with_reducible refine (spec_l2Fits.calls a0_0 a0_1 1000 true _ A4.out).mono ?_); rintro e w17 ⟨rfl, hb⟩; refine ⟨_, rfl, ?_⟩; replace BK190 := Aside0.mk (blk_below (g := gb190) (o := .cells #[.int .i64 a0_0, .int .i64 a0_1] 36 (0, 0)) (zK BK190.out) hb); replace BK191 := Aside0.mk (blk_below (g := gb191) (o := .cells #[.int .i64 a1_0, .int .i64 a1_1] 36 (0, 0)) (zK BK191.out) hb); replace BK192 := Aside0.mk (blk_below (g := gb192) (o := .cells #[.int .i64 a2_0, .int .i64 a2_1] 36 (0, 0)) (zK BK192.out) hb); replace HB := Aside0.mk (below_step (by repeat (first | (with_reducible first | exact HB.out | apply below_alloc | apply pw_below_drewN | apply below_drew1 | refine below_set ?_ GE190.out | refine below_set ?_ GE191.out | refine below_set ?_ GE192.out) | exact HB.out)) hb); (try clear hb); have hnb18 := NB191_192.out; have hnc18 := NB192_191.out; have hcz19_0 : w17.cell? ⟨gb191, 0, none⟩ = some (.int .i64 a1_0) := (blk_cell BK191.out 0).trans rfl; have hcz19_1 : w17.cell? ⟨gb191, 1, none⟩ = some (.int .i64 a1_1) := (blk_cell BK191.out 1).trans rfl; have hfz19_0 := blk_frozen BK191.out 0; have hfz19_1 := blk_frozen BK191.out 1) | (go_at_call 48; (with_reducible refine (spec_l2Fits.calls a1_0 a1_1 1000 true _ A6.out).mono ?_); rintro e w20 ⟨rfl, hb⟩; replace BK190 := Aside0.mk (blk_below (g := gb190) (o := .cells #[.int .i64 a0_0, .int .i64 a0_1] 36 (0, 0)) (zK BK190.out) hb); replace BK191 := Aside0.mk (blk_below (g := gb191) (o := .cells #[.int .i64 a1_0, .int .i64 a1_1] 36 (0, 0)) (zK BK191.out) hb); replace BK192 := Aside0.mk (blk_below (g := gb192) (o := .cells #[.int .i64 a2_0, .int .i64 a2_1] 36 (0, 0)) (zK BK192.out) hb); replace HB := Aside0.mk (below_step (by repeat (first | (with_reducible first | exact HB.out | apply below_alloc | apply pw_below_drewN | apply below_drew1 | refine below_set ?_ GE190.out | refine below_set ?_ GE191.out | refine below_set ?_ GE192.out) | exact HB.out)) hb); (try clear hb); (try clear hb2); (try clear hk); (try clear hi); have hcz21_0 : w20.cell? ⟨gb192, 0, none⟩ = some (.int .i64 a2_0) := (blk_cell BK192.out 0).trans rfl; have hcz21_1 : w20.cell? ⟨gb192, 1, none⟩ = some (.int .i64 a2_1) := (blk_cell BK192.out 1).trans rfl; have hfz21_0 := blk_frozen BK192.out 0; have hfz21_1 := blk_frozen BK192.out 1) | (go_at_call 48; (with_reducible refine (spec_l2Fits.calls a2_0 a2_1 1000 true _ A8.out).mono ?_); rintro e w22 ⟨rfl, hb⟩; replace BK190 := Aside0.mk (blk_below (g := gb190) (o := .cells #[.int .i64 a0_0, .int .i64 a0_1] 36 (0, 0)) (zK BK190.out) hb); replace BK191 := Aside0.mk (blk_below (g := gb191) (o := .cells #[.int .i64 a1_0, .int .i64 a1_1] 36 (0, 0)) (zK BK191.out) hb); replace BK192 := Aside0.mk (blk_below (g := gb192) (o := .cells #[.int .i64 a2_0, .int .i64 a2_1] 36 (0, 0)) (zK BK192.out) hb); replace HB := Aside0.mk (below_step (by repeat (first | (with_reducible first | exact HB.out | apply below_alloc | apply pw_below_drewN | apply below_drew1 | refine below_set ?_ GE190.out | refine below_set ?_ GE191.out | refine below_set ?_ GE192.out) | exact HB.out)) hb); (try clear hb); (try clear hb2); (try clear hk); (try clear hi); have hcz23_0 : w22.cell? ⟨gb190, 0, none⟩ = some (.int .i64 a0_0) := (blk_cell BK190.out 0).trans rfl; have hcz23_1 : w22.cell? ⟨gb190, 1, none⟩ = some (.int .i64 a0_1) := (blk_cell BK190.out 1).trans rfl; have hfz23_0 := blk_frozen BK190.out 0; have hfz23_1 := blk_frozen BK190.out 1; have hcz24_0 : w22.cell? ⟨gb191, 0, none⟩ = some (.int .i64 a1_0) := (blk_cell BK191.out 0).trans rfl; have hcz24_1 : w22.cell? ⟨gb191, 1, none⟩ = some (.int .i64 a1_1) := (blk_cell BK191.out 1).trans rfl; have hfz24_0 := blk_frozen BK191.out 0; have hfz24_1 := blk_frozen BK191.out 1; have hcz25_0 : w22.cell? ⟨gb192, 0, none⟩ = some (.int .i64 a2_0) := (blk_cell BK192.out 0).trans rfl; have hcz25_1 : w22.cell? ⟨gb192, 1, none⟩ = some (.int .i64 a2_1) := (blk_cell BK192.out 1).trans rfl; have hfz25_0 := blk_frozen BK192.out 0; have hfz25_1 := blk_frozen BK192.out 1) | ((with_reducible refine gate_callee (f := 49) rfl ?_); refine goesL_ (some 23) rfl rfl Try.func49 (by kernel_rfl) rfl #[.agg #[.int .i64 a0_0, .int .i64 a0_1], .agg #[.int .i64 a1_0, .int .i64 a1_1], .agg #[.int .i64 a2_0, .int .i64 a2_1]] rfl zM ?_; (with_reducible refine (spec_l2Area.calls a0_0 a0_1 a1_0 a1_1 a2_0 a2_1 t196 _ A10.out).mono ?_); rintro e w26 ⟨rfl, hb⟩; refine ⟨_, rfl, ?_⟩; replace BK190 := Aside0.mk (blk_below (g := gb190) (o := .cells #[.int .i64 a0_0, .int .i64 a0_1] 36 (0, 0)) (zK BK190.out) hb); replace BK191 := Aside0.mk (blk_below (g := gb191) (o := .cells #[.int .i64 a1_0, .int .i64 a1_1] 36 (0, 0)) (zK BK191.out) hb); replace BK192 := Aside0.mk (blk_below (g := gb192) (o := .cells #[.int .i64 a2_0, .int .i64 a2_1] 36 (0, 0)) (zK BK192.out) hb); replace HB := Aside0.mk (below_step (by repeat (first | (with_reducible first | exact HB.out | apply below_alloc | apply pw_below_drewN | apply below_drew1 | refine below_set ?_ GE190.out | refine below_set ?_ GE191.out | refine below_set ?_ GE192.out) | exact HB.out)) hb); (try clear hb)))
    go_ret
    exact ⟨zE, by repeat (first | (with_reducible first | exact HB.out | apply below_alloc | apply pw_below_drewN | apply below_drew1 | refine below_set ?_ GE190.out | refine below_set ?_ GE191.out | refine below_set ?_ GE192.out) | exact HB.out)⟩
   ·replace c9 := Bool.eq_false_iff.mpr c9
    subst c9
    have H1 : (some 0) = some r := by rw [if_neg (show ¬ (false = true) by decide)] at H; exact H
    clear H
    have H := H1
    clear H1
    obtain rfl := Option.some.inj H
    go_enter Try.func23, Try.ntmps23
    go_wp2_with (first | ((with_reducible refine gate_dst (N := 3) rfl ?_); refine box_event ?hg (N := 3) ?hd (cs := #[.int .i64 a0_0, .int .i64 a0_1]) (t := 36) ?hr ?_; (case hd => rfl); (case hg => rfl); (case hr => first | (go_simp; done) | (go_simp; rfl)); intro gb190 hg w27 hbox hb; have BK190 := Aside0.mk (hbox); have GW190 := Aside0.mk ((by rw [hg]; exact (below_size zB) : w.heap.size ≤ gb190)); have GE190 := Aside0.mk ((by rw [hg]; exact (below_size zB) : w.heap.size ≤ gb190)); replace HB := Aside0.mk (below_step zB hb); clear hb hbox hg) | ((with_reducible refine gate_dst (N := 4) rfl ?_); refine box_event ?hg (N := 4) ?hd (cs := #[.int .i64 a1_0, .int .i64 a1_1]) (t := 36) ?hr ?_; (case hd => rfl); (case hg => rfl); (case hr => first | (go_simp; done) | (go_simp; rfl)); intro gb191 hg w28 hbox hb; have n0_ := Aside0.mk (blk_below (g := gb190) (o := .cells #[.int .i64 a0_0, .int .i64 a0_1] 36 (0, 0)) (zK BK190.out) hb); have n1_ := Aside0.mk (below_step (zG GE190.out) hb); have n2_ := Aside0.mk (hbox); have n3_ := Aside0.mk ((by rw [hg]; exact (below_size (zG GE190.out)) : w.heap.size ≤ gb191)); have n4_ := Aside0.mk ((by rw [hg]; exact (below_size (zG GE190.out)) : w.heap.size ≤ gb191)); have n5_ := Aside0.mk ((by rw [hg]; exact Nat.ne_of_lt (blk_lt (g := gb190) (o := .cells #[.int .i64 a0_0, .int .i64 a0_1] 36 (0, 0)) (zK BK190.out)) : gb190 ≠ gb191)); have n6_ := Aside0.mk ((by rw [hg]; exact Nat.ne_of_gt (blk_lt (g := gb190) (o := .cells #[.int .i64 a0_0, .int .i64 a0_1] 36 (0, 0)) (zK BK190.out)) : gb191 ≠ gb190)); clear BK190; clear HB; have BK190 := n0_; have HB := n1_; have BK191 := n2_; have GW191 := n3_; have GE191 := n4_; have NB190_191 := n5_; have NB191_190 := n6_; clear n0_ n1_ n2_ n3_ n4_ n5_ n6_; clear hb hbox hg) | ((with_reducible refine gate_dst (N := 5) rfl ?_); refine box_event ?hg (N := 5) ?hd (cs := #[.int .i64 a2_0, .int .i64 a2_1]) (t := 36) ?hr ?_; (case hd => rfl); (case hg => rfl); (case hr => first | (go_simp; done) | (go_simp; rfl)); intro gb192 hg w29 hbox hb; have n0_ := Aside0.mk (blk_below (g := gb190) (o := .cells #[.int .i64 a0_0, .int .i64 a0_1] 36 (0, 0)) (zK BK190.out) hb); have n1_ := Aside0.mk (blk_below (g := gb191) (o := .cells #[.int .i64 a1_0, .int .i64 a1_1] 36 (0, 0)) (zK BK191.out) hb); have n2_ := Aside0.mk (below_step (by repeat (first | (with_reducible first | exact HB.out | apply below_alloc | apply pw_below_drewN | apply below_drew1 | refine below_set ?_ GE190.out | refine below_set ?_ GE191.out) | exact HB.out)) hb); have n3_ := Aside0.mk (hbox); have n4_ := Aside0.mk ((by rw [hg]; exact (below_size (by repeat (first | (with_reducible first | exact HB.out | apply below_alloc | apply pw_below_drewN | apply below_drew1 | refine below_set ?_ GE190.out | refine below_set ?_ GE191.out) | exact HB.out))) : w.heap.size ≤ gb192)); have n5_ := Aside0.mk ((by rw [hg]; exact (below_size (by repeat (first | (with_reducible first | exact HB.out | apply below_alloc | apply pw_below_drewN | apply below_drew1 | refine below_set ?_ GE190.out | refine below_set ?_ GE191.out) | exact HB.out))) : w.heap.size ≤ gb192)); have n6_ := Aside0.mk ((by rw [hg]; exact Nat.ne_of_lt (blk_lt (g := gb190) (o := .cells #[.int .i64 a0_0, .int .i64 a0_1] 36 (0, 0)) (zK BK190.out)) : gb190 ≠ gb192)); have n7_ := Aside0.mk ((by rw [hg]; exact Nat.ne_of_gt (blk_lt (g := gb190) (o := .cells #[.int .i64 a0_0, .int .i64 a0_1] 36 (0, 0)) (zK BK190.out)) : gb192 ≠ gb190)); have n8_ := Aside0.mk ((by rw [hg]; exact Nat.ne_of_lt (blk_lt (g := gb191) (o := .cells #[.int .i64 a1_0, .int .i64 a1_1] 36 (0, 0)) (zK BK191.out)) : gb191 ≠ gb192)); have n9_ := Aside0.mk ((by rw [hg]; exact Nat.ne_of_gt (blk_lt (g := gb191) (o := .cells #[.int .i64 a1_0, .int .i64 a1_1] 36 (0, 0)) (zK BK191.out)) : gb192 ≠ gb191)); clear BK190; clear BK191; clear HB; have BK190 := n0_; have BK191 := n1_; have HB := n2_; have BK192 := n3_; have GW192 := n4_; have GE192 := n5_; have NB190_192 := n6_; have NB192_190 := n7_; have NB191_192 := n8_; have NB192_191 := n9_; clear n0_ n1_ n2_ n3_ n4_ n5_ n6_ n7_ n8_ n9_; clear hb hbox hg; have hnb30 := NB190_191.out; have hnc30 := NB191_190.out; have hnb31 := NB190_192.out; have hnc31 := NB192_190.out; have hcz32_0 : w29.cell? ⟨gb190, 0, none⟩ = some (.int .i64 a0_0) := (blk_cell BK190.out 0).trans rfl; have hcz32_1 : w29.cell? ⟨gb190, 1, none⟩ = some (.int .i64 a0_1) := (blk_cell BK190.out 1).trans rfl; have hfz32_0 := blk_frozen BK190.out 0; have hfz32_1 := blk_frozen BK190.out 1) | ((with_reducible refine gate_callee (f := 48) rfl ?_); refine goesL_ (some 8) rfl rfl Try.func48 (by kernel_rfl) rfl #[.agg #[.int .i64 a0_0, .int .i64 a0_1], .int .i64 1000] rfl zM ?_; (with_reducible refine (spec_l2Fits.calls a0_0 a0_1 1000 true _ A4.out).mono ?_); rintro e w33 ⟨rfl, hb⟩; refine ⟨_, rfl, ?_⟩; replace BK190 := Aside0.mk (blk_below (g := gb190) (o := .cells #[.int .i64 a0_0, .int .i64 a0_1] 36 (0, 0)) (zK BK190.out) hb); replace BK191 := Aside0.mk (blk_below (g := gb191) (o := .cells #[.int .i64 a1_0, .int .i64 a1_1] 36 (0, 0)) (zK BK191.out) hb); replace BK192 := Aside0.mk (blk_below (g := gb192) (o := .cells #[.int .i64 a2_0, .int .i64 a2_1] 36 (0, 0)) (zK BK192.out) hb); replace HB := Aside0.mk (below_step (by repeat (first | (with_reducible first | exact HB.out | apply below_alloc | apply pw_below_drewN | apply below_drew1 | refine below_set ?_ GE190.out | refine below_set ?_ GE191.out | refine below_set ?_ GE192.out) | exact HB.out)) hb); (try clear hb); have hnb34 := NB191_192.out; have hnc34 := NB192_191.out; have hcz35_0 : w33.cell? ⟨gb191, 0, none⟩ = some (.int .i64 a1_0) := (blk_cell BK191.out 0).trans rfl; have hcz35_1 : w33.cell? ⟨gb191, 1, none⟩ = some (.int .i64 a1_1) := (blk_cell BK191.out 1).trans rfl; have hfz35_0 := blk_frozen BK191.out 0; have hfz35_1 := blk_frozen BK191.out 1) | (go_at_call 48; (with_reducible refine (spec_l2Fits.calls a1_0 a1_1 1000 true _ A6.out).mono ?_); rintro e w36 ⟨rfl, hb⟩; replace BK190 := Aside0.mk (blk_below (g := gb190) (o := .cells #[.int .i64 a0_0, .int .i64 a0_1] 36 (0, 0)) (zK BK190.out) hb); replace BK191 := Aside0.mk (blk_below (g := gb191) (o := .cells #[.int .i64 a1_0, .int .i64 a1_1] 36 (0, 0)) (zK BK191.out) hb); replace BK192 := Aside0.mk (blk_below (g := gb192) (o := .cells #[.int .i64 a2_0, .int .i64 a2_1] 36 (0, 0)) (zK BK192.out) hb); replace HB := Aside0.mk (below_step (by repeat (first | (with_reducible first | exact HB.out | apply below_alloc | apply pw_below_drewN | apply below_drew1 | refine below_set ?_ GE190.out | refine below_set ?_ GE191.out | refine below_set ?_ GE192.out) | exact HB.out)) hb); (try clear hb); (try clear hb2); (try clear hk); (try clear hi); have hcz37_0 : w36.cell? ⟨gb192, 0, none⟩ = some (.int .i64 a2_0) := (blk_cell BK192.out 0).trans rfl; have hcz37_1 : w36.cell? ⟨gb192, 1, none⟩ = some (.int .i64 a2_1) := (blk_cell BK192.out 1).trans rfl; have hfz37_0 := blk_frozen BK192.out 0; have hfz37_1 := blk_frozen BK192.out 1) | (go_at_call 48; (with_reducible refine (spec_l2Fits.calls a2_0 a2_1 1000 false _ A8.out).mono ?_); rintro e w38 ⟨rfl, hb⟩; replace BK190 := Aside0.mk (blk_below (g := gb190) (o := .cells #[.int .i64 a0_0, .int .i64 a0_1] 36 (0, 0)) (zK BK190.out) hb); replace BK191 := Aside0.mk (blk_below (g := gb191) (o := .cells #[.int .i64 a1_0, .int .i64 a1_1] 36 (0, 0)) (zK BK191.out) hb); replace BK192 := Aside0.mk (blk_below (g := gb192) (o := .cells #[.int .i64 a2_0, .int .i64 a2_1] 36 (0, 0)) (zK BK192.out) hb); replace HB := Aside0.mk (below_step (by repeat (first | (with_reducible first | exact HB.out | apply below_alloc | apply pw_below_drewN | apply below_drew1 | refine below_set ?_ GE190.out | refine below_set ?_ GE191.out | refine below_set ?_ GE192.out) | exact HB.out)) hb); (try clear hb); (try clear hb2); (try clear hk); (try clear hi)))
    go_ret
    exact ⟨zE, by repeat (first | (with_reducible first | exact HB.out | apply below_alloc | apply pw_below_drewN | apply below_drew1 | refine below_set ?_ GE190.out | refine below_set ?_ GE191.out | refine below_set ?_ GE192.out) | exact HB.out)⟩
  ·replace c7 := Bool.eq_false_iff.mpr c7
   subst c7
   have H1 : (some 0) = some r := by rw [if_neg (show ¬ (false = true) by decide)] at H; exact H
   clear H
   have H := H1
   clear H1
   obtain rfl := Option.some.inj H
   go_enter Try.func23, Try.ntmps23
   go_wp2_with (first | ((with_reducible refine gate_dst (N := 3) rfl ?_); refine box_event ?hg (N := 3) ?hd (cs := #[.int .i64 a0_0, .int .i64 a0_1]) (t := 36) ?hr ?_; (case hd => rfl); (case hg => rfl); (case hr => first | (go_simp; done) | (go_simp; rfl)); intro gb190 hg w39 hbox hb; have BK190 := Aside0.mk (hbox); have GW190 := Aside0.mk ((by rw [hg]; exact (below_size zB) : w.heap.size ≤ gb190)); have GE190 := Aside0.mk ((by rw [hg]; exact (below_size zB) : w.heap.size ≤ gb190)); replace HB := Aside0.mk (below_step zB hb); clear hb hbox hg) | ((with_reducible refine gate_dst (N := 4) rfl ?_); refine box_event ?hg (N := 4) ?hd (cs := #[.int .i64 a1_0, .int .i64 a1_1]) (t := 36) ?hr ?_; (case hd => rfl); (case hg => rfl); (case hr => first | (go_simp; done) | (go_simp; rfl)); intro gb191 hg w40 hbox hb; have n0_ := Aside0.mk (blk_below (g := gb190) (o := .cells #[.int .i64 a0_0, .int .i64 a0_1] 36 (0, 0)) (zK BK190.out) hb); have n1_ := Aside0.mk (below_step (zG GE190.out) hb); have n2_ := Aside0.mk (hbox); have n3_ := Aside0.mk ((by rw [hg]; exact (below_size (zG GE190.out)) : w.heap.size ≤ gb191)); have n4_ := Aside0.mk ((by rw [hg]; exact (below_size (zG GE190.out)) : w.heap.size ≤ gb191)); have n5_ := Aside0.mk ((by rw [hg]; exact Nat.ne_of_lt (blk_lt (g := gb190) (o := .cells #[.int .i64 a0_0, .int .i64 a0_1] 36 (0, 0)) (zK BK190.out)) : gb190 ≠ gb191)); have n6_ := Aside0.mk ((by rw [hg]; exact Nat.ne_of_gt (blk_lt (g := gb190) (o := .cells #[.int .i64 a0_0, .int .i64 a0_1] 36 (0, 0)) (zK BK190.out)) : gb191 ≠ gb190)); clear BK190; clear HB; have BK190 := n0_; have HB := n1_; have BK191 := n2_; have GW191 := n3_; have GE191 := n4_; have NB190_191 := n5_; have NB191_190 := n6_; clear n0_ n1_ n2_ n3_ n4_ n5_ n6_; clear hb hbox hg) | ((with_reducible refine gate_dst (N := 5) rfl ?_); refine box_event ?hg (N := 5) ?hd (cs := #[.int .i64 a2_0, .int .i64 a2_1]) (t := 36) ?hr ?_; (case hd => rfl); (case hg => rfl); (case hr => first | (go_simp; done) | (go_simp; rfl)); intro gb192 hg w41 hbox hb; have n0_ := Aside0.mk (blk_below (g := gb190) (o := .cells #[.int .i64 a0_0, .int .i64 a0_1] 36 (0, 0)) (zK BK190.out) hb); have n1_ := Aside0.mk (blk_below (g := gb191) (o := .cells #[.int .i64 a1_0, .int .i64 a1_1] 36 (0, 0)) (zK BK191.out) hb); have n2_ := Aside0.mk (below_step (by repeat (first | (with_reducible first | exact HB.out | apply below_alloc | apply pw_below_drewN | apply below_drew1 | refine below_set ?_ GE190.out | refine below_set ?_ GE191.out) | exact HB.out)) hb); have n3_ := Aside0.mk (hbox); have n4_ := Aside0.mk ((by rw [hg]; exact (below_size (by repeat (first | (with_reducible first | exact HB.out | apply below_alloc | apply pw_below_drewN | apply below_drew1 | refine below_set ?_ GE190.out | refine below_set ?_ GE191.out) | exact HB.out))) : w.heap.size ≤ gb192)); have n5_ := Aside0.mk ((by rw [hg]; exact (below_size (by repeat (first | (with_reducible first | exact HB.out | apply below_alloc | apply pw_below_drewN | apply below_drew1 | refine below_set ?_ GE190.out | refine below_set ?_ GE191.out) | exact HB.out))) : w.heap.size ≤ gb192)); have n6_ := Aside0.mk ((by rw [hg]; exact Nat.ne_of_lt (blk_lt (g := gb190) (o := .cells #[.int .i64 a0_0, .int .i64 a0_1] 36 (0, 0)) (zK BK190.out)) : gb190 ≠ gb192)); have n7_ := Aside0.mk ((by rw [hg]; exact Nat.ne_of_gt (blk_lt (g := gb190) (o := .cells #[.int .i64 a0_0, .int .i64 a0_1] 36 (0, 0)) (zK BK190.out)) : gb192 ≠ gb190)); have n8_ := Aside0.mk ((by rw [hg]; exact Nat.ne_of_lt (blk_lt (g := gb191) (o := .cells #[.int .i64 a1_0, .int .i64 a1_1] 36 (0, 0)) (zK BK191.out)) : gb191 ≠ gb192)); have n9_ := Aside0.mk ((by rw [hg]; exact Nat.ne_of_gt (blk_lt (g := gb191) (o := .cells #[.int .i64 a1_0, .int .i64 a1_1] 36 (0, 0)) (zK BK191.out)) : gb192 ≠ gb191)); clear BK190; clear BK191; clear HB; have BK190 := n0_; have BK191 := n1_; have HB := n2_; have BK192 := n3_; have GW192 := n4_; have GE192 := n5_; have NB190_192 := n6_; have NB192_190 := n7_; have NB191_192 := n8_; have NB192_191 := n9_; clear n0_ n1_ n2_ n3_ n4_ n5_ n6_ n7_ n8_ n9_; clear hb hbox hg; have hnb42 := NB190_191.out; have hnc42 := NB191_190.out; have hnb43 := NB190_192.out; have hnc43 := NB192_190.out; have hcz44_0 : w41.cell? ⟨gb190, 0, none⟩ = some (.int .i64 a0_0) := (blk_cell BK190.out 0).trans rfl; have hcz44_1 : w41.cell? ⟨gb190, 1, none⟩ = some (.int .i64 a0_1) := (blk_cell BK190.out 1).trans rfl; have hfz44_0 := blk_frozen BK190.out 0; have hfz44_1 := blk_frozen BK190.out 1) | ((with_reducible refine gate_callee (f := 48) rfl ?_); refine goesL_ (some 8) rfl rfl Try.func48 (by kernel_rfl) rfl #[.agg #[.int .i64 a0_0, .int .i64 a0_1], .int .i64 1000] rfl zM ?_; (with_reducible refine (spec_l2Fits.calls a0_0 a0_1 1000 true _ A4.out).mono ?_); rintro e w45 ⟨rfl, hb⟩; refine ⟨_, rfl, ?_⟩; replace BK190 := Aside0.mk (blk_below (g := gb190) (o := .cells #[.int .i64 a0_0, .int .i64 a0_1] 36 (0, 0)) (zK BK190.out) hb); replace BK191 := Aside0.mk (blk_below (g := gb191) (o := .cells #[.int .i64 a1_0, .int .i64 a1_1] 36 (0, 0)) (zK BK191.out) hb); replace BK192 := Aside0.mk (blk_below (g := gb192) (o := .cells #[.int .i64 a2_0, .int .i64 a2_1] 36 (0, 0)) (zK BK192.out) hb); replace HB := Aside0.mk (below_step (by repeat (first | (with_reducible first | exact HB.out | apply below_alloc | apply pw_below_drewN | apply below_drew1 | refine below_set ?_ GE190.out | refine below_set ?_ GE191.out | refine below_set ?_ GE192.out) | exact HB.out)) hb); (try clear hb); have hnb46 := NB191_192.out; have hnc46 := NB192_191.out; have hcz47_0 : w45.cell? ⟨gb191, 0, none⟩ = some (.int .i64 a1_0) := (blk_cell BK191.out 0).trans rfl; have hcz47_1 : w45.cell? ⟨gb191, 1, none⟩ = some (.int .i64 a1_1) := (blk_cell BK191.out 1).trans rfl; have hfz47_0 := blk_frozen BK191.out 0; have hfz47_1 := blk_frozen BK191.out 1) | (go_at_call 48; (with_reducible refine (spec_l2Fits.calls a1_0 a1_1 1000 false _ A6.out).mono ?_); rintro e w48 ⟨rfl, hb⟩; replace BK190 := Aside0.mk (blk_below (g := gb190) (o := .cells #[.int .i64 a0_0, .int .i64 a0_1] 36 (0, 0)) (zK BK190.out) hb); replace BK191 := Aside0.mk (blk_below (g := gb191) (o := .cells #[.int .i64 a1_0, .int .i64 a1_1] 36 (0, 0)) (zK BK191.out) hb); replace BK192 := Aside0.mk (blk_below (g := gb192) (o := .cells #[.int .i64 a2_0, .int .i64 a2_1] 36 (0, 0)) (zK BK192.out) hb); replace HB := Aside0.mk (below_step (by repeat (first | (with_reducible first | exact HB.out | apply below_alloc | apply pw_below_drewN | apply below_drew1 | refine below_set ?_ GE190.out | refine below_set ?_ GE191.out | refine below_set ?_ GE192.out) | exact HB.out)) hb); (try clear hb); (try clear hb2); (try clear hk); (try clear hi)))
   go_ret
   exact ⟨zE, by repeat (first | (with_reducible first | exact HB.out | apply below_alloc | apply pw_below_drewN | apply below_drew1 | refine below_set ?_ GE190.out | refine below_set ?_ GE191.out | refine below_set ?_ GE192.out) | exact HB.out)⟩
 ·replace c5 := Bool.eq_false_iff.mpr c5
  subst c5
  have H1 : (some 0) = some r := by rw [if_neg (show ¬ (false = true) by decide)] at H; exact H
  clear H
  have H := H1
  clear H1
  obtain rfl := Option.some.inj H
  go_enter Try.func23, Try.ntmps23
  go_wp2_with (first | ((with_reducible refine gate_dst (N := 3) rfl ?_); refine box_event ?hg (N := 3) ?hd (cs := #[.int .i64 a0_0, .int .i64 a0_1]) (t := 36) ?hr ?_; (case hd => rfl); (case hg => rfl); (case hr => first | (go_simp; done) | (go_simp; rfl)); intro gb190 hg w49 hbox hb; have BK190 := Aside0.mk (hbox); have GW190 := Aside0.mk ((by rw [hg]; exact (below_size zB) : w.heap.size ≤ gb190)); have GE190 := Aside0.mk ((by rw [hg]; exact (below_size zB) : w.heap.size ≤ gb190)); replace HB := Aside0.mk (below_step zB hb); clear hb hbox hg) | ((with_reducible refine gate_dst (N := 4) rfl ?_); refine box_event ?hg (N := 4) ?hd (cs := #[.int .i64 a1_0, .int .i64 a1_1]) (t := 36) ?hr ?_; (case hd => rfl); (case hg => rfl); (case hr => first | (go_simp; done) | (go_simp; rfl)); intro gb191 hg w50 hbox hb; have n0_ := Aside0.mk (blk_below (g := gb190) (o := .cells #[.int .i64 a0_0, .int .i64 a0_1] 36 (0, 0)) (zK BK190.out) hb); have n1_ := Aside0.mk (below_step (zG GE190.out) hb); have n2_ := Aside0.mk (hbox); have n3_ := Aside0.mk ((by rw [hg]; exact (below_size (zG GE190.out)) : w.heap.size ≤ gb191)); have n4_ := Aside0.mk ((by rw [hg]; exact (below_size (zG GE190.out)) : w.heap.size ≤ gb191)); have n5_ := Aside0.mk ((by rw [hg]; exact Nat.ne_of_lt (blk_lt (g := gb190) (o := .cells #[.int .i64 a0_0, .int .i64 a0_1] 36 (0, 0)) (zK BK190.out)) : gb190 ≠ gb191)); have n6_ := Aside0.mk ((by rw [hg]; exact Nat.ne_of_gt (blk_lt (g := gb190) (o := .cells #[.int .i64 a0_0, .int .i64 a0_1] 36 (0, 0)) (zK BK190.out)) : gb191 ≠ gb190)); clear BK190; clear HB; have BK190 := n0_; have HB := n1_; have BK191 := n2_; have GW191 := n3_; have GE191 := n4_; have NB190_191 := n5_; have NB191_190 := n6_; clear n0_ n1_ n2_ n3_ n4_ n5_ n6_; clear hb hbox hg) | ((with_reducible refine gate_dst (N := 5) rfl ?_); refine box_event ?hg (N := 5) ?hd (cs := #[.int .i64 a2_0, .int .i64 a2_1]) (t := 36) ?hr ?_; (case hd => rfl); (case hg => rfl); (case hr => first | (go_simp; done) | (go_simp; rfl)); intro gb192 hg w51 hbox hb; have n0_ := Aside0.mk (blk_below (g := gb190) (o := .cells #[.int .i64 a0_0, .int .i64 a0_1] 36 (0, 0)) (zK BK190.out) hb); have n1_ := Aside0.mk (blk_below (g := gb191) (o := .cells #[.int .i64 a1_0, .int .i64 a1_1] 36 (0, 0)) (zK BK191.out) hb); have n2_ := Aside0.mk (below_step (by repeat (first | (with_reducible first | exact HB.out | apply below_alloc | apply pw_below_drewN | apply below_drew1 | refine below_set ?_ GE190.out | refine below_set ?_ GE191.out) | exact HB.out)) hb); have n3_ := Aside0.mk (hbox); have n4_ := Aside0.mk ((by rw [hg]; exact (below_size (by repeat (first | (with_reducible first | exact HB.out | apply below_alloc | apply pw_below_drewN | apply below_drew1 | refine below_set ?_ GE190.out | refine below_set ?_ GE191.out) | exact HB.out))) : w.heap.size ≤ gb192)); have n5_ := Aside0.mk ((by rw [hg]; exact (below_size (by repeat (first | (with_reducible first | exact HB.out | apply below_alloc | apply pw_below_drewN | apply below_drew1 | refine below_set ?_ GE190.out | refine below_set ?_ GE191.out) | exact HB.out))) : w.heap.size ≤ gb192)); have n6_ := Aside0.mk ((by rw [hg]; exact Nat.ne_of_lt (blk_lt (g := gb190) (o := .cells #[.int .i64 a0_0, .int .i64 a0_1] 36 (0, 0)) (zK BK190.out)) : gb190 ≠ gb192)); have n7_ := Aside0.mk ((by rw [hg]; exact Nat.ne_of_gt (blk_lt (g := gb190) (o := .cells #[.int .i64 a0_0, .int .i64 a0_1] 36 (0, 0)) (zK BK190.out)) : gb192 ≠ gb190)); have n8_ := Aside0.mk ((by rw [hg]; exact Nat.ne_of_lt (blk_lt (g := gb191) (o := .cells #[.int .i64 a1_0, .int .i64 a1_1] 36 (0, 0)) (zK BK191.out)) : gb191 ≠ gb192)); have n9_ := Aside0.mk ((by rw [hg]; exact Nat.ne_of_gt (blk_lt (g := gb191) (o := .cells #[.int .i64 a1_0, .int .i64 a1_1] 36 (0, 0)) (zK BK191.out)) : gb192 ≠ gb191)); clear BK190; clear BK191; clear HB; have BK190 := n0_; have BK191 := n1_; have HB := n2_; have BK192 := n3_; have GW192 := n4_; have GE192 := n5_; have NB190_192 := n6_; have NB192_190 := n7_; have NB191_192 := n8_; have NB192_191 := n9_; clear n0_ n1_ n2_ n3_ n4_ n5_ n6_ n7_ n8_ n9_; clear hb hbox hg; have hnb52 := NB190_191.out; have hnc52 := NB191_190.out; have hnb53 := NB190_192.out; have hnc53 := NB192_190.out; have hcz54_0 : w51.cell? ⟨gb190, 0, none⟩ = some (.int .i64 a0_0) := (blk_cell BK190.out 0).trans rfl; have hcz54_1 : w51.cell? ⟨gb190, 1, none⟩ = some (.int .i64 a0_1) := (blk_cell BK190.out 1).trans rfl; have hfz54_0 := blk_frozen BK190.out 0; have hfz54_1 := blk_frozen BK190.out 1) | ((with_reducible refine gate_callee (f := 48) rfl ?_); refine goesL_ (some 8) rfl rfl Try.func48 (by kernel_rfl) rfl #[.agg #[.int .i64 a0_0, .int .i64 a0_1], .int .i64 1000] rfl zM ?_; (with_reducible refine (spec_l2Fits.calls a0_0 a0_1 1000 false _ A4.out).mono ?_); rintro e w55 ⟨rfl, hb⟩; refine ⟨_, rfl, ?_⟩; replace BK190 := Aside0.mk (blk_below (g := gb190) (o := .cells #[.int .i64 a0_0, .int .i64 a0_1] 36 (0, 0)) (zK BK190.out) hb); replace BK191 := Aside0.mk (blk_below (g := gb191) (o := .cells #[.int .i64 a1_0, .int .i64 a1_1] 36 (0, 0)) (zK BK191.out) hb); replace BK192 := Aside0.mk (blk_below (g := gb192) (o := .cells #[.int .i64 a2_0, .int .i64 a2_1] 36 (0, 0)) (zK BK192.out) hb); replace HB := Aside0.mk (below_step (by repeat (first | (with_reducible first | exact HB.out | apply below_alloc | apply pw_below_drewN | apply below_drew1 | refine below_set ?_ GE190.out | refine below_set ?_ GE191.out | refine below_set ?_ GE192.out) | exact HB.out)) hb); (try clear hb)))
  go_ret
  exact ⟨zE, by repeat (first | (with_reducible first | exact HB.out | apply below_alloc | apply pw_below_drewN | apply below_drew1 | refine below_set ?_ GE190.out | refine below_set ?_ GE191.out | refine below_set ?_ GE192.out) | exact HB.out)⟩
/-! ### impl_AreaOf: function 25 -/
def impl_AreaOf.f (a0_0 : Int) (a0_1 : Int) (a1_0 : Int) (a1_1 : Int) (a2_0 : Int) (a2_1 : Int) : Option (Int) := (impl_TurnOf.f a0_0 a0_1 a1_0 a1_1 a2_0 a2_1).bind fun t215 => (if t215 = 0 then (some 0) else ((impl_area.f a0_0 a0_1 a1_0 a1_1 a2_0 a2_1).bind fun t216 => (some t216)))
set_option maxHeartbeats 8000000 in
set_option maxRecDepth 100000 in
theorem impl_AreaOf.calls (a0_0 : Int) (a0_1 : Int) (a1_0 : Int) (a1_1 : Int) (a2_0 : Int) (a2_1 : Int) (r : Int) (w : World) (h : impl_AreaOf.f a0_0 a0_1 a1_0 a1_1 a2_0 a2_1 = some r) :
  Calls Try.prog 25 #[.agg #[.int .i64 a0_0, .int .i64 a0_1], .agg #[.int .i64 a1_0, .int .i64 a1_1], .agg #[.int .i64 a2_0, .int .i64 a2_1]] w fun e w' => e = .returned (.int .i64 r) ∧ Below w.heap.size w w' := by
 have hu36 := Try.underlying36
 have HB := Aside0.mk (Below.refl w.heap.size w)
 have H : ((impl_TurnOf.f a0_0 a0_1 a1_0 a1_1 a2_0 a2_1).bind fun t215 => (if t215 = 0 then (some 0) else ((impl_area.f a0_0 a0_1 a1_0 a1_1 a2_0 a2_1).bind fun t216 => (some t216)))) = some r := h
 clear h
 replace H := Option.bind_eq_some_iff.mp H
 obtain ⟨t215, A40, H⟩ := H
 replace H : (if t215 = 0 then (some 0) else ((impl_area.f a0_0 a0_1 a1_0 a1_1 a2_0 a2_1).bind fun t216 => (some t216))) = some r := H
 have A4 := Aside0.mk A40
 clear A40
 by_cases c5 : t215 = 0
 ·rw [if_pos c5] at H
  have c5b0 : (t215 == 0) = true := beq_iff_eq.mpr c5
  have c5b1 : (t215 != 0) = false := bne_eq_false_iff_eq.mpr c5
  clear c5
  obtain rfl := Option.some.inj H
  go_enter Try.func25, Try.ntmps25
  go_wp2_with (first | ((with_reducible refine gate_dst (N := 3) rfl ?_); refine box_event ?hg (N := 3) ?hd (cs := #[.int .i64 a0_0, .int .i64 a0_1]) (t := 36) ?hr ?_; (case hd => rfl); (case hg => rfl); (case hr => first | (go_simp; done) | (go_simp; rfl)); intro gb212 hg w6 hbox hb; have BK212 := Aside0.mk (hbox); have GW212 := Aside0.mk ((by rw [hg]; exact (below_size zB) : w.heap.size ≤ gb212)); have GE212 := Aside0.mk ((by rw [hg]; exact (below_size zB) : w.heap.size ≤ gb212)); replace HB := Aside0.mk (below_step zB hb); clear hb hbox hg) | ((with_reducible refine gate_dst (N := 4) rfl ?_); refine box_event ?hg (N := 4) ?hd (cs := #[.int .i64 a1_0, .int .i64 a1_1]) (t := 36) ?hr ?_; (case hd => rfl); (case hg => rfl); (case hr => first | (go_simp; done) | (go_simp; rfl)); intro gb213 hg w7 hbox hb; have n0_ := Aside0.mk (blk_below (g := gb212) (o := .cells #[.int .i64 a0_0, .int .i64 a0_1] 36 (0, 0)) (zK BK212.out) hb); have n1_ := Aside0.mk (below_step (zG GE212.out) hb); have n2_ := Aside0.mk (hbox); have n3_ := Aside0.mk ((by rw [hg]; exact (below_size (zG GE212.out)) : w.heap.size ≤ gb213)); have n4_ := Aside0.mk ((by rw [hg]; exact (below_size (zG GE212.out)) : w.heap.size ≤ gb213)); have n5_ := Aside0.mk ((by rw [hg]; exact Nat.ne_of_lt (blk_lt (g := gb212) (o := .cells #[.int .i64 a0_0, .int .i64 a0_1] 36 (0, 0)) (zK BK212.out)) : gb212 ≠ gb213)); have n6_ := Aside0.mk ((by rw [hg]; exact Nat.ne_of_gt (blk_lt (g := gb212) (o := .cells #[.int .i64 a0_0, .int .i64 a0_1] 36 (0, 0)) (zK BK212.out)) : gb213 ≠ gb212)); clear BK212; clear HB; have BK212 := n0_; have HB := n1_; have BK213 := n2_; have GW213 := n3_; have GE213 := n4_; have NB212_213 := n5_; have NB213_212 := n6_; clear n0_ n1_ n2_ n3_ n4_ n5_ n6_; clear hb hbox hg) | ((with_reducible refine gate_dst (N := 5) rfl ?_); refine box_event ?hg (N := 5) ?hd (cs := #[.int .i64 a2_0, .int .i64 a2_1]) (t := 36) ?hr ?_; (case hd => rfl); (case hg => rfl); (case hr => first | (go_simp; done) | (go_simp; rfl)); intro gb214 hg w8 hbox hb; have n0_ := Aside0.mk (blk_below (g := gb212) (o := .cells #[.int .i64 a0_0, .int .i64 a0_1] 36 (0, 0)) (zK BK212.out) hb); have n1_ := Aside0.mk (blk_below (g := gb213) (o := .cells #[.int .i64 a1_0, .int .i64 a1_1] 36 (0, 0)) (zK BK213.out) hb); have n2_ := Aside0.mk (below_step (by repeat (first | (with_reducible first | exact HB.out | apply below_alloc | apply pw_below_drewN | apply below_drew1 | refine below_set ?_ GE212.out | refine below_set ?_ GE213.out) | exact HB.out)) hb); have n3_ := Aside0.mk (hbox); have n4_ := Aside0.mk ((by rw [hg]; exact (below_size (by repeat (first | (with_reducible first | exact HB.out | apply below_alloc | apply pw_below_drewN | apply below_drew1 | refine below_set ?_ GE212.out | refine below_set ?_ GE213.out) | exact HB.out))) : w.heap.size ≤ gb214)); have n5_ := Aside0.mk ((by rw [hg]; exact (below_size (by repeat (first | (with_reducible first | exact HB.out | apply below_alloc | apply pw_below_drewN | apply below_drew1 | refine below_set ?_ GE212.out | refine below_set ?_ GE213.out) | exact HB.out))) : w.heap.size ≤ gb214)); have n6_ := Aside0.mk ((by rw [hg]; exact Nat.ne_of_lt (blk_lt (g := gb212) (o := .cells #[.int .i64 a0_0, .int .i64 a0_1] 36 (0, 0)) (zK BK212.out)) : gb212 ≠ gb214)); have n7_ := Aside0.mk ((by rw [hg]; exact Nat.ne_of_gt (blk_lt (g := gb212) (o := .cells #[.int .i64 a0_0, .int .i64 a0_1] 36 (0, 0)) (zK BK212.out)) : gb214 ≠ gb212)); have n8_ := Aside0.mk ((by rw [hg]; exact Nat.ne_of_lt (blk_lt (g := gb213) (o := .cells #[.int .i64 a1_0, .int .i64 a1_1] 36 (0, 0)) (zK BK213.out)) : gb213 ≠ gb214)); have n9_ := Aside0.mk ((by rw [hg]; exact Nat.ne_of_gt (blk_lt (g := gb213) (o := .cells #[.int .i64 a1_0, .int .i64 a1_1] 36 (0, 0)) (zK BK213.out)) : gb214 ≠ gb213)); clear BK212; clear BK213; clear HB; have BK212 := n0_; have BK213 := n1_; have HB := n2_; have BK214 := n3_; have GW214 := n4_; have GE214 := n5_; have NB212_214 := n6_; have NB214_212 := n7_; have NB213_214 := n8_; have NB214_213 := n9_; clear n0_ n1_ n2_ n3_ n4_ n5_ n6_ n7_ n8_ n9_; clear hb hbox hg; have hnb9 := NB212_213.out; have hnc9 := NB213_212.out; have hnb10 := NB212_214.out; have hnc10 := NB214_212.out; have hcz11_0 : w8.cell? ⟨gb212, 0, none⟩ = some (.int .i64 a0_0) := (blk_cell BK212.out 0).trans rfl; have hcz11_1 : w8.cell? ⟨gb212, 1, none⟩ = some (.int .i64 a0_1) := (blk_cell BK212.out 1).trans rfl; have hfz11_0 := blk_frozen BK212.out 0; have hfz11_1 := blk_frozen BK212.out 1; have hnb12 := NB213_214.out; have hnc12 := NB214_213.out; have hcz13_0 : w8.cell? ⟨gb213, 0, none⟩ = some (.int .i64 a1_0) := (blk_cell BK213.out 0).trans rfl; have hcz13_1 : w8.cell? ⟨gb213, 1, none⟩ = some (.int .i64 a1_1) := (blk_cell BK213.out 1).trans rfl; have hfz13_0 := blk_frozen BK213.out 0; have hfz13_1 := blk_frozen BK213.out 1; have hcz14_0 : w8.cell? ⟨gb214, 0, none⟩ = some (.int .i64 a2_0) := (blk_cell BK214.out 0).trans rfl; have hcz14_1 : w8.cell? ⟨gb214, 1, none⟩ = some (.int .i64 a2_1) := (blk_cell BK214.out 1).trans rfl; have hfz14_0 := blk_frozen BK214.out 0; have hfz14_1 := blk_frozen BK214.out 1) | ((with_reducible refine gate_callee (f := 27) rfl ?_); refine goesL_ (some 10) rfl rfl Try.func27 (by kernel_rfl) rfl #[.agg #[.int .i64 a0_0, .int .i64 a0_1], .agg #[.int .i64 a1_0, .int .i64 a1_1], .agg #[.int .i64 a2_0, .int .i64 a2_1]] rfl zM ?_; (with_reducible refine (impl_TurnOf.calls a0_0 a0_1 a1_0 a1_1 a2_0 a2_1 t215 _ A4.out).mono ?_); rintro e w15 ⟨rfl, hb⟩; refine ⟨_, rfl, ?_⟩; replace BK212 := Aside0.mk (blk_below (g := gb212) (o := .cells #[.int .i64 a0_0, .int .i64 a0_1] 36 (0, 0)) (zK BK212.out) hb); replace BK213 := Aside0.mk (blk_below (g := gb213) (o := .cells #[.int .i64 a1_0, .int .i64 a1_1] 36 (0, 0)) (zK BK213.out) hb); replace BK214 := Aside0.mk (blk_below (g := gb214) (o := .cells #[.int .i64 a2_0, .int .i64 a2_1] 36 (0, 0)) (zK BK214.out) hb); replace HB := Aside0.mk (below_step (by repeat (first | (with_reducible first | exact HB.out | apply below_alloc | apply pw_below_drewN | apply below_drew1 | refine below_set ?_ GE212.out | refine below_set ?_ GE213.out | refine below_set ?_ GE214.out) | exact HB.out)) hb); (try clear hb)))
  go_ret
  exact ⟨zE, by repeat (first | (with_reducible first | exact HB.out | apply below_alloc | apply pw_below_drewN | apply below_drew1 | refine below_set ?_ GE212.out | refine below_set ?_ GE213.out | refine below_set ?_ GE214.out) | exact HB.out)⟩
 ·rw [if_neg c5] at H
  have c5b0 : (t215 == 0) = false := beq_eq_false_iff_ne.mpr c5
  have c5b1 : (t215 != 0) = true := bne_iff_ne.mpr c5
  replace H := Option.bind_eq_some_iff.mp H
  obtain ⟨t216, A160, H⟩ := H
  replace H : (some t216) = some r := H
  have A16 := Aside0.mk A160
  clear A160
  obtain rfl := Option.some.inj H
  go_enter Try.func25, Try.ntmps25
  go_wp2_with (first | ((with_reducible refine gate_dst (N := 3) rfl ?_); refine box_event ?hg (N := 3) ?hd (cs := #[.int .i64 a0_0, .int .i64 a0_1]) (t := 36) ?hr ?_; (case hd => rfl); (case hg => rfl); (case hr => first | (go_simp; done) | (go_simp; rfl)); intro gb212 hg w17 hbox hb; have BK212 := Aside0.mk (hbox); have GW212 := Aside0.mk ((by rw [hg]; exact (below_size zB) : w.heap.size ≤ gb212)); have GE212 := Aside0.mk ((by rw [hg]; exact (below_size zB) : w.heap.size ≤ gb212)); replace HB := Aside0.mk (below_step zB hb); clear hb hbox hg) | ((with_reducible refine gate_dst (N := 4) rfl ?_); refine box_event ?hg (N := 4) ?hd (cs := #[.int .i64 a1_0, .int .i64 a1_1]) (t := 36) ?hr ?_; (case hd => rfl); (case hg => rfl); (case hr => first | (go_simp; done) | (go_simp; rfl)); intro gb213 hg w18 hbox hb; have n0_ := Aside0.mk (blk_below (g := gb212) (o := .cells #[.int .i64 a0_0, .int .i64 a0_1] 36 (0, 0)) (zK BK212.out) hb); have n1_ := Aside0.mk (below_step (zG GE212.out) hb); have n2_ := Aside0.mk (hbox); have n3_ := Aside0.mk ((by rw [hg]; exact (below_size (zG GE212.out)) : w.heap.size ≤ gb213)); have n4_ := Aside0.mk ((by rw [hg]; exact (below_size (zG GE212.out)) : w.heap.size ≤ gb213)); have n5_ := Aside0.mk ((by rw [hg]; exact Nat.ne_of_lt (blk_lt (g := gb212) (o := .cells #[.int .i64 a0_0, .int .i64 a0_1] 36 (0, 0)) (zK BK212.out)) : gb212 ≠ gb213)); have n6_ := Aside0.mk ((by rw [hg]; exact Nat.ne_of_gt (blk_lt (g := gb212) (o := .cells #[.int .i64 a0_0, .int .i64 a0_1] 36 (0, 0)) (zK BK212.out)) : gb213 ≠ gb212)); clear BK212; clear HB; have BK212 := n0_; have HB := n1_; have BK213 := n2_; have GW213 := n3_; have GE213 := n4_; have NB212_213 := n5_; have NB213_212 := n6_; clear n0_ n1_ n2_ n3_ n4_ n5_ n6_; clear hb hbox hg) | ((with_reducible refine gate_dst (N := 5) rfl ?_); refine box_event ?hg (N := 5) ?hd (cs := #[.int .i64 a2_0, .int .i64 a2_1]) (t := 36) ?hr ?_; (case hd => rfl); (case hg => rfl); (case hr => first | (go_simp; done) | (go_simp; rfl)); intro gb214 hg w19 hbox hb; have n0_ := Aside0.mk (blk_below (g := gb212) (o := .cells #[.int .i64 a0_0, .int .i64 a0_1] 36 (0, 0)) (zK BK212.out) hb); have n1_ := Aside0.mk (blk_below (g := gb213) (o := .cells #[.int .i64 a1_0, .int .i64 a1_1] 36 (0, 0)) (zK BK213.out) hb); have n2_ := Aside0.mk (below_step (by repeat (first | (with_reducible first | exact HB.out | apply below_alloc | apply pw_below_drewN | apply below_drew1 | refine below_set ?_ GE212.out | refine below_set ?_ GE213.out) | exact HB.out)) hb); have n3_ := Aside0.mk (hbox); have n4_ := Aside0.mk ((by rw [hg]; exact (below_size (by repeat (first | (with_reducible first | exact HB.out | apply below_alloc | apply pw_below_drewN | apply below_drew1 | refine below_set ?_ GE212.out | refine below_set ?_ GE213.out) | exact HB.out))) : w.heap.size ≤ gb214)); have n5_ := Aside0.mk ((by rw [hg]; exact (below_size (by repeat (first | (with_reducible first | exact HB.out | apply below_alloc | apply pw_below_drewN | apply below_drew1 | refine below_set ?_ GE212.out | refine below_set ?_ GE213.out) | exact HB.out))) : w.heap.size ≤ gb214)); have n6_ := Aside0.mk ((by rw [hg]; exact Nat.ne_of_lt (blk_lt (g := gb212) (o := .cells #[.int .i64 a0_0, .int .i64 a0_1] 36 (0, 0)) (zK BK212.out)) : gb212 ≠ gb214)); have n7_ := Aside0.mk ((by rw [hg]; exact Nat.ne_of_gt (blk_lt (g := gb212) (o := .cells #[.int .i64 a0_0, .int .i64 a0_1] 36 (0, 0)) (zK BK212.out)) : gb214 ≠ gb212)); have n8_ := Aside0.mk ((by rw [hg]; exact Nat.ne_of_lt (blk_lt (g := gb213) (o := .cells #[.int .i64 a1_0, .int .i64 a1_1] 36 (0, 0)) (zK BK213.out)) : gb213 ≠ gb214)); have n9_ := Aside0.mk ((by rw [hg]; exact Nat.ne_of_gt (blk_lt (g := gb213) (o := .cells #[.int .i64 a1_0, .int .i64 a1_1] 36 (0, 0)) (zK BK213.out)) : gb214 ≠ gb213)); clear BK212; clear BK213; clear HB; have BK212 := n0_; have BK213 := n1_; have HB := n2_; have BK214 := n3_; have GW214 := n4_; have GE214 := n5_; have NB212_214 := n6_; have NB214_212 := n7_; have NB213_214 := n8_; have NB214_213 := n9_; clear n0_ n1_ n2_ n3_ n4_ n5_ n6_ n7_ n8_ n9_; clear hb hbox hg; have hnb20 := NB212_213.out; have hnc20 := NB213_212.out; have hnb21 := NB212_214.out; have hnc21 := NB214_212.out; have hcz22_0 : w19.cell? ⟨gb212, 0, none⟩ = some (.int .i64 a0_0) := (blk_cell BK212.out 0).trans rfl; have hcz22_1 : w19.cell? ⟨gb212, 1, none⟩ = some (.int .i64 a0_1) := (blk_cell BK212.out 1).trans rfl; have hfz22_0 := blk_frozen BK212.out 0; have hfz22_1 := blk_frozen BK212.out 1; have hnb23 := NB213_214.out; have hnc23 := NB214_213.out; have hcz24_0 : w19.cell? ⟨gb213, 0, none⟩ = some (.int .i64 a1_0) := (blk_cell BK213.out 0).trans rfl; have hcz24_1 : w19.cell? ⟨gb213, 1, none⟩ = some (.int .i64 a1_1) := (blk_cell BK213.out 1).trans rfl; have hfz24_0 := blk_frozen BK213.out 0; have hfz24_1 := blk_frozen BK213.out 1; have hcz25_0 : w19.cell? ⟨gb214, 0, none⟩ = some (.int .i64 a2_0) := (blk_cell BK214.out 0).trans rfl; have hcz25_1 : w19.cell? ⟨gb214, 1, none⟩ = some (.int .i64 a2_1) := (blk_cell BK214.out 1).trans rfl; have hfz25_0 := blk_frozen BK214.out 0; have hfz25_1 := blk_frozen BK214.out 1) | ((with_reducible refine gate_callee (f := 27) rfl ?_); refine goesL_ (some 10) rfl rfl Try.func27 (by kernel_rfl) rfl #[.agg #[.int .i64 a0_0, .int .i64 a0_1], .agg #[.int .i64 a1_0, .int .i64 a1_1], .agg #[.int .i64 a2_0, .int .i64 a2_1]] rfl zM ?_; (with_reducible refine (impl_TurnOf.calls a0_0 a0_1 a1_0 a1_1 a2_0 a2_1 t215 _ A4.out).mono ?_); rintro e w26 ⟨rfl, hb⟩; refine ⟨_, rfl, ?_⟩; replace BK212 := Aside0.mk (blk_below (g := gb212) (o := .cells #[.int .i64 a0_0, .int .i64 a0_1] 36 (0, 0)) (zK BK212.out) hb); replace BK213 := Aside0.mk (blk_below (g := gb213) (o := .cells #[.int .i64 a1_0, .int .i64 a1_1] 36 (0, 0)) (zK BK213.out) hb); replace BK214 := Aside0.mk (blk_below (g := gb214) (o := .cells #[.int .i64 a2_0, .int .i64 a2_1] 36 (0, 0)) (zK BK214.out) hb); replace HB := Aside0.mk (below_step (by repeat (first | (with_reducible first | exact HB.out | apply below_alloc | apply pw_below_drewN | apply below_drew1 | refine below_set ?_ GE212.out | refine below_set ?_ GE213.out | refine below_set ?_ GE214.out) | exact HB.out)) hb); (try clear hb); have hcz27_0 : w26.cell? ⟨gb212, 0, none⟩ = some (.int .i64 a0_0) := (blk_cell BK212.out 0).trans rfl; have hcz27_1 : w26.cell? ⟨gb212, 1, none⟩ = some (.int .i64 a0_1) := (blk_cell BK212.out 1).trans rfl; have hfz27_0 := blk_frozen BK212.out 0; have hfz27_1 := blk_frozen BK212.out 1; have hcz28_0 : w26.cell? ⟨gb213, 0, none⟩ = some (.int .i64 a1_0) := (blk_cell BK213.out 0).trans rfl; have hcz28_1 : w26.cell? ⟨gb213, 1, none⟩ = some (.int .i64 a1_1) := (blk_cell BK213.out 1).trans rfl; have hfz28_0 := blk_frozen BK213.out 0; have hfz28_1 := blk_frozen BK213.out 1; have hcz29_0 : w26.cell? ⟨gb214, 0, none⟩ = some (.int .i64 a2_0) := (blk_cell BK214.out 0).trans rfl; have hcz29_1 : w26.cell? ⟨gb214, 1, none⟩ = some (.int .i64 a2_1) := (blk_cell BK214.out 1).trans rfl; have hfz29_0 := blk_frozen BK214.out 0; have hfz29_1 := blk_frozen BK214.out 1) | ((with_reducible refine gate_callee (f := 50) rfl ?_); refine goesL_ (some 15) rfl rfl Try.func50 (by kernel_rfl) rfl #[.agg #[.int .i64 a0_0, .int .i64 a0_1], .agg #[.int .i64 a1_0, .int .i64 a1_1], .agg #[.int .i64 a2_0, .int .i64 a2_1]] rfl zM ?_; (with_reducible refine (impl_area.calls a0_0 a0_1 a1_0 a1_1 a2_0 a2_1 t216 _ A16.out).mono ?_); rintro e w30 ⟨rfl, hb⟩; refine ⟨_, rfl, ?_⟩; replace BK212 := Aside0.mk (blk_below (g := gb212) (o := .cells #[.int .i64 a0_0, .int .i64 a0_1] 36 (0, 0)) (zK BK212.out) hb); replace BK213 := Aside0.mk (blk_below (g := gb213) (o := .cells #[.int .i64 a1_0, .int .i64 a1_1] 36 (0, 0)) (zK BK213.out) hb); replace BK214 := Aside0.mk (blk_below (g := gb214) (o := .cells #[.int .i64 a2_0, .int .i64 a2_1] 36 (0, 0)) (zK BK214.out) hb); replace HB := Aside0.mk (below_step (by repeat (first | (with_reducible first | exact HB.out | apply below_alloc | apply pw_below_drewN | apply below_drew1 | refine below_set ?_ GE212.out | refine below_set ?_ GE213.out | refine below_set ?_ GE214.out) | exact HB.out)) hb); (try clear hb)))
  go_ret
  exact ⟨zE, by repeat (first | (with_reducible first | exact HB.out | apply below_alloc | apply pw_below_drewN | apply below_drew1 | refine below_set ?_ GE212.out | refine below_set ?_ GE213.out | refine below_set ?_ GE214.out) | exact HB.out)⟩
/-! ### spec_l1Bit: function 70 -/
def spec_l1Bit.f (a0 : Bool) : Option (Int) := if a0 = true then (some 1) else (some 0)
set_option maxHeartbeats 8000000 in
set_option maxRecDepth 100000 in
theorem spec_l1Bit.calls (a0 : Bool) (r : Int) (w : World) (h : spec_l1Bit.f a0 = some r) :
  Calls Try.prog 70 #[.bool a0] w fun e w' => e = .returned (.int .i64 r) ∧ Drawn0 w w' := by
 have H : (if a0 = true then (some 1) else (some 0)) = some r := h
 clear h
 by_cases c2 : a0 = true
 ·subst c2
  have H1 : (some 1) = some r := by rw [if_pos rfl] at H; exact H
  clear H
  have H := H1
  clear H1
  obtain rfl := Option.some.inj H
  go_enter Try.func70, Try.ntmps70
  go_wp2
  go_ret
  exact ⟨by first | rfl | (simp; done) | (simp [*]; done), by repeat (first | exact Drawn0.refl _ | apply Drawn0.step)⟩
 ·replace c2 := Bool.eq_false_iff.mpr c2
  subst c2
  have H1 : (some 0) = some r := by rw [if_neg (show ¬ (false = true) by decide)] at H; exact H
  clear H
  have H := H1
  clear H1
  obtain rfl := Option.some.inj H
  go_enter Try.func70, Try.ntmps70
  go_wp2
  go_ret
  exact ⟨by first | rfl | (simp; done) | (simp [*]; done), by repeat (first | exact Drawn0.refl _ | apply Drawn0.step)⟩
/-! ### spec_l2Sign: function 51 -/
def spec_l2Sign.f (a0 : Int) : Option (Int) := (spec_l1Bit.f (decide (a0 > 0))).bind fun t234 => ((spec_l1Bit.f (decide (a0 < 0))).bind fun t235 => (some (wrap64 (t234 - t235))))
set_option maxHeartbeats 8000000 in
set_option maxRecDepth 100000 in
theorem spec_l2Sign.calls (a0 : Int) (r : Int) (w : World) (h : spec_l2Sign.f a0 = some r) :
  Calls Try.prog 51 #[.int .i64 a0] w fun e w' => e = .returned (.int .i64 r) ∧ Drawn0 w w' := by
 have H : ((spec_l1Bit.f (decide (a0 > 0))).bind fun t234 => ((spec_l1Bit.f (decide (a0 < 0))).bind fun t235 => (some (wrap64 (t234 - t235))))) = some r := h
 clear h
 replace H := Option.bind_eq_some_iff.mp H
 obtain ⟨t234, A20, H⟩ := H
 replace H : ((spec_l1Bit.f (decide (a0 < 0))).bind fun t235 => (some (wrap64 (t234 - t235)))) = some r := H
 have A2 := Aside0.mk A20
 clear A20
 replace H := Option.bind_eq_some_iff.mp H
 obtain ⟨t235, A30, H⟩ := H
 replace H : (some (wrap64 (t234 - t235))) = some r := H
 have A3 := Aside0.mk A30
 clear A30
 obtain rfl := Option.some.inj H
 go_enter Try.func51, Try.ntmps51
 go_wp2_with (first | ((with_reducible refine gate_callee (f := 70) rfl ?_); refine goesL_ (some 5) rfl rfl Try.func70 (by kernel_rfl) rfl #[.bool (decide (a0 > 0))] rfl zM ?_; (with_reducible refine (spec_l1Bit.calls (decide (a0 > 0)) t234 _ A2.out).mono ?_); rintro e w' ⟨rfl, ⟨nd, rfl⟩⟩; refine ⟨_, rfl, ?_⟩) | ((with_reducible refine gate_callee (f := 70) rfl ?_); refine goesL_ (some 8) rfl rfl Try.func70 (by kernel_rfl) rfl #[.bool (decide (a0 < 0))] rfl zM ?_; (with_reducible refine (spec_l1Bit.calls (decide (a0 < 0)) t235 _ A3.out).mono ?_); rintro e w' ⟨rfl, ⟨nd, rfl⟩⟩; refine ⟨_, rfl, ?_⟩))
 go_ret
 exact ⟨by first | rfl | (simp; done) | (simp [*]; done), by repeat (first | exact Drawn0.refl _ | apply Drawn0.step)⟩
/-! ### spec_TurnOf: function 26 -/
def spec_TurnOf.f (a0_0 : Int) (a0_1 : Int) (a1_0 : Int) (a1_1 : Int) (a2_0 : Int) (a2_1 : Int) : Option (Int) := (spec_AreaOf.f a0_0 a0_1 a1_0 a1_1 a2_0 a2_1).bind fun t239 => ((spec_l2Sign.f t239).bind fun t240 => (some t240))
set_option maxHeartbeats 8000000 in
set_option maxRecDepth 100000 in
theorem spec_TurnOf.calls (a0_0 : Int) (a0_1 : Int) (a1_0 : Int) (a1_1 : Int) (a2_0 : Int) (a2_1 : Int) (r : Int) (w : World) (h : spec_TurnOf.f a0_0 a0_1 a1_0 a1_1 a2_0 a2_1 = some r) :
  Calls Try.prog 26 #[.agg #[.int .i64 a0_0, .int .i64 a0_1], .agg #[.int .i64 a1_0, .int .i64 a1_1], .agg #[.int .i64 a2_0, .int .i64 a2_1]] w fun e w' => e = .returned (.int .i64 r) ∧ Below w.heap.size w w' := by
 have hu36 := Try.underlying36
 have HB := Aside0.mk (Below.refl w.heap.size w)
 have H : ((spec_AreaOf.f a0_0 a0_1 a1_0 a1_1 a2_0 a2_1).bind fun t239 => ((spec_l2Sign.f t239).bind fun t240 => (some t240))) = some r := h
 clear h
 replace H := Option.bind_eq_some_iff.mp H
 obtain ⟨t239, A40, H⟩ := H
 replace H : ((spec_l2Sign.f t239).bind fun t240 => (some t240)) = some r := H
 have A4 := Aside0.mk A40
 clear A40
 replace H := Option.bind_eq_some_iff.mp H
 obtain ⟨t240, A50, H⟩ := H
 replace H : (some t240) = some r := H
 have A5 := Aside0.mk A50
 clear A50
 obtain rfl := Option.some.inj H
 go_enter Try.func26, Try.ntmps26
 go_wp2_with (first | ((with_reducible refine gate_dst (N := 3) rfl ?_); refine box_event ?hg (N := 3) ?hd (cs := #[.int .i64 a0_0, .int .i64 a0_1]) (t := 36) ?hr ?_; (case hd => rfl); (case hg => rfl); (case hr => first | (go_simp; done) | (go_simp; rfl)); intro gb236 hg w6 hbox hb; have BK236 := Aside0.mk (hbox); have GW236 := Aside0.mk ((by rw [hg]; exact (below_size zB) : w.heap.size ≤ gb236)); have GE236 := Aside0.mk ((by rw [hg]; exact (below_size zB) : w.heap.size ≤ gb236)); replace HB := Aside0.mk (below_step zB hb); clear hb hbox hg) | ((with_reducible refine gate_dst (N := 4) rfl ?_); refine box_event ?hg (N := 4) ?hd (cs := #[.int .i64 a1_0, .int .i64 a1_1]) (t := 36) ?hr ?_; (case hd => rfl); (case hg => rfl); (case hr => first | (go_simp; done) | (go_simp; rfl)); intro gb237 hg w7 hbox hb; have n0_ := Aside0.mk (blk_below (g := gb236) (o := .cells #[.int .i64 a0_0, .int .i64 a0_1] 36 (0, 0)) (zK BK236.out) hb); have n1_ := Aside0.mk (below_step (zG GE236.out) hb); have n2_ := Aside0.mk (hbox); have n3_ := Aside0.mk ((by rw [hg]; exact (below_size (zG GE236.out)) : w.heap.size ≤ gb237)); have n4_ := Aside0.mk ((by rw [hg]; exact (below_size (zG GE236.out)) : w.heap.size ≤ gb237)); have n5_ := Aside0.mk ((by rw [hg]; exact Nat.ne_of_lt (blk_lt (g := gb236) (o := .cells #[.int .i64 a0_0, .int .i64 a0_1] 36 (0, 0)) (zK BK236.out)) : gb236 ≠ gb237)); have n6_ := Aside0.mk ((by rw [hg]; exact Nat.ne_of_gt (blk_lt (g := gb236) (o := .cells #[.int .i64 a0_0, .int .i64 a0_1] 36 (0, 0)) (zK BK236.out)) : gb237 ≠ gb236)); clear BK236; clear HB; have BK236 := n0_; have HB := n1_; have BK237 := n2_; have GW237 := n3_; have GE237 := n4_; have NB236_237 := n5_; have NB237_236 := n6_; clear n0_ n1_ n2_ n3_ n4_ n5_ n6_; clear hb hbox hg) | ((with_reducible refine gate_dst (N := 5) rfl ?_); refine box_event ?hg (N := 5) ?hd (cs := #[.int .i64 a2_0, .int .i64 a2_1]) (t := 36) ?hr ?_; (case hd => rfl); (case hg => rfl); (case hr => first | (go_simp; done) | (go_simp; rfl)); intro gb238 hg w8 hbox hb; have n0_ := Aside0.mk (blk_below (g := gb236) (o := .cells #[.int .i64 a0_0, .int .i64 a0_1] 36 (0, 0)) (zK BK236.out) hb); have n1_ := Aside0.mk (blk_below (g := gb237) (o := .cells #[.int .i64 a1_0, .int .i64 a1_1] 36 (0, 0)) (zK BK237.out) hb); have n2_ := Aside0.mk (below_step (by repeat (first | (with_reducible first | exact HB.out | apply below_alloc | apply pw_below_drewN | apply below_drew1 | refine below_set ?_ GE236.out | refine below_set ?_ GE237.out) | exact HB.out)) hb); have n3_ := Aside0.mk (hbox); have n4_ := Aside0.mk ((by rw [hg]; exact (below_size (by repeat (first | (with_reducible first | exact HB.out | apply below_alloc | apply pw_below_drewN | apply below_drew1 | refine below_set ?_ GE236.out | refine below_set ?_ GE237.out) | exact HB.out))) : w.heap.size ≤ gb238)); have n5_ := Aside0.mk ((by rw [hg]; exact (below_size (by repeat (first | (with_reducible first | exact HB.out | apply below_alloc | apply pw_below_drewN | apply below_drew1 | refine below_set ?_ GE236.out | refine below_set ?_ GE237.out) | exact HB.out))) : w.heap.size ≤ gb238)); have n6_ := Aside0.mk ((by rw [hg]; exact Nat.ne_of_lt (blk_lt (g := gb236) (o := .cells #[.int .i64 a0_0, .int .i64 a0_1] 36 (0, 0)) (zK BK236.out)) : gb236 ≠ gb238)); have n7_ := Aside0.mk ((by rw [hg]; exact Nat.ne_of_gt (blk_lt (g := gb236) (o := .cells #[.int .i64 a0_0, .int .i64 a0_1] 36 (0, 0)) (zK BK236.out)) : gb238 ≠ gb236)); have n8_ := Aside0.mk ((by rw [hg]; exact Nat.ne_of_lt (blk_lt (g := gb237) (o := .cells #[.int .i64 a1_0, .int .i64 a1_1] 36 (0, 0)) (zK BK237.out)) : gb237 ≠ gb238)); have n9_ := Aside0.mk ((by rw [hg]; exact Nat.ne_of_gt (blk_lt (g := gb237) (o := .cells #[.int .i64 a1_0, .int .i64 a1_1] 36 (0, 0)) (zK BK237.out)) : gb238 ≠ gb237)); clear BK236; clear BK237; clear HB; have BK236 := n0_; have BK237 := n1_; have HB := n2_; have BK238 := n3_; have GW238 := n4_; have GE238 := n5_; have NB236_238 := n6_; have NB238_236 := n7_; have NB237_238 := n8_; have NB238_237 := n9_; clear n0_ n1_ n2_ n3_ n4_ n5_ n6_ n7_ n8_ n9_; clear hb hbox hg; have hnb9 := NB236_237.out; have hnc9 := NB237_236.out; have hnb10 := NB236_238.out; have hnc10 := NB238_236.out; have hcz11_0 : w8.cell? ⟨gb236, 0, none⟩ = some (.int .i64 a0_0) := (blk_cell BK236.out 0).trans rfl; have hcz11_1 : w8.cell? ⟨gb236, 1, none⟩ = some (.int .i64 a0_1) := (blk_cell BK236.out 1).trans rfl; have hfz11_0 := blk_frozen BK236.out 0; have hfz11_1 := blk_frozen BK236.out 1; have hnb12 := NB237_238.out; have hnc12 := NB238_237.out; have hcz13_0 : w8.cell? ⟨gb237, 0, none⟩ = some (.int .i64 a1_0) := (blk_cell BK237.out 0).trans rfl; have hcz13_1 : w8.cell? ⟨gb237, 1, none⟩ = some (.int .i64 a1_1) := (blk_cell BK237.out 1).trans rfl; have hfz13_0 := blk_frozen BK237.out 0; have hfz13_1 := blk_frozen BK237.out 1; have hcz14_0 : w8.cell? ⟨gb238, 0, none⟩ = some (.int .i64 a2_0) := (blk_cell BK238.out 0).trans rfl; have hcz14_1 : w8.cell? ⟨gb238, 1, none⟩ = some (.int .i64 a2_1) := (blk_cell BK238.out 1).trans rfl; have hfz14_0 := blk_frozen BK238.out 0; have hfz14_1 := blk_frozen BK238.out 1) | ((with_reducible refine gate_callee (f := 23) rfl ?_); refine goesL_ (some 10) rfl rfl Try.func23 (by kernel_rfl) rfl #[.agg #[.int .i64 a0_0, .int .i64 a0_1], .agg #[.int .i64 a1_0, .int .i64 a1_1], .agg #[.int .i64 a2_0, .int .i64 a2_1]] rfl zM ?_; (with_reducible refine (spec_AreaOf.calls a0_0 a0_1 a1_0 a1_1 a2_0 a2_1 t239 _ A4.out).mono ?_); rintro e w15 ⟨rfl, hb⟩; refine ⟨_, rfl, ?_⟩; replace BK236 := Aside0.mk (blk_below (g := gb236) (o := .cells #[.int .i64 a0_0, .int .i64 a0_1] 36 (0, 0)) (zK BK236.out) hb); replace BK237 := Aside0.mk (blk_below (g := gb237) (o := .cells #[.int .i64 a1_0, .int .i64 a1_1] 36 (0, 0)) (zK BK237.out) hb); replace BK238 := Aside0.mk (blk_below (g := gb238) (o := .cells #[.int .i64 a2_0, .int .i64 a2_1] 36 (0, 0)) (zK BK238.out) hb); replace HB := Aside0.mk (below_step (by repeat (first | (with_reducible first | exact HB.out | apply below_alloc | apply pw_below_drewN | apply below_drew1 | refine below_set ?_ GE236.out | refine below_set ?_ GE237.out | refine below_set ?_ GE238.out) | exact HB.out)) hb); (try clear hb)) | ((with_reducible refine gate_callee (f := 51) rfl ?_); refine goesL_ (some 11) rfl rfl Try.func51 (by kernel_rfl) rfl #[.int .i64 t239] rfl zM ?_; (with_reducible refine (spec_l2Sign.calls t239 t240 _ A5.out).mono ?_); rintro e w' ⟨rfl, ⟨nd, rfl⟩⟩; refine ⟨_, rfl, ?_⟩))
 go_ret
 exact ⟨zE, by repeat (first | (with_reducible first | exact HB.out | apply below_alloc | apply pw_below_drewN | apply below_drew1 | refine below_set ?_ GE236.out | refine below_set ?_ GE237.out | refine below_set ?_ GE238.out) | exact HB.out)⟩
end Go.Proofs.Ytikomhkkodhliaa.PX
namespace Go.Proofs.Ytikomhkkodhliaa.M
open Go.RowKit Go.Proofs.YtikomhkkodhliaaW.PrintWords Go.Proofs.Ytikomhkkodhliaa.PX Go.Proofs.Ytikomhkkodhliaa.G
/-- Are both coordinates between -most and most? -/
def nearP (most : Int) (p : IP) : Bool := (decide (-most ≤ p.f0) && decide (p.f0 ≤ most)) && (decide (-most ≤ p.f1) && decide (p.f1 ≤ most))
/-- Twice an area with its sign. -/
def areaP (a b c : IP) : Int := (b.f0 - a.f0) * (c.f1 - a.f1) - (b.f1 - a.f1) * (c.f0 - a.f0)
def sgnI (x : Int) : Int := if x < 0 then -1 else if x > 0 then 1 else 0
theorem nearP_iff {most : Int} {p : IP} : nearP most p = true ↔ (-most ≤ p.f0 ∧ p.f0 ≤ most) ∧ (-most ≤ p.f1 ∧ p.f1 ≤ most) := by
  unfold nearP
  simp only [Bool.and_eq_true, decide_eq_true_eq]
theorem nearIdx_any (most : Int) (l : List IP) : ∀ (d i : Nat), i + d = l.length → decide (0 ≤ nearIdx most l d (i : Int)) = (l.drop i).any fun p => farQ p.f0 most || farQ p.f1 most := by
  intro d
  induction d with
  | zero =>
    intro i hi
    rw [List.drop_of_length_le (by omega)]
    rfl
  | succ d ih =>
    intro i hi
    rw [nearIdx, List.drop_eq_getElem_cons (by omega), List.any_cons, rdIP (by omega)]
    cases g : (farQ (l[i]'(by omega)).f0 most || farQ (l[i]'(by omega)).f1 most) with
    | true =>
      rw [if_pos rfl, Bool.true_or]
      exact decide_eq_true (by omega)
    | false =>
      rw [if_neg (by decide), Bool.false_or]
      exact ih (i + 1) (by omega)
theorem impl_near (most : Int) (h0 : 0 ≤ most) (h1 : most ≤ 1000000) (l : List IP) : impl_areNear.f most l = some (l.all (nearP most)) := by
  unfold impl_areNear.f
  have h := nearIdx_any most l l.length 0 (by omega)
  rw [List.drop_zero] at h
  have h' : decide (0 ≤ nearIdx most l l.length 0) = l.any fun p => farQ p.f0 most || farQ p.f1 most := h
  rw [h', List.not_any_eq_all_not]
  congr 2
  funext p
  unfold farQ nearP
  rw [wrap_id (by omega) (by omega), Bool.eq_iff_iff]
  simp
theorem spec_fits (p : IP) (most : Int) (h0 : 0 ≤ most) (h1 : most ≤ 1000000) : spec_l2Fits.f p.f0 p.f1 most = some (nearP most p) := by
  have one : ∀ x : Int, spec_l1In.f x (-most) most = some (decide (-most ≤ x) && decide (x ≤ most)) := by
    intro x
    unfold spec_l1In.f
    by_cases h : x ≥ -most
    · rw [if_pos h, decide_eq_true (show -most ≤ x from h), Bool.true_and]
    · rw [if_neg h, decide_eq_false (show ¬ -most ≤ x from h), Bool.false_and]
  unfold spec_l2Fits.f nearP
  rw [wrap_id (by omega) (by omega), one, one]
  cases decide (-most ≤ p.f0) && decide (p.f0 ≤ most) <;> rfl
theorem mul_bd {x y : Int} (h1 : -2000 ≤ x) (h2 : x ≤ 2000) (h3 : -2000 ≤ y) (h4 : y ≤ 2000) : -4000000 ≤ x * y ∧ x * y ≤ 4000000 := by
  have h := Int.natAbs_mul x y
  have h' : x.natAbs * y.natAbs ≤ 2000 * 2000 := Nat.mul_le_mul (by omega) (by omega)
  omega
theorem area_ok {a b c : IP} (ha : nearP 1000 a = true) (hb : nearP 1000 b = true) (hc : nearP 1000 c = true) :
    wrap64 ((wrap64 ((wrap64 (b.f0 - a.f0)) * (wrap64 (c.f1 - a.f1)))) - (wrap64 ((wrap64 (b.f1 - a.f1)) * (wrap64 (c.f0 - a.f0))))) = areaP a b c ∧ -8000000 ≤ areaP a b c ∧ areaP a b c ≤ 8000000 := by
  obtain ⟨⟨a1, a2⟩, a3, a4⟩ := nearP_iff.1 ha
  obtain ⟨⟨b1, b2⟩, b3, b4⟩ := nearP_iff.1 hb
  obtain ⟨⟨c1, c2⟩, c3, c4⟩ := nearP_iff.1 hc
  have m1 := mul_bd (x := b.f0 - a.f0) (y := c.f1 - a.f1) (by omega) (by omega) (by omega) (by omega)
  have m2 := mul_bd (x := b.f1 - a.f1) (y := c.f0 - a.f0) (by omega) (by omega) (by omega) (by omega)
  rw [wrap_id (x := b.f0 - a.f0) (by omega) (by omega), wrap_id (x := c.f1 - a.f1) (by omega) (by omega), wrap_id (x := b.f1 - a.f1) (by omega) (by omega), wrap_id (x := c.f0 - a.f0) (by omega) (by omega)]
  rw [wrap_id (x := (b.f0 - a.f0) * (c.f1 - a.f1)) (by omega) (by omega), wrap_id (x := (b.f1 - a.f1) * (c.f0 - a.f0)) (by omega) (by omega)]
  unfold areaP
  exact ⟨wrap_id (by omega) (by omega), by omega, by omega⟩
def near3 (a b c : IP) : Bool := nearP 1000 a && (nearP 1000 b && nearP 1000 c)
theorem near3_iff {a b c : IP} : near3 a b c = true ↔ nearP 1000 a = true ∧ nearP 1000 b = true ∧ nearP 1000 c = true := by
  unfold near3
  simp only [Bool.and_eq_true]
theorem spec_area {a b c : IP} (h : near3 a b c = true) : spec_l2Area.f a.f0 a.f1 b.f0 b.f1 c.f0 c.f1 = some (areaP a b c) := by
  obtain ⟨ha, hb, hc⟩ := near3_iff.1 h
  unfold spec_l2Area.f
  rw [(area_ok ha hb hc).1]
theorem impl_area {a b c : IP} (h : near3 a b c = true) : impl_area.f a.f0 a.f1 b.f0 b.f1 c.f0 c.f1 = some (areaP a b c) := by
  obtain ⟨ha, hb, hc⟩ := near3_iff.1 h
  unfold impl_area.f
  rw [(area_ok ha hb hc).1]
theorem sign_of (x : Int) : impl_signOf.f x = some (sgnI x) := by
  unfold impl_signOf.f cmp_Compare_int.f cmp_isNaN_int.f sgnI
  by_cases h : x < 0
  · simp [h]
  · by_cases h' : x > 0 <;> simp [h, h']
/-- What TurnOf answers. -/
def turnP (a b c : IP) : Int := if near3 a b c = true then sgnI (areaP a b c) else 0
theorem near_3 (a b c : IP) : impl_areNear.f 1000 [a, b, c] = some (near3 a b c) := by
  rw [impl_near 1000 (by decide) (by decide)]
  simp [near3]
theorem impl_turn (a b c : IP) : impl_TurnOf.f a.f0 a.f1 b.f0 b.f1 c.f0 c.f1 = some (turnP a b c) := by
  unfold impl_TurnOf.f turnP
  have e : ([(⟨a.f0, a.f1⟩ : IP), (⟨b.f0, b.f1⟩ : IP), (⟨c.f0, c.f1⟩ : IP)] : List IP) = [a, b, c] := rfl
  rw [e, near_3]
  by_cases h : near3 a b c = true
  · simp only [Option.bind_some, h, if_true]
    rw [impl_area h]
    simp only [Option.bind_some]
    rw [sign_of]
    rfl
  · simp [h]
/-- What AreaOf answers. -/
def areaV (a b c : IP) : Int := if near3 a b c = true then areaP a b c else 0
theorem spec_areaOf (a b c : IP) : spec_AreaOf.f a.f0 a.f1 b.f0 b.f1 c.f0 c.f1 = some (areaV a b c) := by
  unfold spec_AreaOf.f areaV
  rw [spec_fits a 1000 (by decide) (by decide), spec_fits b 1000 (by decide) (by decide), spec_fits c 1000 (by decide) (by decide)]
  by_cases h : near3 a b c = true
  · obtain ⟨ha, hb, hc⟩ := near3_iff.1 h
    simp only [Option.bind_some, ha, hb, hc, h, if_true]
    rw [spec_area h]
    rfl
  · rw [if_neg h]
    have h' : ¬ (nearP 1000 a = true ∧ nearP 1000 b = true ∧ nearP 1000 c = true) := fun e => h (near3_iff.2 e)
    cases ha : nearP 1000 a <;> cases hb : nearP 1000 b <;> cases hc : nearP 1000 c <;> simp [ha, hb, hc] at h' ⊢
theorem impl_areaOf (a b c : IP) : impl_AreaOf.f a.f0 a.f1 b.f0 b.f1 c.f0 c.f1 = some (areaV a b c) := by
  unfold impl_AreaOf.f areaV
  rw [impl_turn]
  unfold turnP
  by_cases h : near3 a b c = true
  · rw [if_pos h, if_pos h]
    simp only [Option.bind_some]
    rw [impl_area h]
    by_cases e : sgnI (areaP a b c) = 0
    · rw [if_pos e]
      unfold sgnI at e
      congr 1
      split at e
      · cases e
      · split at e
        · cases e
        · omega
    · rw [if_neg e]
      rfl
  · rw [if_neg h, if_neg h]
    simp
theorem spec_turn (a b c : IP) : spec_TurnOf.f a.f0 a.f1 b.f0 b.f1 c.f0 c.f1 = some (turnP a b c) := by
  unfold spec_TurnOf.f turnP
  rw [spec_areaOf]
  have key : ∀ x : Int, spec_l2Sign.f x = some (sgnI x) := by
    intro x
    unfold spec_l2Sign.f spec_l1Bit.f sgnI
    by_cases h : x < 0
    · have : ¬ x > 0 := by omega
      simp [h, this]
      decide +kernel
    · by_cases h' : x > 0 <;> simp [h, h'] <;> decide +kernel
  simp only [Option.bind_some, key]
  unfold areaV
  split
  · rfl
  · simp [sgnI]
end Go.Proofs.Ytikomhkkodhliaa.M
namespace Go.Proofs.Ytikomhkkodhliaa.M
open Go.RowKit Go.Proofs.YtikomhkkodhliaaW.PrintWords Go.Proofs.Ytikomhkkodhliaa.PX Go.Proofs.Ytikomhkkodhliaa.G
def pt (l : List IP) (i : Nat) : IP := rd_T36 l (i : Int)
theorem pt_eq {l : List IP} {i : Nat} (h : i < l.length) : pt l i = l[i] := rdIP h
/-- Are three points on a line? -/
def flatQ (l : List IP) (q : Nat × Nat × Nat) : Bool := decide (areaP (pt l q.1) (pt l q.2.1) (pt l q.2.2) = 0)
/-- What ArePoints answers. -/
def arePts (l : List IP) : Bool := (decide (3 ≤ l.length) && decide (l.length ≤ 7)) && (l.all (nearP 50) && !((tripsL l.length).any (flatQ l)))
theorem near_wide {p : IP} (h : nearP 50 p = true) : nearP 1000 p = true := by
  rw [nearP_iff] at h ⊢
  omega
theorem arePts_iff {l : List IP} : arePts l = true ↔ (3 ≤ l.length ∧ l.length ≤ 7) ∧ (∀ p ∈ l, nearP 50 p = true) ∧ ∀ a b c, a < b → b < c → c < l.length → areaP (pt l a) (pt l b) (pt l c) ≠ 0 := by
  unfold arePts
  simp only [Bool.and_eq_true, decide_eq_true_eq, List.all_eq_true, Bool.not_eq_true', List.any_eq_false, flatQ]
  constructor
  · rintro ⟨h1, h2, h3⟩
    exact ⟨h1, h2, fun a b c hab hbc hc => h3 (a, b, c) (trips_mem hab hbc hc)⟩
  · rintro ⟨h1, h2, h3⟩
    exact ⟨h1, h2, fun ⟨a, b, c⟩ hq => h3 a b c (mem_trips hq).1 (mem_trips hq).2.1 (mem_trips hq).2.2⟩
theorem pts_near3 {l : List IP} (h : l.all (nearP 50) = true) {a b c : Nat} (ha : a < l.length) (hb : b < l.length) (hc : c < l.length) : near3 (pt l a) (pt l b) (pt l c) = true := by
  have key : ∀ {i : Nat}, i < l.length → nearP 1000 (pt l i) = true := fun {i} hi => by
    rw [pt_eq hi]
    exact near_wide (List.all_eq_true.1 h _ (List.getElem_mem hi))
  exact near3_iff.2 ⟨key ha, key hb, key hc⟩
theorem spec_inPts (x lo hi : Int) : spec_l1In.f x lo hi = some (decide (lo ≤ x) && decide (x ≤ hi)) := by
  unfold spec_l1In.f
  by_cases h : x ≥ lo
  · rw [if_pos h, decide_eq_true (show lo ≤ x from h), Bool.true_and]
  · rw [if_neg h, decide_eq_false (show ¬ lo ≤ x from h), Bool.false_and]
/-- What the reference finds. -/
def offPts (l : List IP) (k : Nat) : Bool := !nearP 50 (pt l k) || (List.range' 0 (k - 0)).any fun j => (List.range' 0 (j - 0)).any fun i => flatQ l (i, j, k)
theorem offPts_any (l : List IP) : (!((List.range' 0 (l.length - 0)).any (offPts l))) = (l.all (nearP 50) && !((tripsL l.length).any (flatQ l))) := by
  rw [Bool.eq_iff_iff]
  simp only [Bool.not_eq_true', List.any_eq_false, Bool.and_eq_true, List.all_eq_true, offPts, Bool.or_eq_true, not_or, Bool.not_eq_false, List.any_eq_true, not_exists, not_and, List.mem_range'_1]
  constructor
  · intro h
    refine ⟨fun p hp => ?_, fun ⟨a, b, c⟩ hq => ?_⟩
    · obtain ⟨i, hi, rfl⟩ := List.getElem_of_mem hp
      have := (h i (by omega)).1
      rw [pt_eq hi] at this
      simpa using this
    · obtain ⟨h1, h2, h3⟩ := mem_trips hq
      exact (h c (by omega)).2 b (by omega) a (by omega)
  · rintro ⟨h1, h2⟩ k hk
    refine ⟨?_, fun j hj i hi => h2 (i, j, k) (trips_mem (by omega) (by omega) (by omega))⟩
    rw [pt_eq (show k < l.length by omega)]
    simpa using h1 _ (List.getElem_mem _)
theorem spec_arePts (l : List IP) (hl : l.length ≤ 10000000) : Ev (fun q => spec_ArePoints.f q l) (arePts l) := by
  unfold spec_ArePoints.f
  refine ev_call (spec_inPts _ _ _) ?_
  by_cases hn : 3 ≤ l.length ∧ l.length ≤ 7
  · refine ev_pos (by simp; omega) (ev_cast ?_ (show (!((List.range' 0 (l.length - 0)).any (offPts l))) = arePts l from ?_))
    · have key := loop_up' (σ := Unit) (ρ := Bool) (lo := 0) (n := l.length) (K := fun _ _ => some true) (L := fun x _ q => spec_ArePoints.l0 q l x) (fun k _ => ∀ i, i < k → nearP 50 (pt l i) = true) (fun _ k => if offPts l k then .error false else .ok ()) (fun u _ => ?_) (fun k _ hk u hI => ?_) (fun k _ hk u hI u' e => ?_) (by omega) () (fun i hi => absurd hi (Nat.not_lt_zero _))
      · rw [foldlM_any (offPts l)] at key
        cases hq : (List.range' 0 (l.length - 0)).any (offPts l) with
        | true => rw [hq] at key; exact key
        | false => rw [hq] at key; exact key _ (Ev.now _)
      · refine Goes.step ?_
        simp only [spec_ArePoints.l0]
        exact Goes.neg (by omega) (Goes.ok (K := fun _ _ => some true) u)
      · refine Goes.step ?_
        simp only [spec_ArePoints.l0]
        refine Goes.pos (by omega) (Goes.pos (by omega) (Goes.call (spec_fits (pt l k) 50 (by decide) (by decide)) ?_))
        cases hf : nearP 50 (pt l k) with
        | false => exact Goes.neg (by decide) (Goes.cast (Goes.ret _) (by simp [offPts, hf]))
        | true =>
          refine Goes.pos rfl ?_
          have one := loop_up (σ := Unit) (ρ := Bool) (lo := 0) (n := k) (K := fun _ q => spec_ArePoints.l0 q l ((k + 1 : Nat) : Int)) (L := fun x _ q => spec_ArePoints.l1 q l (k : Int) x) (fun _ j => if (List.range' 0 (j - 0)).any (fun i => flatQ l (i, j, k)) then .error false else .ok ()) (fun u => ?_) (fun j _ hj u => ?_) (by omega) ()
          · rw [foldlM_any (fun j => (List.range' 0 (j - 0)).any fun i => flatQ l (i, j, k))] at one
            refine one.cast ?_
            simp [offPts, hf]
          · refine Goes.step ?_
            simp only [spec_ArePoints.l1]
            rw [wrap_id (by omega) (by omega)]
            exact Goes.neg (by omega) (Goes.ok (K := fun (_ : Unit) q => spec_ArePoints.l0 q l ((k + 1 : Nat) : Int)) u)
          · refine Goes.step ?_
            simp only [spec_ArePoints.l1]
            refine Goes.pos (by omega) ?_
            have two := loop_up (σ := Unit) (ρ := Bool) (lo := 0) (n := j) (K := fun _ q => spec_ArePoints.l1 q l (k : Int) ((j + 1 : Nat) : Int)) (L := fun x _ q => spec_ArePoints.l2 q l (k : Int) (j : Int) x) (fun _ i => if flatQ l (i, j, k) then .error false else .ok ()) (fun u => ?_) (fun i _ hi u => ?_) (by omega) ()
            · rw [foldlM_any (fun i => flatQ l (i, j, k))] at two
              exact two
            · refine Goes.step ?_
              simp only [spec_ArePoints.l2]
              rw [wrap_id (by omega) (by omega)]
              exact Goes.neg (by omega) (Goes.ok (K := fun (_ : Unit) q => spec_ArePoints.l1 q l (k : Int) ((j + 1 : Nat) : Int)) u)
            · refine Goes.step ?_
              simp only [spec_ArePoints.l2]
              rw [wrap_id (x := (i : Int) + 1) (by omega) (by omega)]
              refine Goes.pos (by omega) (Goes.pos (by omega) (Goes.pos (by omega) (Goes.pos (by omega) (Goes.pos (by omega) (Goes.pos (by omega) (Goes.pos (by omega) ?_))))))
              have nn : ∀ x, x ≤ k → nearP 1000 (pt l x) = true := fun x hx => by
                by_cases e : x = k
                · subst e; exact near_wide hf
                · exact near_wide (hI x (by omega))
              refine Goes.call (spec_area (a := pt l i) (b := pt l j) (c := pt l k) (near3_iff.2 ⟨nn i (by omega), nn j (by omega), nn k (by omega)⟩)) ?_
              by_cases g : areaP (pt l i) (pt l j) (pt l k) = 0
              · exact Goes.pos g (Goes.cast (Goes.ret _) (by simp [flatQ, g]))
              · exact Goes.neg g (Goes.cast (Goes.ok (K := fun (_ : Unit) q => spec_ArePoints.l2 q l (k : Int) (j : Int) ((i + 1 : Nat) : Int)) u) (by simp [flatQ, g]))
      · intro i hi
        by_cases ei : i = k
        · subst ei
          cases hf : nearP 50 (pt l i) with
          | true => rfl
          | false => simp [offPts, hf] at e
        · exact hI i (by omega)
    · unfold arePts
      rw [offPts_any]
      simp [hn.1, hn.2]
  · refine ev_neg (by simp; omega) (ev_cast (Ev.now _) ?_)
    unfold arePts
    have : (decide (3 ≤ l.length) && decide (l.length ≤ 7)) = false := by simp; omega
    rw [this]
    rfl
theorem impl_arePts (l : List IP) (hl : l.length ≤ 10000000) : Ev (fun q => impl_ArePoints.f q l) (arePts l) := by
  unfold impl_ArePoints.f
  have no : (decide (3 ≤ l.length) && decide (l.length ≤ 7)) = false → Ev (fun q => impl_ArePoints.j0 q l true) (arePts l) := fun h => by
    refine ev_step ?_
    simp only [impl_ArePoints.j0]
    refine ev_pos (by trivial) (ev_cast (Ev.now _) ?_)
    unfold arePts
    rw [h]
    rfl
  by_cases h3 : (l.length : Int) < 3
  · exact ev_pos h3 (no (by simp; omega))
  refine ev_neg h3 ?_
  by_cases h7 : (l.length : Int) > 7
  · exact ev_pos h7 (no (by simp; omega))
  refine ev_neg h7 (ev_call (impl_near 50 (by decide) (by decide) l) (ev_step ?_))
  simp only [impl_ArePoints.j0]
  have e0 : (decide (3 ≤ l.length) && decide (l.length ≤ 7)) = true := by simp; omega
  unfold arePts
  rw [e0, Bool.true_and]
  cases hn : l.all (nearP 50) with
  | false => exact ev_pos (by trivial) (Ev.now _)
  | true =>
    refine ev_neg (by decide) (Ev.bind (triples_ev (n := l.length) (by omega) (by omega)) ?_)
    rw [Bool.true_and]
    have eT := tripN_L (n := l.length) (by omega) (by omega)
    have lT := trip_len (n := l.length) (by omega) (by omega)
    have el : (tripN l.length).length = (tripsL l.length).length := by rw [eT, List.length_map]
    have key := loop_up (σ := Unit) (ρ := Bool) (lo := 0) (n := (tripN l.length).length) (K := fun _ _ => some true) (L := fun x _ q => impl_ArePoints.l0 q l (tripN l.length) ((tripN l.length).length : Int) x)
      (fun _ i => if flatQ l ((tripsL l.length).getD i (0, 0, 0)) then .error false else .ok ()) (fun u => ?_) (fun i _ hi u => ?_) (by omega) ()
    · rw [el, foldlM_index (0, 0, 0) (fun (_ : Unit) q => if flatQ l q then (.error false : Except Bool Unit) else .ok ()), foldlM_any (flatQ l)] at key
      rw [el]
      cases hq : (tripsL l.length).any (flatQ l) with
      | true => rw [hq] at key; exact key
      | false => rw [hq] at key; exact key _ (Ev.now _)
    · refine Goes.step ?_
      simp only [impl_ArePoints.l0]
      exact Goes.neg (by omega) (Goes.ok (K := fun _ _ => some true) u)
    · obtain ⟨a, b, c, e, hab, hbc, hc, _⟩ := trip_at (n := l.length) (by omega) (by omega) hi
      have eq : (tripsL l.length).getD i (0, 0, 0) = (a, b, c) := by
        have hi' : i < (tripsL l.length).length := by omega
        rw [List.getD_eq_getElem?_getD, List.getElem?_eq_getElem hi']
        simp only [eT, List.getElem_map] at e
        show (tripsL l.length)[i] = _
        generalize (tripsL l.length)[i] = z at e
        obtain ⟨x, y, w⟩ := z
        simp only at e
        injection e with e1 e2 e3
        rw [Int.ofNat_inj.1 e1, Int.ofNat_inj.1 e2, Int.ofNat_inj.1 e3]
      refine Goes.step ?_
      simp only [impl_ArePoints.l0, rd_trip hi, e]
      refine Goes.pos (by omega) (Goes.pos (by omega) (Goes.pos (by omega) (Goes.pos (by omega) (Goes.pos (by omega) (Goes.pos (by omega) (Goes.pos (by omega) (Goes.pos (by omega) (Goes.pos (by omega) (Goes.call (impl_turn (pt l a) (pt l b) (pt l c)) ?_)))))))))
      have n3 := pts_near3 hn (show a < l.length by omega) (show b < l.length by omega) hc
      have et : turnP (pt l a) (pt l b) (pt l c) = sgnI (areaP (pt l a) (pt l b) (pt l c)) := if_pos n3
      rw [et, eq, wrap_id (by omega) (by omega)]
      by_cases g : areaP (pt l a) (pt l b) (pt l c) = 0
      · exact Goes.pos (by rw [g]; rfl) (Goes.cast (Goes.ret _) (by simp [flatQ, g]))
      · refine Goes.neg ?_ (Goes.cast (Goes.ok (K := fun (_ : Unit) q => impl_ArePoints.l0 q l (tripN l.length) ((tripN l.length).length : Int) ((i + 1 : Nat) : Int)) u) (by simp [flatQ, g]))
        unfold sgnI
        split
        · decide
        · rw [if_pos (by omega)]; decide
end Go.Proofs.Ytikomhkkodhliaa.M
