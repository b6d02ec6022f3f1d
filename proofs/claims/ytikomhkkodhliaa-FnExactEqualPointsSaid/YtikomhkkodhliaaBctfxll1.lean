/- A part of proofs about signs and points: what some functions answer, and that their calls answer so. No condition. -/
import Derived.Test.YtikomhkkodhliaaProg
import Derived.Below
import Derived.Deep.Draws
import Derived.Deep.AppendLies
import Derived.Maps.AppendAt
import Derived.OwnWalk
import Derived.Laws.BytesArg
import Derived.Laws.MakeOwn
import Derived.Laws.OwnMore
import Derived.Deep.OwnRows
import Derived.Tactics
import Derived.Lib.ConvBytes
import Derived.Laws.Slices
import Derived.WalkKit
import Derived.KernelRfl
import Derived.RowKit3
import Derived.Deep.LoopGhost
import Derived.Deep.QuietTactic
import Derived.BigQuiet
import Derived.WideLaws
import Derived.Deep.DeepCutAuto
import Derived.Deep.CutBlock
import Derived.Deep.RegionHeld3
import Derived.Laws.Rows
import Derived.Lib.AppendStr
import Derived.ArgAppend
import Derived.Laws.IdiomCopy
import Derived.OrdersHeld
import Derived.Laws.BitsLemmas
import Derived.RowKit
import Derived.Laws.Tables
import Derived.Test.YtikomhkkodhliaaV1
set_option linter.unusedVariables false
set_option linter.unusedSimpArgs false
namespace Go.Proofs.Ytikomhkkodhliaa.G
open Go.RowKit Go.Proofs.YtikomhkkodhliaaW.PrintWords
/-- A row's value as the pointer to its block. -/
@[reducible] def ptrOf : Value → Value
  | .slice A _ _ => .pointer A
  | v => v
/-- The sign of three elements in a table's row. -/
def rd3 (l : List Int) (i j k : Int) : Int := rd l (1 + i * 49 + j * 7 + k)
/-- A new table's cells. -/
def chiArr (n : Int) : Array Value := (nums .i64 (n :: List.replicate 343 (0 : Int))).toArray
set_option maxRecDepth 100000 in
theorem chi_built (n : Int) : Try.prog.built 78 [(0, .int .i64 n)] = some (chiArr n) := by kernel_rfl
section
variable {P : Program} {ops : Array Oper} {rest : List Oper} {o : Oper} {a : Act} {Q : Exit → Act → World → Prop}
theorem chi_build_event {W : World} {T s : Nat} {n : Int} (hgd : o.guard = none) (ho : o.op = .build T #[(0, .tmp s)]) (hx : a.eval (.tmp s) = .int .i64 n)
    (hT : ∀ n : Int, P.built T [(0, .int .i64 n)] = some (chiArr n)) (h : wpList P ops Q rest (a.put o.dst (.agg (chiArr n))) W) : wpList P ops Q (o :: rest) a W := by
  refine wpList_plain hgd fun K hK => ?_
  have e : P.built T (#[((0 : Nat), Operand.tmp s)].map fun (x : Nat × Operand) => (x.1, a.eval x.2)).toList = some (chiArr n) := by
    simp only [List.map_toArray, List.map_cons, List.map_nil, hx]; exact hT n
  refine wp_build T _ ho (by rw [e]; rfl) ?_
  rw [e]
  exact hK _ _ h
theorem chi_own {w : World} {g : Nat} {n : Int} {T base : Nat} (h : w.heap[g]? = some (.cells (chiArr n) T (0, 0))) (hb : base ≤ g) :
    Kd.R (Kd.int .i64) T w base (fun _ => True) (.slice (some ⟨g, 0, none⟩) (n :: List.replicate 343 (0 : Int)).length 344) (n :: List.replicate 343 (0 : Int)) := by
  have hl : (n :: List.replicate 343 (0 : Int)).length = 344 := by rw [List.length_cons, List.length_replicate]
  refine Kd.R_of_own (enc := Value.int .i64) (h1 := fun _ => rfl) ?_ (fun _ _ => trivial)
  generalize hx : (n :: List.replicate 343 (0 : Int)) = xs at hl
  have hc : chiArr n = (nums .i64 xs).toArray := by rw [← hx]; rfl
  rw [hc] at h
  refine ⟨by rw [Nat.mul_one]; exact List.length_map .., .inr ⟨g, 344, (nums .i64 xs).toArray, rfl, hb, h, by omega, by decide, by rw [List.size_toArray, nums_length, hl], ?_⟩⟩
  rw [List.toList_toArray, Nat.mul_one]
  exact List.take_of_length_le (by rw [nums_length]; exact Nat.le_refl _)
theorem chi_box_event {W : World} {n : Int} {T N : Nat} (hgd : o.guard = none) (_hd : o.dst = some N)
    (hrun : (execOp a.eval o).run P W = .ok (.value (.pointer (some ⟨W.heap.size, 0, none⟩))) (W.alloc (.cells (chiArr n) T (0, 0)))) (base : Nat) (hb : base ≤ W.heap.size)
    (h : ∀ v w1, Kd.R (Kd.int .i64) T w1 base (fun _ => True) v (n :: List.replicate 343 (0 : Int)) → Below W.heap.size W w1 → wpList P ops Q rest (a.put o.dst (ptrOf v)) w1) : wpList P ops Q (o :: rest) a W :=
  Kd.event_run hgd hrun (h _ _ (chi_own (blk_new W _) hb) (below_alloc (Below.refl _ _) _))
end
end Go.Proofs.Ytikomhkkodhliaa.G
namespace Go.Proofs.Ytikomhkkodhliaa.PX
open Go.RowKit Go.Proofs.Ytikomhkkodhliaa.G Go.Proofs.YtikomhkkodhliaaW.PrintWords Go.Proofs.YtikomhkkodhliaaW.PrintLast Go.Proofs.YtikomhkkodhliaaW.PrintMore
attribute [local go_sem] max2_int min2_int max_two min_two max_three min_three max_four min_four   -- for this text's walks alone
set_option linter.unusedVariables false
set_option linter.unusedSimpArgs false
def errW : Option Int → Value
 | none => .nilIface
 | some c => .iface 0 (.int .i64 c)
theorem errW_none : errW none = .nilIface := rfl
theorem errW_some (c : Int) : errW (some c) = .iface 0 (.int .i64 c) := rfl
theorem info3 : (Try.prog.info? 3).map (fun i => (i.zero, i.size, i.bytes)) = some (some (.int .i64 0), 1, 8) := by kernel_rfl
theorem info5 : (Try.prog.info? 5).map (fun i => (i.zero, i.size, i.bytes)) = some (some (.int .u8 0), 1, 1) := by kernel_rfl
theorem info9 : (Try.prog.info? 9).map (fun i => (i.zero, i.size, i.bytes)) = some (some (.string ⟨#[]⟩), 1, 16) := by kernel_rfl
theorem info36 : (Try.prog.info? 36).map (fun i => (i.zero, i.size, i.bytes)) = some (some (.agg #[(.int .i64 0), (.int .i64 0)]), 2, 16) := by kernel_rfl
theorem info71 : (Try.prog.info? 71).map (fun i => (i.zero, i.size, i.bytes)) = some (some (.agg #[(.int .i64 0), (.int .i64 0), (.int .i64 0)]), 3, 24) := by kernel_rfl
/-! #### struct type 34 -/
structure S34 where
 f0 : Int
 f1 : Int
def z34 : S34 := ⟨(0 : Int), (0 : Int)⟩
def k34 : Kd S34 := Kd.iso (Kd.pair (Kd.int .i64) (Kd.int .i64)) (fun x : S34 => (x.f0, x.f1))
theorem k34_open {w : World} {x : S34} {cs : List Value} (h : k34.K w x cs) : cs = [.int .i64 x.f0, .int .i64 x.f1] := by
 obtain ⟨_, _, rfl, rfl, rfl⟩ := h
 exact rfl
theorem k34_openM {w : World} {base : Nat} {ok : Nat → Prop} {x : S34} {cs : List Value} (h : k34.M w base ok x cs) : cs = [.int .i64 x.f0, .int .i64 x.f1] := by
 obtain ⟨_, _, rfl, rfl, rfl⟩ := h
 exact rfl
theorem k34_mk (w : World) (x : S34)  : k34.K w x [.int .i64 x.f0, .int .i64 x.f1] := ⟨[.int .i64 x.f0], [.int .i64 x.f1], rfl, rfl, rfl⟩
theorem k34_mkM (w : World) (base : Nat) (ok : Nat → Prop) (x : S34)  : k34.M w base ok x [.int .i64 x.f0, .int .i64 x.f1] := ⟨[.int .i64 x.f0], [.int .i64 x.f1], rfl, rfl, rfl⟩
def rd_T34 (xs : List S34) (i : Int) : S34 := xs.getD i.toNat z34
theorem at_T34 {w : World} {A : Option Addr} {n : Nat} {xs : List S34} (h : Kd.C k34 w A n xs) (i : Int) (h0 : 0 ≤ i) (h1 : i < n) : ∃ ad , A = some ad ∧ w.cell? (ad.add (i.toNat * 2)) = some (.int .i64 (rd_T34 xs i).f0) ∧ w.cell? ⟨(ad.add (i.toNat * 2)).block, (ad.add (i.toNat * 2)).off + 1, none⟩ = some (.int .i64 (rd_T34 xs i).f1) := by
 obtain ⟨ad, c, e, _, hK, hc0⟩ := Kd.C_get h z34 i h0 h1
 have hc : ∀ j u, c[j]? = some u → w.cell? (ad.add (i.toNat * 2 + j)) = some u := hc0
 obtain rfl := k34_open hK
 exact ⟨ad, e, hc 0 _ rfl, by rw [← add_field _ _ 1 (by omega)]; exact hc 1 _ rfl⟩
/-! #### struct type 36 -/
structure S36 where
 f0 : Int
 f1 : Int
def z36 : S36 := ⟨(0 : Int), (0 : Int)⟩
def k36 : Kd S36 := Kd.iso (Kd.pair (Kd.int .i64) (Kd.int .i64)) (fun x : S36 => (x.f0, x.f1))
theorem k36_open {w : World} {x : S36} {cs : List Value} (h : k36.K w x cs) : cs = [.int .i64 x.f0, .int .i64 x.f1] := by
 obtain ⟨_, _, rfl, rfl, rfl⟩ := h
 exact rfl
theorem k36_openM {w : World} {base : Nat} {ok : Nat → Prop} {x : S36} {cs : List Value} (h : k36.M w base ok x cs) : cs = [.int .i64 x.f0, .int .i64 x.f1] := by
 obtain ⟨_, _, rfl, rfl, rfl⟩ := h
 exact rfl
theorem k36_mk (w : World) (x : S36)  : k36.K w x [.int .i64 x.f0, .int .i64 x.f1] := ⟨[.int .i64 x.f0], [.int .i64 x.f1], rfl, rfl, rfl⟩
theorem k36_mkM (w : World) (base : Nat) (ok : Nat → Prop) (x : S36)  : k36.M w base ok x [.int .i64 x.f0, .int .i64 x.f1] := ⟨[.int .i64 x.f0], [.int .i64 x.f1], rfl, rfl, rfl⟩
def rd_T36 (xs : List S36) (i : Int) : S36 := xs.getD i.toNat z36
theorem at_T36 {w : World} {A : Option Addr} {n : Nat} {xs : List S36} (h : Kd.C k36 w A n xs) (i : Int) (h0 : 0 ≤ i) (h1 : i < n) : ∃ ad , A = some ad ∧ w.cell? (ad.add (i.toNat * 2)) = some (.int .i64 (rd_T36 xs i).f0) ∧ w.cell? ⟨(ad.add (i.toNat * 2)).block, (ad.add (i.toNat * 2)).off + 1, none⟩ = some (.int .i64 (rd_T36 xs i).f1) := by
 obtain ⟨ad, c, e, _, hK, hc0⟩ := Kd.C_get h z36 i h0 h1
 have hc : ∀ j u, c[j]? = some u → w.cell? (ad.add (i.toNat * 2 + j)) = some u := hc0
 obtain rfl := k36_open hK
 exact ⟨ad, e, hc 0 _ rfl, by rw [← add_field _ _ 1 (by omega)]; exact hc 1 _ rfl⟩
/-! #### struct type 71 -/
structure S71 where
 f0 : Int
 f1 : Int
 f2 : Int
def z71 : S71 := ⟨(0 : Int), (0 : Int), (0 : Int)⟩
def k71 : Kd S71 := Kd.iso (Kd.pair (Kd.int .i64) (Kd.pair (Kd.int .i64) (Kd.int .i64))) (fun x : S71 => (x.f0, x.f1, x.f2))
theorem k71_open {w : World} {x : S71} {cs : List Value} (h : k71.K w x cs) : cs = [.int .i64 x.f0, .int .i64 x.f1, .int .i64 x.f2] := by
 obtain ⟨_, _, rfl, rfl, ⟨_, _, rfl, rfl, rfl⟩⟩ := h
 exact rfl
theorem k71_openM {w : World} {base : Nat} {ok : Nat → Prop} {x : S71} {cs : List Value} (h : k71.M w base ok x cs) : cs = [.int .i64 x.f0, .int .i64 x.f1, .int .i64 x.f2] := by
 obtain ⟨_, _, rfl, rfl, ⟨_, _, rfl, rfl, rfl⟩⟩ := h
 exact rfl
theorem k71_mk (w : World) (x : S71)  : k71.K w x [.int .i64 x.f0, .int .i64 x.f1, .int .i64 x.f2] := ⟨[.int .i64 x.f0], [.int .i64 x.f1, .int .i64 x.f2], rfl, rfl, ⟨[.int .i64 x.f1], [.int .i64 x.f2], rfl, rfl, rfl⟩⟩
theorem k71_mkM (w : World) (base : Nat) (ok : Nat → Prop) (x : S71)  : k71.M w base ok x [.int .i64 x.f0, .int .i64 x.f1, .int .i64 x.f2] := ⟨[.int .i64 x.f0], [.int .i64 x.f1, .int .i64 x.f2], rfl, rfl, ⟨[.int .i64 x.f1], [.int .i64 x.f2], rfl, rfl, rfl⟩⟩
def rd_T71 (xs : List S71) (i : Int) : S71 := xs.getD i.toNat z71
theorem at_T71 {w : World} {A : Option Addr} {n : Nat} {xs : List S71} (h : Kd.C k71 w A n xs) (i : Int) (h0 : 0 ≤ i) (h1 : i < n) : ∃ ad , A = some ad ∧ w.cell? (ad.add (i.toNat * 3)) = some (.int .i64 (rd_T71 xs i).f0) ∧ w.cell? ⟨(ad.add (i.toNat * 3)).block, (ad.add (i.toNat * 3)).off + 1, none⟩ = some (.int .i64 (rd_T71 xs i).f1) ∧ w.cell? ⟨(ad.add (i.toNat * 3)).block, (ad.add (i.toNat * 3)).off + 2, none⟩ = some (.int .i64 (rd_T71 xs i).f2) := by
 obtain ⟨ad, c, e, _, hK, hc0⟩ := Kd.C_get h z71 i h0 h1
 have hc : ∀ j u, c[j]? = some u → w.cell? (ad.add (i.toNat * 3 + j)) = some u := hc0
 obtain rfl := k71_open hK
 exact ⟨ad, e, hc 0 _ rfl, by rw [← add_field _ _ 1 (by omega)]; exact hc 1 _ rfl, by rw [← add_field _ _ 2 (by omega)]; exact hc 2 _ rfl⟩
end Go.Proofs.Ytikomhkkodhliaa.PX
namespace Go.Proofs.Ytikomhkkodhliaa.M
open Go.RowKit Go.Proofs.YtikomhkkodhliaaW.PrintWords
section
variable {α β : Type} {r : α} {r' : β}
theorem ev_pos {c : Prop} [Decidable c] {a b : Nat → Option α} (h : c) (k : Ev a r) : Ev (fun n => if c then a n else b n) r := Ev.congr (fun _ => if_pos h) k
theorem ev_neg {c : Prop} [Decidable c] {a b : Nat → Option α} (h : ¬ c) (k : Ev b r) : Ev (fun n => if c then a n else b n) r := Ev.congr (fun _ => if_neg h) k
theorem ev_call {x : Option α} {a : α} {f : Nat → α → Option β} (h : x = some a) (k : Ev (fun n => f n a) r') : Ev (fun n => x.bind (f n)) r' := Ev.congr (fun n => by rw [h]; rfl) k
theorem ev_cast {g : Nat → Option α} {a b : α} (h : Ev g a) (e : a = b) : Ev g b := e ▸ h
/-- One round: the body of a loop's own function at k + 1. -/
theorem ev_step {g : Nat → Option α} (k : Ev (fun n => g (n + 1)) r) : Ev g r := Ev.step (fun _ => rfl) k
end
theorem wrap_id {x : Int} (h0 : -9223372036854775808 ≤ x) (h1 : x ≤ 9223372036854775807) : wrap64 x = x := by unfold wrap64; omega
theorem size_list (t : ByteArray) : t.size = t.data.toList.length := rfl
theorem bt_nat {t : ByteArray} {i : Nat} (h : i < t.data.toList.length) : bt t (i : Int) = ((t.data.toList[i]).toNat : Int) := by
  have h' : i < t.size := h
  unfold bt
  simp only [Int.toNat_natCast, h', dite_true]
  rfl
/-- Is a byte a sign? -/
def isSg (c : UInt8) : Bool := c = 43 || c = 45
def cntW (n : Int) : Int := wrap64 (Int.tdiv (wrap64 ((wrap64 (n * (wrap64 (n - 1)))) * (wrap64 (n - 2)))) 6)
theorem cntW_3 : cntW 3 = 1 := by decide +kernel
theorem cntW_4 : cntW 4 = 4 := by decide +kernel
theorem cntW_5 : cntW 5 = 10 := by decide +kernel
theorem cntW_6 : cntW 6 = 20 := by decide +kernel
theorem cntW_7 : cntW 7 = 35 := by decide +kernel
/-- What AreSigns answers. -/
def areOk (n : Int) (t : ByteArray) : Bool := decide (3 ≤ n) && decide (n ≤ 7) && decide ((t.size : Int) = cntW n) && t.data.toList.all isSg
theorem u8_43 (c : UInt8) : ((c.toNat : Int) = 43) ↔ c = 43 := by
  constructor
  · intro h; apply UInt8.toNat_inj.1; show c.toNat = 43; omega
  · rintro rfl; rfl
theorem u8_45 (c : UInt8) : ((c.toNat : Int) = 45) ↔ c = 45 := by
  constructor
  · intro h; apply UInt8.toNat_inj.1; show c.toNat = 45; omega
  · rintro rfl; rfl
theorem areOk_iff (n : Int) (t : ByteArray) : areOk n t = true ↔ (3 ≤ n ∧ n ≤ 7) ∧ (t.size : Int) = cntW n ∧ ∀ c ∈ t.data.toList, c = 43 ∨ c = 45 := by
  simp only [areOk, Bool.and_eq_true, decide_eq_true_eq, List.all_eq_true, isSg, Bool.or_eq_true, and_assoc]
theorem areOk_size {n : Int} {t : ByteArray} (h : areOk n t = true) : t.size ≤ 35 := by
  obtain ⟨⟨h0, h1⟩, h2, _⟩ := (areOk_iff n t).1 h
  have h3 : cntW n ≤ 35 := by
    have : n = 3 ∨ n = 4 ∨ n = 5 ∨ n = 6 ∨ n = 7 := by omega
    rcases this with rfl | rfl | rfl | rfl | rfl
    · rw [cntW_3]; decide
    · rw [cntW_4]; decide
    · rw [cntW_5]; decide
    · rw [cntW_6]; decide
    · rw [cntW_7]; decide
  omega
end Go.Proofs.Ytikomhkkodhliaa.M
namespace Go.Proofs.Ytikomhkkodhliaa.M
open Go.RowKit Go.Proofs.YtikomhkkodhliaaW.PrintWords
section
variable {σ τ ρ α β : Type}
/-- A piece of code: it ends with an answer, or goes on with a state. -/
def Goes (z : Except ρ σ) (K : σ → Nat → Option ρ) (g : Nat → Option ρ) : Prop :=
  match z with
  | .error v => Ev g v
  | .ok s => ∀ r, Ev (K s) r → Ev g r
variable {z : Except ρ σ} {K : σ → Nat → Option ρ}
theorem Goes.ok (s : σ) : Goes (.ok s) K (K s) := fun _ h => h
theorem Goes.error {g : Nat → Option ρ} {v : ρ} (h : Ev g v) : Goes (.error v) K g := h
theorem Goes.ret (v : ρ) : Goes (.error v) K (fun _ => some v) := Ev.now v
theorem Goes.map {g g' : Nat → Option ρ} (hg : ∀ r, Ev g' r → Ev g r) (h : Goes z K g') : Goes z K g := by
  cases z with
  | error v => exact hg _ h
  | ok s => exact fun r hr => hg _ (h r hr)
theorem Goes.step {g : Nat → Option ρ} (h : Goes z K (fun k => g (k + 1))) : Goes z K g := Goes.map (fun _ => ev_step) h
theorem Goes.pos {c : Prop} [Decidable c] {a b : Nat → Option ρ} (hc : c) (h : Goes z K a) : Goes z K (fun k => if c then a k else b k) := Goes.map (fun _ => ev_pos hc) h
theorem Goes.neg {c : Prop} [Decidable c] {a b : Nat → Option ρ} (hc : ¬ c) (h : Goes z K b) : Goes z K (fun k => if c then a k else b k) := Goes.map (fun _ => ev_neg hc) h
theorem Goes.call {x : Option α} {a : α} {f : Nat → α → Option ρ} (hx : x = some a) (h : Goes z K (fun k => f k a)) : Goes z K (fun k => x.bind (f k)) := Goes.map (fun _ => ev_call hx) h
theorem Goes.ev {x : Nat → Option α} {a : α} {f : Nat → α → Option ρ} (hx : Ev x a) (h : Goes z K (fun k => f k a)) : Goes z K (fun k => (x k).bind (f k)) := Goes.map (fun _ => Ev.bind hx) h
theorem Goes.bind {y : Except ρ τ} {f : τ → Except ρ σ} {K' : τ → Nat → Option ρ} {g : Nat → Option ρ} (h : Goes y K' g) (h' : ∀ s, Goes (f s) K (K' s)) : Goes (y >>= f) K g := by
  cases y with
  | error v => exact h
  | ok s => exact Goes.map (h ·) (h' s)
theorem Goes.cast {z' : Except ρ σ} {g : Nat → Option ρ} (h : Goes z K g) (e : z = z') : Goes z' K g := e ▸ h
theorem Goes.onK {K' : σ → Nat → Option ρ} {g : Nat → Option ρ} (h : Goes z K g) (hk : ∀ s r, Ev (K' s) r → Ev (K s) r) : Goes z K' g := by
  cases z with
  | error v => exact h
  | ok s => exact fun r hr => h r (hk _ _ hr)
/-- The answer of a piece: its own, or what follows it. -/
theorem Goes.out {g : Nat → Option ρ} {r : ρ} (h : Goes z K g) (he : ∀ v, z = .error v → v = r) (ho : ∀ s, z = .ok s → Ev (K s) r) : Ev g r := by
  cases z with
  | error v => exact he v rfl ▸ h
  | ok s => exact h r (ho s rfl)
/-- A loop that counts up to n. -/
theorem loop_up {lo n : Nat} {L : Int → σ → Nat → Option ρ} (dec : σ → Nat → Except ρ σ) (hf : ∀ s, Goes (.ok s) K (L (n : Int) s))
    (hb : ∀ i, lo ≤ i → i < n → ∀ s, Goes (dec s i) (fun s => L ((i + 1 : Nat) : Int) s) (L (i : Int) s)) (hlo : lo ≤ n) (s : σ) : Goes ((List.range' lo (n - lo)).foldlM dec s) K (L (lo : Int) s) := by
  have key : ∀ d i, lo ≤ i → i + d = n → ∀ s, Goes ((List.range' i d).foldlM dec s) K (L (i : Int) s) := by
    intro d
    induction d with
    | zero =>
      intro i _ hi s
      obtain rfl : i = n := by omega
      exact hf s
    | succ d ih =>
      intro i hl hi s
      rw [List.range'_succ, List.foldlM_cons]
      exact Goes.bind (hb i hl (by omega) s) (fun s => ih (i + 1) (by omega) (by omega) s)
  exact key (n - lo) lo (Nat.le_refl _) (by omega) s
/-- The same with a fact on the state that each round keeps. -/
theorem loop_up' {lo n : Nat} {L : Int → σ → Nat → Option ρ} (I : Nat → σ → Prop) (dec : σ → Nat → Except ρ σ) (hf : ∀ s, I n s → Goes (.ok s) K (L (n : Int) s))
    (hb : ∀ i, lo ≤ i → i < n → ∀ s, I i s → Goes (dec s i) (fun s => L ((i + 1 : Nat) : Int) s) (L (i : Int) s)) (hi : ∀ i, lo ≤ i → i < n → ∀ s, I i s → ∀ s', dec s i = .ok s' → I (i + 1) s') (hlo : lo ≤ n) (s : σ) (hs : I lo s) :
    Goes ((List.range' lo (n - lo)).foldlM dec s) K (L (lo : Int) s) := by
  have key : ∀ d i, lo ≤ i → i + d = n → ∀ s, I i s → Goes ((List.range' i d).foldlM dec s) K (L (i : Int) s) := by
    intro d
    induction d with
    | zero =>
      intro i _ hid s hs
      obtain rfl : i = n := by omega
      exact hf s hs
    | succ d ih =>
      intro i hl hid s hs
      rw [List.range'_succ, List.foldlM_cons]
      have h := hb i hl (by omega) s hs
      have h' := hi i hl (by omega) s hs
      cases hd : dec s i with
      | error v => rw [hd] at h; exact h
      | ok s' =>
        rw [hd] at h
        exact Goes.map (h ·) (ih (i + 1) (by omega) (by omega) s' (h' s' hd))
  exact key (n - lo) lo (Nat.le_refl _) (by omega) s hs
theorem foldlM_flatMap (f : α → List β) (g : σ → β → Except ρ σ) (l : List α) : ∀ s, (l.flatMap f).foldlM g s = l.foldlM (fun s a => (f a).foldlM g s) s := by
  induction l with
  | nil => intro s; rfl
  | cons x l ih =>
    intro s
    rw [List.flatMap_cons, List.foldlM_append, List.foldlM_cons]
    congr 1
    funext s
    exact ih s
theorem foldlM_mapx (f : α → β) (g : σ → β → Except ρ σ) (l : List α) : ∀ s, (l.map f).foldlM g s = l.foldlM (fun s a => g s (f a)) s := by
  induction l with
  | nil => intro s; rfl
  | cons x l ih =>
    intro s
    rw [List.map_cons, List.foldlM_cons, List.foldlM_cons]
    congr 1
    funext s
    exact ih s
theorem foldlM_ok (g : σ → α → σ) (l : List α) : ∀ s, (l.foldlM (fun s a => (.ok (g s a) : Except ρ σ)) s) = .ok (l.foldl g s) := by
  induction l with
  | nil => intro s; rfl
  | cons x l ih => intro s; exact ih (g s x)
theorem foldlM_find (c : α → Bool) (v : α → ρ) (l : List α) : l.foldlM (fun (_ : Unit) a => if c a then (.error (v a) : Except ρ Unit) else .ok ()) () = match l.find? c with | some a => .error (v a) | none => .ok () := by
  induction l with
  | nil => rfl
  | cons x l ih =>
    rw [List.foldlM_cons, List.find?_cons]
    cases hx : c x with
    | true => rfl
    | false => exact ih
theorem foldlM_any (c : α → Bool) (v : ρ) (l : List α) : l.foldlM (fun (_ : Unit) a => if c a then (.error v : Except ρ Unit) else .ok ()) () = if l.any c then .error v else .ok () := by
  rw [foldlM_find c (fun _ => v) l]
  cases h : l.find? c with
  | none =>
    have : l.any c = false := by simpa using h
    rw [this]; rfl
  | some a =>
    have : l.any c = true := List.any_eq_true.2 ⟨a, List.mem_of_find?_eq_some h, List.find?_some h⟩
    rw [this]; rfl
end
/-- A loop over a list's places, as a fold over the list. -/
theorem foldlM_index {σ ρ α : Type} (d : α) (f : σ → α → Except ρ σ) (l : List α) (s : σ) : (List.range' 0 (l.length - 0)).foldlM (fun s i => f s (l.getD i d)) s = l.foldlM f s := by
  have key : ∀ (l' pre : List α) (s : σ), pre ++ l' = l → (List.range' pre.length l'.length).foldlM (fun s i => f s (l.getD i d)) s = l'.foldlM f s := by
    intro l'
    induction l' with
    | nil => intro pre s _; rfl
    | cons x l' ih =>
      intro pre s h
      have hx : l.getD pre.length d = x := by
        rw [← h, List.getD_eq_getElem?_getD, List.getElem?_append_right (Nat.le_refl _), Nat.sub_self]
        rfl
      rw [List.length_cons, List.range'_succ, List.foldlM_cons, List.foldlM_cons, hx]
      congr 1
      funext s
      have := ih (pre ++ [x]) s (by rw [← h, List.append_assoc]; rfl)
      rw [List.length_append] at this
      exact this
  rw [Nat.sub_zero]
  exact key l [] s rfl
theorem foldl_filter {α β : Type} (c : α → Bool) (f : α → β) (l : List α) : ∀ s : List β, l.foldl (fun s a => if c a then s ++ [f a] else s) s = s ++ (l.filter c).map f := by
  induction l with
  | nil => intro s; simp
  | cons x l ih =>
    intro s
    rw [List.foldl_cons, ih, List.filter_cons]
    split
    · rw [List.map_cons, List.append_assoc]; rfl
    · rfl
/-- The ascending twos, threes and fours below n. -/
def upFrom (n a : Nat) : List Nat := List.range' (a + 1) (n - (a + 1))
def pairsL (n : Nat) : List (Nat × Nat) := (List.range' 0 n).flatMap fun a => (upFrom n a).map fun b => (a, b)
def tripsL (n : Nat) : List (Nat × Nat × Nat) := (List.range' 0 n).flatMap fun a => (upFrom n a).flatMap fun b => (upFrom n b).map fun c => (a, b, c)
def quadsL (n : Nat) : List (Nat × Nat × Nat × Nat) := (List.range' 0 n).flatMap fun a => (upFrom n a).flatMap fun b => (upFrom n b).flatMap fun c => (upFrom n c).map fun d => (a, b, c, d)
theorem mem_upFrom {n a b : Nat} (h : b ∈ upFrom n a) : a < b ∧ b < n := by
  simp only [upFrom, List.mem_range'_1] at h
  omega
theorem mem_pairs {n a b : Nat} (h : (a, b) ∈ pairsL n) : a < b ∧ b < n := by
  simp only [pairsL, List.mem_flatMap, List.mem_map, Prod.mk.injEq] at h
  obtain ⟨x, _, y, hy, rfl, rfl⟩ := h
  exact mem_upFrom hy
theorem mem_trips {n a b c : Nat} (h : (a, b, c) ∈ tripsL n) : a < b ∧ b < c ∧ c < n := by
  simp only [tripsL, List.mem_flatMap, List.mem_map, Prod.mk.injEq] at h
  obtain ⟨x, _, y, hy, z, hz, rfl, rfl, rfl⟩ := h
  have := mem_upFrom hy
  have := mem_upFrom hz
  omega
theorem mem_quads {n a b c d : Nat} (h : (a, b, c, d) ∈ quadsL n) : a < b ∧ b < c ∧ c < d ∧ d < n := by
  simp only [quadsL, List.mem_flatMap, List.mem_map, Prod.mk.injEq] at h
  obtain ⟨x, _, y, hy, z, hz, u, hu, rfl, rfl, rfl, rfl⟩ := h
  have := mem_upFrom hy
  have := mem_upFrom hz
  have := mem_upFrom hu
  omega
theorem pairs_mem {n a b : Nat} (h1 : a < b) (h2 : b < n) : (a, b) ∈ pairsL n := by
  simp only [pairsL, List.mem_flatMap, List.mem_map, Prod.mk.injEq, upFrom, List.mem_range'_1]
  exact ⟨a, by omega, b, by omega, rfl, rfl⟩
theorem trips_mem {n a b c : Nat} (h1 : a < b) (h2 : b < c) (h3 : c < n) : (a, b, c) ∈ tripsL n := by
  simp only [tripsL, List.mem_flatMap, List.mem_map, Prod.mk.injEq, upFrom, List.mem_range'_1]
  exact ⟨a, by omega, b, by omega, c, by omega, rfl, rfl, rfl⟩
theorem quads_mem {n a b c d : Nat} (h1 : a < b) (h2 : b < c) (h3 : c < d) (h4 : d < n) : (a, b, c, d) ∈ quadsL n := by
  simp only [quadsL, List.mem_flatMap, List.mem_map, Prod.mk.injEq, upFrom, List.mem_range'_1]
  exact ⟨a, by omega, b, by omega, c, by omega, d, by omega, rfl, rfl, rfl, rfl⟩
section
variable {σ ρ : Type} {n : Nat} {K : σ → Nat → Option ρ}
/-- Two, three, four loops in each other, over ascending numbers. -/
theorem loops2 {L0 : Int → σ → Nat → Option ρ} {L1 : Int → Int → σ → Nat → Option ρ} (dec : σ → Nat × Nat → Except ρ σ)
    (e0 : ∀ s, Goes (.ok s) K (L0 (n : Int) s)) (s0 : ∀ a, a < n → ∀ s, Goes (.ok s) (fun s => L1 (a : Int) ((a + 1 : Nat) : Int) s) (L0 (a : Int) s))
    (e1 : ∀ a, a < n → ∀ s, Goes (.ok s) (fun s => L0 ((a + 1 : Nat) : Int) s) (L1 (a : Int) (n : Int) s))
    (hb : ∀ a b, a < b → b < n → ∀ s, Goes (dec s (a, b)) (fun s => L1 (a : Int) ((b + 1 : Nat) : Int) s) (L1 (a : Int) (b : Int) s)) (s : σ) : Goes ((pairsL n).foldlM dec s) K (L0 0 s) := by
  have h := loop_up (K := K) (L := L0) (lo := 0) (n := n) (fun s a => (upFrom n a).foldlM (fun s b => dec s (a, b)) s) e0 (fun a _ ha s => ?_) (by omega) s
  · refine Goes.cast h ?_
    rw [pairsL, foldlM_flatMap]
    simp only [foldlM_mapx, Nat.sub_zero]
  · exact Goes.map (fun _ => s0 a ha s _) (loop_up (K := fun s => L0 ((a + 1 : Nat) : Int) s) (L := L1 (a : Int)) (fun s b => dec s (a, b)) (e1 a ha) (fun b hl hb' s => hb a b (by omega) hb' s) (by omega) s)
theorem loops3 {L0 : Int → σ → Nat → Option ρ} {L1 : Int → Int → σ → Nat → Option ρ} {L2 : Int → Int → Int → σ → Nat → Option ρ} (dec : σ → Nat × Nat × Nat → Except ρ σ)
    (e0 : ∀ s, Goes (.ok s) K (L0 (n : Int) s)) (s0 : ∀ a, a < n → ∀ s, Goes (.ok s) (fun s => L1 (a : Int) ((a + 1 : Nat) : Int) s) (L0 (a : Int) s))
    (e1 : ∀ a, a < n → ∀ s, Goes (.ok s) (fun s => L0 ((a + 1 : Nat) : Int) s) (L1 (a : Int) (n : Int) s)) (s1 : ∀ a b, a < b → b < n → ∀ s, Goes (.ok s) (fun s => L2 (a : Int) (b : Int) ((b + 1 : Nat) : Int) s) (L1 (a : Int) (b : Int) s))
    (e2 : ∀ a b, a < b → b < n → ∀ s, Goes (.ok s) (fun s => L1 (a : Int) ((b + 1 : Nat) : Int) s) (L2 (a : Int) (b : Int) (n : Int) s))
    (hb : ∀ a b c, a < b → b < c → c < n → ∀ s, Goes (dec s (a, b, c)) (fun s => L2 (a : Int) (b : Int) ((c + 1 : Nat) : Int) s) (L2 (a : Int) (b : Int) (c : Int) s)) (s : σ) : Goes ((tripsL n).foldlM dec s) K (L0 0 s) := by
  refine Goes.cast (loops2 (n := n) (K := K) (L0 := L0) (L1 := L1) (fun s p => (upFrom n p.2).foldlM (fun s c => dec s (p.1, p.2, c)) s) e0 s0 e1 (fun a b hab hb' s => ?_) s) ?_
  · exact Goes.map (fun _ => s1 a b hab hb' s _) (loop_up (K := fun s => L1 (a : Int) ((b + 1 : Nat) : Int) s) (L := L2 (a : Int) (b : Int)) (fun s c => dec s (a, b, c)) (e2 a b hab hb') (fun c hl hc s => hb a b c hab (by omega) hc s) (by omega) s)
  · simp only [pairsL, tripsL, foldlM_flatMap, foldlM_mapx]
theorem loops4 {L0 : Int → σ → Nat → Option ρ} {L1 : Int → Int → σ → Nat → Option ρ} {L2 : Int → Int → Int → σ → Nat → Option ρ} {L3 : Int → Int → Int → Int → σ → Nat → Option ρ} (dec : σ → Nat × Nat × Nat × Nat → Except ρ σ)
    (e0 : ∀ s, Goes (.ok s) K (L0 (n : Int) s)) (s0 : ∀ a, a < n → ∀ s, Goes (.ok s) (fun s => L1 (a : Int) ((a + 1 : Nat) : Int) s) (L0 (a : Int) s))
    (e1 : ∀ a, a < n → ∀ s, Goes (.ok s) (fun s => L0 ((a + 1 : Nat) : Int) s) (L1 (a : Int) (n : Int) s)) (s1 : ∀ a b, a < b → b < n → ∀ s, Goes (.ok s) (fun s => L2 (a : Int) (b : Int) ((b + 1 : Nat) : Int) s) (L1 (a : Int) (b : Int) s))
    (e2 : ∀ a b, a < b → b < n → ∀ s, Goes (.ok s) (fun s => L1 (a : Int) ((b + 1 : Nat) : Int) s) (L2 (a : Int) (b : Int) (n : Int) s)) (s2 : ∀ a b c, a < b → b < c → c < n → ∀ s, Goes (.ok s) (fun s => L3 (a : Int) (b : Int) (c : Int) ((c + 1 : Nat) : Int) s) (L2 (a : Int) (b : Int) (c : Int) s))
    (e3 : ∀ a b c, a < b → b < c → c < n → ∀ s, Goes (.ok s) (fun s => L2 (a : Int) (b : Int) ((c + 1 : Nat) : Int) s) (L3 (a : Int) (b : Int) (c : Int) (n : Int) s))
    (hb : ∀ a b c d, a < b → b < c → c < d → d < n → ∀ s, Goes (dec s (a, b, c, d)) (fun s => L3 (a : Int) (b : Int) (c : Int) ((d + 1 : Nat) : Int) s) (L3 (a : Int) (b : Int) (c : Int) (d : Int) s)) (s : σ) : Goes ((quadsL n).foldlM dec s) K (L0 0 s) := by
  refine Goes.cast (loops3 (n := n) (K := K) (L0 := L0) (L1 := L1) (L2 := L2) (fun s p => (upFrom n p.2.2).foldlM (fun s d => dec s (p.1, p.2.1, p.2.2, d)) s) e0 s0 e1 s1 e2 (fun a b c hab hbc hc s => ?_) s) ?_
  · exact Goes.map (fun _ => s2 a b c hab hbc hc s _) (loop_up (lo := c + 1) (n := n) (K := fun s => L2 (a : Int) (b : Int) ((c + 1 : Nat) : Int) s) (L := L3 (a : Int) (b : Int) (c : Int)) (fun s d => dec s (a, b, c, d)) (e3 a b c hab hbc hc) (fun d hl hd s => hb a b c d hab hbc (by omega) hd s) (by omega) s)
  · simp only [tripsL, quadsL, foldlM_flatMap, foldlM_mapx]
/-- A fold whose rounds make a measure grow by one at most. -/
theorem fold_len {α : Type} (len : σ → Nat) {dec : σ → α → Except ρ σ} (hl : ∀ s x s', dec s x = .ok s' → len s' ≤ len s + 1) (l : List α) : ∀ s s', l.foldlM dec s = .ok s' → len s' ≤ len s + l.length := by
  induction l with
  | nil => intro s s' h; cases h; exact Nat.le_refl _
  | cons x l ih =>
    intro s s' h
    rw [List.foldlM_cons] at h
    cases hd : dec s x with
    | error v => rw [hd] at h; cases h
    | ok s1 =>
      rw [hd] at h
      have h1 := hl _ _ _ hd
      have h2 := ih s1 s' h
      rw [List.length_cons]
      omega
theorem upFrom_length (n a : Nat) : (upFrom n a).length = n - (a + 1) := List.length_range' ..
/-- The same loops, where a measure of the state is bounded: each round makes it grow by one at most. -/
theorem loops2B {L0 : Int → σ → Nat → Option ρ} {L1 : Int → Int → σ → Nat → Option ρ} (hn : n ≤ 7) (len : σ → Nat) (B : Nat) (dec : σ → Nat × Nat → Except ρ σ) (hl : ∀ s x s', dec s x = .ok s' → len s' ≤ len s + 1)
    (e0 : ∀ s, Goes (.ok s) K (L0 (n : Int) s)) (s0 : ∀ a, a < n → ∀ s, Goes (.ok s) (fun s => L1 (a : Int) ((a + 1 : Nat) : Int) s) (L0 (a : Int) s))
    (e1 : ∀ a, a < n → ∀ s, Goes (.ok s) (fun s => L0 ((a + 1 : Nat) : Int) s) (L1 (a : Int) (n : Int) s))
    (hb : ∀ a b, a < b → b < n → ∀ s, len s ≤ B + 49 → Goes (dec s (a, b)) (fun s => L1 (a : Int) ((b + 1 : Nat) : Int) s) (L1 (a : Int) (b : Int) s)) (s : σ) (hs : len s ≤ B) : Goes ((pairsL n).foldlM dec s) K (L0 0 s) := by
  have h := loop_up' (K := K) (L := L0) (lo := 0) (n := n) (fun a s => len s ≤ B + 7 * a) (fun s a => (upFrom n a).foldlM (fun s b => dec s (a, b)) s) (fun s _ => e0 s) (fun a _ ha s hs => ?_) (fun a _ ha s hs s' e => ?_) (by omega) s (by omega)
  · refine Goes.cast h ?_
    rw [pairsL, foldlM_flatMap]
    simp only [foldlM_mapx, Nat.sub_zero]
  · exact Goes.map (fun _ => s0 a ha s _) (loop_up' (lo := a + 1) (n := n) (K := fun s => L0 ((a + 1 : Nat) : Int) s) (L := L1 (a : Int)) (fun b s => len s ≤ B + 7 * a + b) (fun s b => dec s (a, b)) (fun s _ => e1 a ha s)
      (fun b hlo hb' s hs => hb a b (by omega) hb' s (by omega)) (fun b hlo hb' s hs s' e => by have := hl _ _ _ e; omega) (by omega) s (by omega))
  · have := fold_len len (fun s x s' => hl s (a, x) s') _ _ _ e
    rw [upFrom_length] at this
    omega
theorem loops3B {L0 : Int → σ → Nat → Option ρ} {L1 : Int → Int → σ → Nat → Option ρ} {L2 : Int → Int → Int → σ → Nat → Option ρ} (hn : n ≤ 7) (len : σ → Nat) (B : Nat) (dec : σ → Nat × Nat × Nat → Except ρ σ) (hl : ∀ s x s', dec s x = .ok s' → len s' ≤ len s + 1)
    (e0 : ∀ s, Goes (.ok s) K (L0 (n : Int) s)) (s0 : ∀ a, a < n → ∀ s, Goes (.ok s) (fun s => L1 (a : Int) ((a + 1 : Nat) : Int) s) (L0 (a : Int) s))
    (e1 : ∀ a, a < n → ∀ s, Goes (.ok s) (fun s => L0 ((a + 1 : Nat) : Int) s) (L1 (a : Int) (n : Int) s)) (s1 : ∀ a b, a < b → b < n → ∀ s, Goes (.ok s) (fun s => L2 (a : Int) (b : Int) ((b + 1 : Nat) : Int) s) (L1 (a : Int) (b : Int) s))
    (e2 : ∀ a b, a < b → b < n → ∀ s, Goes (.ok s) (fun s => L1 (a : Int) ((b + 1 : Nat) : Int) s) (L2 (a : Int) (b : Int) (n : Int) s))
    (hb : ∀ a b c, a < b → b < c → c < n → ∀ s, len s ≤ B + 343 → Goes (dec s (a, b, c)) (fun s => L2 (a : Int) (b : Int) ((c + 1 : Nat) : Int) s) (L2 (a : Int) (b : Int) (c : Int) s)) (s : σ) (hs : len s ≤ B) : Goes ((tripsL n).foldlM dec s) K (L0 0 s) := by
  have h := loop_up' (K := K) (L := L0) (lo := 0) (n := n) (fun a s => len s ≤ B + 49 * a) (fun s a => (upFrom n a).foldlM (fun s b => (upFrom n b).foldlM (fun s c => dec s (a, b, c)) s) s) (fun s _ => e0 s) (fun a _ ha s hs => ?_) (fun a _ ha s hs s' e => ?_) (by omega) s (by omega)
  · refine Goes.cast h ?_
    rw [tripsL, foldlM_flatMap]
    simp only [foldlM_mapx, foldlM_flatMap, Nat.sub_zero]
  · refine Goes.map (fun _ => s0 a ha s _) (loop_up' (lo := a + 1) (n := n) (K := fun s => L0 ((a + 1 : Nat) : Int) s) (L := L1 (a : Int)) (fun b s => len s ≤ B + 49 * a + 7 * b) (fun s b => (upFrom n b).foldlM (fun s c => dec s (a, b, c)) s) (fun s _ => e1 a ha s)
      (fun b hlo hb' s hs => ?_) (fun b hlo hb' s hs s' e => ?_) (by omega) s (by omega))
    · exact Goes.map (fun _ => s1 a b (by omega) hb' s _) (loop_up' (lo := b + 1) (n := n) (K := fun s => L1 (a : Int) ((b + 1 : Nat) : Int) s) (L := L2 (a : Int) (b : Int)) (fun c s => len s ≤ B + 49 * a + 7 * b + c) (fun s c => dec s (a, b, c)) (fun s _ => e2 a b (by omega) hb' s)
        (fun c hl' hc s hs => hb a b c (by omega) (by omega) hc s (by omega)) (fun c hl' hc s hs s' e => by have := hl _ _ _ e; omega) (by omega) s (by omega))
    · have := fold_len len (fun s x s' => hl s (a, b, x) s') _ _ _ e
      rw [upFrom_length] at this
      omega
  · have key : ∀ (l : List Nat), ∀ s s', l.foldlM (fun s b => (upFrom n b).foldlM (fun s c => dec s (a, b, c)) s) s = .ok s' → len s' ≤ len s + 7 * l.length := by
      intro l
      induction l with
      | nil => intro s s' h; cases h; exact Nat.le_refl _
      | cons x l ih =>
        intro s s' h
        rw [List.foldlM_cons] at h
        cases hd : (upFrom n x).foldlM (fun s c => dec s (a, x, c)) s with
        | error v => rw [hd] at h; cases h
        | ok s1 =>
          rw [hd] at h
          have h1 := fold_len len (fun s y s' => hl s (a, x, y) s') _ _ _ hd
          have h2 := ih s1 s' h
          rw [upFrom_length] at h1
          rw [List.length_cons]
          omega
    have := key _ _ _ e
    rw [upFrom_length] at this
    omega
theorem fold_len2 {n : Nat} (hn : n ≤ 7) {α : Type} (len : σ → Nat) (w : Nat) {dec : σ → α → Except ρ σ} (hl : ∀ s x s', dec s x = .ok s' → len s' ≤ len s + w) (l : List α) : ∀ s s', l.foldlM dec s = .ok s' → len s' ≤ len s + w * l.length := by
  induction l with
  | nil => intro s s' h; cases h; exact Nat.le_refl _
  | cons x l ih =>
    intro s s' h
    rw [List.foldlM_cons] at h
    cases hd : dec s x with
    | error v => rw [hd] at h; cases h
    | ok s1 =>
      rw [hd] at h
      have h1 := hl _ _ _ hd
      have h2 := ih s1 s' h
      rw [List.length_cons, Nat.mul_succ]
      omega
set_option maxRecDepth 8000 in
theorem loops4B {L0 : Int → σ → Nat → Option ρ} {L1 : Int → Int → σ → Nat → Option ρ} {L2 : Int → Int → Int → σ → Nat → Option ρ} {L3 : Int → Int → Int → Int → σ → Nat → Option ρ} (hn : n ≤ 7) (len : σ → Nat) (B : Nat) (dec : σ → Nat × Nat × Nat × Nat → Except ρ σ) (hl : ∀ s x s', dec s x = .ok s' → len s' ≤ len s + 1)
    (e0 : ∀ s, Goes (.ok s) K (L0 (n : Int) s)) (s0 : ∀ a, a < n → ∀ s, Goes (.ok s) (fun s => L1 (a : Int) ((a + 1 : Nat) : Int) s) (L0 (a : Int) s))
    (e1 : ∀ a, a < n → ∀ s, Goes (.ok s) (fun s => L0 ((a + 1 : Nat) : Int) s) (L1 (a : Int) (n : Int) s)) (s1 : ∀ a b, a < b → b < n → ∀ s, Goes (.ok s) (fun s => L2 (a : Int) (b : Int) ((b + 1 : Nat) : Int) s) (L1 (a : Int) (b : Int) s))
    (e2 : ∀ a b, a < b → b < n → ∀ s, Goes (.ok s) (fun s => L1 (a : Int) ((b + 1 : Nat) : Int) s) (L2 (a : Int) (b : Int) (n : Int) s)) (s2 : ∀ a b c, a < b → b < c → c < n → ∀ s, Goes (.ok s) (fun s => L3 (a : Int) (b : Int) (c : Int) ((c + 1 : Nat) : Int) s) (L2 (a : Int) (b : Int) (c : Int) s))
    (e3 : ∀ a b c, a < b → b < c → c < n → ∀ s, Goes (.ok s) (fun s => L2 (a : Int) (b : Int) ((c + 1 : Nat) : Int) s) (L3 (a : Int) (b : Int) (c : Int) (n : Int) s))
    (hb : ∀ a b c d, a < b → b < c → c < d → d < n → ∀ s, len s ≤ B + 2401 → Goes (dec s (a, b, c, d)) (fun s => L3 (a : Int) (b : Int) (c : Int) ((d + 1 : Nat) : Int) s) (L3 (a : Int) (b : Int) (c : Int) (d : Int) s)) (s : σ) (hs : len s ≤ B) : Goes ((quadsL n).foldlM dec s) K (L0 0 s) := by
  have f3 : ∀ a b c : Nat, ∀ s s', (upFrom n c).foldlM (fun s d => dec s (a, b, c, d)) s = .ok s' → len s' ≤ len s + 7 := fun a b c s s' h => by
    have := fold_len len (fun s x s' => hl s (a, b, c, x) s') _ _ _ h
    rw [upFrom_length] at this
    omega
  have f2 : ∀ a b : Nat, ∀ s s', (upFrom n b).foldlM (fun s c => (upFrom n c).foldlM (fun s d => dec s (a, b, c, d)) s) s = .ok s' → len s' ≤ len s + 49 := fun a b s s' h => by
    have := fold_len2 hn len 7 (fun s x s' => f3 a b x s s') _ _ _ h
    rw [upFrom_length] at this
    omega
  have f1 : ∀ a : Nat, ∀ s s', (upFrom n a).foldlM (fun s b => (upFrom n b).foldlM (fun s c => (upFrom n c).foldlM (fun s d => dec s (a, b, c, d)) s) s) s = .ok s' → len s' ≤ len s + 343 := fun a s s' h => by
    have := fold_len2 hn len 49 (fun s x s' => f2 a x s s') _ _ _ h
    rw [upFrom_length] at this
    omega
  have h := loop_up' (K := K) (L := L0) (lo := 0) (n := n) (fun a s => len s ≤ B + 343 * a) (fun s a => (upFrom n a).foldlM (fun s b => (upFrom n b).foldlM (fun s c => (upFrom n c).foldlM (fun s d => dec s (a, b, c, d)) s) s) s) (fun s _ => e0 s) (fun a _ ha s hs => ?_) (fun a _ ha s hs s' e => by have := f1 a _ _ e; omega) (by omega) s (by omega)
  · refine Goes.cast h ?_
    rw [quadsL, foldlM_flatMap]
    simp only [foldlM_mapx, foldlM_flatMap, Nat.sub_zero]
  · refine Goes.map (fun _ => s0 a ha s _) (loop_up' (lo := a + 1) (n := n) (K := fun s => L0 ((a + 1 : Nat) : Int) s) (L := L1 (a : Int)) (fun b s => len s ≤ B + 343 * a + 49 * b) (fun s b => (upFrom n b).foldlM (fun s c => (upFrom n c).foldlM (fun s d => dec s (a, b, c, d)) s) s) (fun s _ => e1 a ha s)
      (fun b hlo hb' s hs => ?_) (fun b hlo hb' s hs s' e => by have := f2 a b _ _ e; omega) (by omega) s (by omega))
    refine Goes.map (fun _ => s1 a b (by omega) hb' s _) (loop_up' (lo := b + 1) (n := n) (K := fun s => L1 (a : Int) ((b + 1 : Nat) : Int) s) (L := L2 (a : Int) (b : Int)) (fun c s => len s ≤ B + 343 * a + 49 * b + 7 * c) (fun s c => (upFrom n c).foldlM (fun s d => dec s (a, b, c, d)) s) (fun s _ => e2 a b (by omega) hb' s)
      (fun c hl' hc s hs => ?_) (fun c hl' hc s hs s' e => by have := f3 a b c _ _ e; omega) (by omega) s (by omega))
    exact Goes.map (fun _ => s2 a b c (by omega) (by omega) hc s _) (loop_up' (lo := c + 1) (n := n) (K := fun s => L2 (a : Int) (b : Int) ((c + 1 : Nat) : Int) s) (L := L3 (a : Int) (b : Int) (c : Int)) (fun d s => len s ≤ B + 343 * a + 49 * b + 7 * c + d) (fun s d => dec s (a, b, c, d)) (fun s _ => e3 a b c (by omega) (by omega) hc s)
      (fun d hd' hd s hs => hb a b c d (by omega) (by omega) (by omega) hd s (by omega)) (fun d hd' hd s hs s' e => by have := hl _ _ _ e; omega) (by omega) s (by omega))
theorem foldlM_okL {α : Type} (g : σ → α → σ) (len : σ → Nat) (hg : ∀ s a, len (g s a) ≤ len s + 1) : ∀ s x s', (fun s a => (.ok (g s a) : Except ρ σ)) s x = .ok s' → len s' ≤ len s + 1 := by
  intro s x s' h
  cases h
  exact hg s x
end
end Go.Proofs.Ytikomhkkodhliaa.M
