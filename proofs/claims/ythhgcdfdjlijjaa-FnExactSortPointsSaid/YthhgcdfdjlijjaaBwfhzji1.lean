/- A part of proofs about signs and points: what some functions answer, and that their calls answer so. No condition. -/
import Derived.Test.YthhgcdfdjlijjaaProg
import Derived.Below
import Derived.Deep.Draws
import Derived.Deep.AppendLies
import Derived.Maps.AppendAt
import Derived.OwnWalk
import Derived.Laws.BytesArg
import Derived.Laws.MakeOwn
import Derived.Laws.OwnMore
import Derived.Deep.OwnRows
import Derived.Tactics
import Derived.Lib.ConvBytes
import Derived.Laws.Slices
import Derived.WalkKit
import Derived.KernelRfl
import Derived.RowKit3
import Derived.Deep.LoopGhost
import Derived.Deep.QuietTactic
import Derived.BigQuiet
import Derived.WideLaws
import Derived.Deep.DeepCutAuto
import Derived.Deep.CutBlock
import Derived.Deep.RegionHeld3
import Derived.Laws.Rows
import Derived.Lib.AppendStr
import Derived.ArgAppend
import Derived.Laws.IdiomCopy
import Derived.OrdersHeld
import Derived.Laws.BitsLemmas
import Derived.RowKit
import Derived.Laws.Tables
import Derived.Lib.QuietBelow
import Derived.Shelf.SlSortCmp.SmallK
import Derived.Shelf.SlicesE.Clone
import Derived.Shelf.Small.Bits
import Derived.Lib.OwnBridge
import Derived.Test.YthhgcdfdjlijjaaV1
set_option linter.unusedVariables false
set_option linter.unusedSimpArgs false
namespace Go.Proofs.Ythhgcdfdjlijjaa.G
open Go.RowKit Go.Proofs.YthhgcdfdjlijjaaW.PrintWords
theorem ownB_len (A : Option Addr) (n n' c c' : Nat) : (Value.slice A n c).ownBlock = (Value.slice A n' c').ownBlock := by cases A <;> rfl
section
variable {P : Program} {ops : Array Oper} {rest : List Oper} {o : Oper} {a : Act} {Q : Exit → Act → World → Prop}
end
end Go.Proofs.Ythhgcdfdjlijjaa.G
namespace Go.Proofs.Ythhgcdfdjlijjaa.G
open Go.RowKit Go.Proofs.YthhgcdfdjlijjaaW.PrintWords
set_option linter.unusedVariables false
theorem dr_drew {w c : World} (h : w.drawn ≤ c.drawn) : w.drawn ≤ c.drew.drawn := Nat.le_succ_of_le h
theorem dr_drewN {w c : World} (n : Nat) (h : w.drawn ≤ c.drawn) : w.drawn ≤ (c.drewN n).drawn := Nat.le_trans h (Nat.le_add_right _ _)
theorem dr_step {w c c' : World} (h : w.drawn ≤ c.drawn) (h' : c.drawn ≤ c'.drawn) : w.drawn ≤ c'.drawn := Nat.le_trans h h'
theorem box_eventD {P : Program} {ops : Array Oper} {rest : List Oper} {o : Oper} {a : Act} {Q : Exit → Act → World → Prop} {W : World} (hgd : o.guard = none) {N : Tmp} (_ : o.dst = some N) {cs : Array Value} {t : TypeId}
  (hrun : (execOp a.eval o).run P W = .ok (.value (.pointer (some ⟨W.heap.size, 0, none⟩))) (W.alloc (.cells cs t (0, 0))))
  (h : ∀ g, g = W.heap.size → ∀ w1, w1.heap[g]? = some (.cells cs t (0, 0)) → Below W.heap.size W w1 → W.drawn ≤ w1.drawn → wpList P ops Q rest (a.put o.dst (.pointer (some ⟨g, 0, none⟩))) w1) : wpList P ops Q (o :: rest) a W :=
 Kd.event_run hgd hrun (h _ rfl _ (blk_new W _) (below_alloc (Below.refl _ _) _) (Nat.le_refl _))
theorem R_lit_stepD {P : Program} {ops : Array Oper} {o : Oper} {a : Act} {Q : Exit → Act → World → Prop} {Kc : Act → World → Prop} {α : Type} (d : Kd α) {w0 W : World} (base e : Nat) (hw : Region.wanted o (yielded ops a.tmps) = true) {N : Tmp} (_ : o.dst = some N) {xs : List α} {inner : List Value} {ok okp : Nat → Prop}
  (hrun : (execOp a.eval o).run P W = .ok (.value (.slice (some ⟨W.heap.size, 0, none⟩) xs.length xs.length)) (W.alloc (.cells inner.toArray e)))
  (hrep : Reps (d.M W base okp) d.sz xs inner) (hok : ∀ k, okp k → ok k) (hfresh : ok W.heap.size) (HB : Below base w0 W) (hbase : base ≤ W.heap.size) (hm : xs.length ≤ 9223372036854775807)
  (h : ∀ v1 w1, d.R e w1 base ok v1 xs → Below base w0 w1 → W.grownBy w1 none → (∃ b, v1.ownBlock = some b ∧ W.heap.size ≤ b) → W.drawn ≤ w1.drawn → Kc (a.put o.dst v1) w1) : if Region.wanted o (yielded ops a.tmps) = true then Oper.wp P o a W Kc Q else Kc (a.put o.dst undef) W := by
 refine event_step hw hrun (h _ _ ⟨fun k hk => ?_, inner, ?_, ?_⟩ (HB.alloc hbase _) (World.grownBy_alloc W _ none) ⟨W.heap.size, by simp [Value.ownBlock], Nat.le_refl _⟩ (Nat.le_refl _))
 ·have : W.heap.size = k := by simpa [Value.ownBlock] using hk
  subst this
  exact hfresh
 ·have h2 := World.ownsRow_lit (base := base) (e := e) (size := d.sz) W inner.toArray xs.length hbase (by simpa [maxLen] using hm) (by simpa using hrep.1)
  simpa using h2
 ·refine hrep.imp_ (fun p c hp => d.M_mono (fun k hk => ⟨hok k hk.1, fun he => ?_⟩) (Kd.M_below (d.M_bound hp) (below_alloc (Below.refl _ _) _)))
  have h3 : k = W.heap.size := by simpa [Value.ownBlock] using he
  have := hk.2.2.1
  omega
theorem grown_of {w w' : World} (h : Below w.heap.size w w') (hd : w.drawn ≤ w'.drawn) : ∃ q os', w' = Go.Sort.grow (w.drewN q) os' := by
 obtain ⟨p, rfl⟩ := regrown_of_below h
 refine ⟨p.d - w.drawn, p.os, ?_⟩
 have hd' : w.drawn ≤ p.d := hd
 have e : redrawn w p.d = w.drewN (p.d - w.drawn) := by
  unfold redrawn World.drewN
  congr 1
  omega
 rw [e]
end Go.Proofs.Ythhgcdfdjlijjaa.G
namespace Go.Proofs.Ythhgcdfdjlijjaa.PX
open Go.RowKit Go.Proofs.Ythhgcdfdjlijjaa.G Go.Proofs.YthhgcdfdjlijjaaW.PrintWords Go.Proofs.YthhgcdfdjlijjaaW.PrintLast Go.Proofs.YthhgcdfdjlijjaaW.PrintMore
attribute [local go_sem] max2_int min2_int max_two min_two max_three min_three max_four min_four   -- for this text's walks alone
set_option linter.unusedVariables false
set_option linter.unusedSimpArgs false
def errW : Option Int → Value
 | none => .nilIface
 | some c => .iface 0 (.int .i64 c)
theorem errW_none : errW none = .nilIface := rfl
theorem errW_some (c : Int) : errW (some c) = .iface 0 (.int .i64 c) := rfl
theorem info43 : (Try.prog.info? 43).map (fun i => (i.zero, i.size, i.bytes)) = some (some (.agg #[(.int .i64 0), (.int .i64 0)]), 2, 16) := by kernel_rfl
theorem info59 : (Try.prog.info? 59).map (fun i => (i.zero, i.size, i.bytes)) = some (some (.agg #[(.int .i64 0), (.int .i64 0), (.int .i64 0)]), 3, 24) := by kernel_rfl
/-! #### struct type 45 -/
structure S45 where
 f0 : Int
 f1 : Int
def z45 : S45 := ⟨(0 : Int), (0 : Int)⟩
def k45 : Kd S45 := Kd.iso (Kd.pair (Kd.int .i64) (Kd.int .i64)) (fun x : S45 => (x.f0, x.f1))
theorem k45_open {w : World} {x : S45} {cs : List Value} (h : k45.K w x cs) : cs = [.int .i64 x.f0, .int .i64 x.f1] := by
 obtain ⟨_, _, rfl, rfl, rfl⟩ := h
 exact rfl
theorem k45_mk (w : World) (x : S45)  : k45.K w x [.int .i64 x.f0, .int .i64 x.f1] := ⟨[.int .i64 x.f0], [.int .i64 x.f1], rfl, rfl, rfl⟩
def rd_T45 (xs : List S45) (i : Int) : S45 := xs.getD i.toNat z45
theorem at_T45 {w : World} {A : Option Addr} {n : Nat} {xs : List S45} (h : Kd.C k45 w A n xs) (i : Int) (h0 : 0 ≤ i) (h1 : i < n) : ∃ ad , A = some ad ∧ w.cell? (ad.add (i.toNat * 2)) = some (.int .i64 (rd_T45 xs i).f0) ∧ w.cell? ⟨(ad.add (i.toNat * 2)).block, (ad.add (i.toNat * 2)).off + 1, none⟩ = some (.int .i64 (rd_T45 xs i).f1) := by
 obtain ⟨ad, c, e, _, hK, hc0⟩ := Kd.C_get h z45 i h0 h1
 have hc : ∀ j u, c[j]? = some u → w.cell? (ad.add (i.toNat * 2 + j)) = some u := hc0
 obtain rfl := k45_open hK
 exact ⟨ad, e, hc 0 _ rfl, by rw [← add_field _ _ 1 (by omega)]; exact hc 1 _ rfl⟩
/-! #### struct type 43 -/
structure S43 where
 f0 : Int
 f1 : Int
def z43 : S43 := ⟨(0 : Int), (0 : Int)⟩
def k43 : Kd S43 := Kd.iso (Kd.pair (Kd.int .i64) (Kd.int .i64)) (fun x : S43 => (x.f0, x.f1))
theorem k43_open {w : World} {x : S43} {cs : List Value} (h : k43.K w x cs) : cs = [.int .i64 x.f0, .int .i64 x.f1] := by
 obtain ⟨_, _, rfl, rfl, rfl⟩ := h
 exact rfl
theorem k43_openM {w : World} {base : Nat} {ok : Nat → Prop} {x : S43} {cs : List Value} (h : k43.M w base ok x cs) : cs = [.int .i64 x.f0, .int .i64 x.f1] := by
 obtain ⟨_, _, rfl, rfl, rfl⟩ := h
 exact rfl
theorem k43_mkM (w : World) (base : Nat) (ok : Nat → Prop) (x : S43)  : k43.M w base ok x [.int .i64 x.f0, .int .i64 x.f1] := ⟨[.int .i64 x.f0], [.int .i64 x.f1], rfl, rfl, rfl⟩
def rd_T43 (xs : List S43) (i : Int) : S43 := xs.getD i.toNat z43
theorem at_T43 {w : World} {A : Option Addr} {n : Nat} {xs : List S43} (h : Kd.C k43 w A n xs) (i : Int) (h0 : 0 ≤ i) (h1 : i < n) : ∃ ad , A = some ad ∧ w.cell? (ad.add (i.toNat * 2)) = some (.int .i64 (rd_T43 xs i).f0) ∧ w.cell? ⟨(ad.add (i.toNat * 2)).block, (ad.add (i.toNat * 2)).off + 1, none⟩ = some (.int .i64 (rd_T43 xs i).f1) := by
 obtain ⟨ad, c, e, _, hK, hc0⟩ := Kd.C_get h z43 i h0 h1
 have hc : ∀ j u, c[j]? = some u → w.cell? (ad.add (i.toNat * 2 + j)) = some u := hc0
 obtain rfl := k43_open hK
 exact ⟨ad, e, hc 0 _ rfl, by rw [← add_field _ _ 1 (by omega)]; exact hc 1 _ rfl⟩
/-! #### struct type 59 -/
structure S59 where
 f0 : Int
 f1 : Int
 f2 : Int
def z59 : S59 := ⟨(0 : Int), (0 : Int), (0 : Int)⟩
def k59 : Kd S59 := Kd.iso (Kd.pair (Kd.int .i64) (Kd.pair (Kd.int .i64) (Kd.int .i64))) (fun x : S59 => (x.f0, x.f1, x.f2))
theorem k59_open {w : World} {x : S59} {cs : List Value} (h : k59.K w x cs) : cs = [.int .i64 x.f0, .int .i64 x.f1, .int .i64 x.f2] := by
 obtain ⟨_, _, rfl, rfl, ⟨_, _, rfl, rfl, rfl⟩⟩ := h
 exact rfl
theorem k59_mkM (w : World) (base : Nat) (ok : Nat → Prop) (x : S59)  : k59.M w base ok x [.int .i64 x.f0, .int .i64 x.f1, .int .i64 x.f2] := ⟨[.int .i64 x.f0], [.int .i64 x.f1, .int .i64 x.f2], rfl, rfl, ⟨[.int .i64 x.f1], [.int .i64 x.f2], rfl, rfl, rfl⟩⟩
def rd_T59 (xs : List S59) (i : Int) : S59 := xs.getD i.toNat z59
theorem at_T59 {w : World} {A : Option Addr} {n : Nat} {xs : List S59} (h : Kd.C k59 w A n xs) (i : Int) (h0 : 0 ≤ i) (h1 : i < n) : ∃ ad , A = some ad ∧ w.cell? (ad.add (i.toNat * 3)) = some (.int .i64 (rd_T59 xs i).f0) ∧ w.cell? ⟨(ad.add (i.toNat * 3)).block, (ad.add (i.toNat * 3)).off + 1, none⟩ = some (.int .i64 (rd_T59 xs i).f1) ∧ w.cell? ⟨(ad.add (i.toNat * 3)).block, (ad.add (i.toNat * 3)).off + 2, none⟩ = some (.int .i64 (rd_T59 xs i).f2) := by
 obtain ⟨ad, c, e, _, hK, hc0⟩ := Kd.C_get h z59 i h0 h1
 have hc : ∀ j u, c[j]? = some u → w.cell? (ad.add (i.toNat * 3 + j)) = some u := hc0
 obtain rfl := k59_open hK
 exact ⟨ad, e, hc 0 _ rfl, by rw [← add_field _ _ 1 (by omega)]; exact hc 1 _ rfl, by rw [← add_field _ _ 2 (by omega)]; exact hc 2 _ rfl⟩
end Go.Proofs.Ythhgcdfdjlijjaa.PX
namespace Go.Proofs.Ythhgcdfdjlijjaa.G
open Go.RowKit Go.Proofs.YthhgcdfdjlijjaaW.PrintWords Go.Proofs.YthhgcdfdjlijjaaW.PrintLast Go.Proofs.YthhgcdfdjlijjaaW.PrintMore Go.Proofs.Ythhgcdfdjlijjaa.PX
set_option linter.unusedVariables false
set_option linter.unusedSimpArgs false
def farQ (x most : Int) : Bool := decide (x < wrap64 (-most)) || decide (most < x)
set_option maxHeartbeats 8000000 in
set_option maxRecDepth 100000 in
theorem near_pred (most : Int) (B : Nat) (w : World) (x y : Int) (hB : B < w.heap.size) (hc : w.cell? ⟨B, 0, none⟩ = some (.int .i64 most)) :
  Calls Try.prog 51 #[.agg #[.int .i64 x, .int .i64 y], .pointer (some ⟨B, 0, none⟩)] w fun e w' => e = .returned (.bool (farQ x most || farQ y most)) ∧ Below w.heap.size w w' := by
 have hu := Try.underlying43
 have hne : B ≠ w.heap.size := by omega
 go_enter Try.func51, Try.ntmps51
 go_wp2
 all_goals (go_ret; exact ⟨by unfold farQ; simp_all; try omega, (Below.refl _ w).alloc (Nat.le_refl _) _⟩)
def nearIdx (most : Int) (l : List S43) : Nat → Int → Int
 | 0, _ => -1
 | d + 1, i => if (farQ (rd_T43 l i).f0 most || farQ (rd_T43 l i).f1 most) = true then i else nearIdx most l d (i + 1)
set_option maxHeartbeats 8000000 in
set_option maxRecDepth 100000 in
theorem index_near (most : Int) (B : Nat) (w : World) (A : Option Addr) (c : Nat) (l : List S43) (hB : B < w.heap.size) (hc : w.cell? ⟨B, 0, none⟩ = some (.int .i64 most)) (hr : Kd.C k43 w A l.length l) (hl : l.length ≤ c) :
  Calls Try.prog 67 #[.slice A l.length c, .func (.func 51) #[] #[.pointer (some ⟨B, 0, none⟩)]] w fun e w' => e = .returned (.int .i64 (nearIdx most l l.length 0)) ∧ Below w.heap.size w w' := by
 have hu := Try.underlying43
 go_enter Try.func67, Try.ntmps67
 go_wp2
 have HR := Aside0.mk hr
 have HC := Aside0.mk hc
 have HB0 := Aside0.mk (Below.refl w.heap.size w)
 clear hr hc
 go_loopg [8] (l.length + 1) (fun kq v8 w' => ∃ (i : Nat), v8 = .int .i64 (i : Int) ∧ Aside0 (i + kq = l.length + 1) ∧ Aside0 (1 ≤ kq) ∧ Aside0 (nearIdx most l (l.length - i) (i : Int) = nearIdx most l l.length 0) ∧ Aside0 (Below w.heap.size w w'))
 case atStart => exact ⟨0, rfl, ⟨by omega⟩, ⟨by omega⟩, ⟨rfl⟩, HB0⟩
 case round =>
 obtain ⟨i, rfl, HI, HK, HN, HB⟩ := hrel
 cases gk with
 | zero => exact absurd HK.out (by omega)
 | succ k1 =>
 by_cases g : i < l.length
 ·have g' : decide ((i : Int) < (l.length : Int)) = true := decide_eq_true (by omega)
  obtain ⟨ad, e, hx0, hx1⟩ := at_T43 (Kd.C_below HR.out HB.out) (i : Int) (by omega) (by omega)
  cases e
  have hcw : wr.cell? ⟨B, 0, none⟩ = some (.int .i64 most) := (HB.out.cell (p := ⟨B, 0, none⟩) hB).trans HC.out
  simp only [Int.toNat_natCast] at hx0 hx1
  have hBw : B < wr.heap.size := Nat.lt_of_lt_of_le hB HB.out.size
  have hp := near_pred most B wr (rd_T43 l (i : Int)).f0 (rd_T43 l (i : Int)).f1 hBw hcw
  have hd : l.length - i = (l.length - (i + 1)) + 1 := by omega
  have HN' := HN.out
  rw [hd, nearIdx] at HN'
  cases hq : (farQ (rd_T43 l (i : Int)).f0 most || farQ (rd_T43 l (i : Int)).f1 most) with
  | true =>
   rw [hq] at hp
   rw [hq, if_pos rfl] at HN'
   have HN2 := Aside0.mk HN'
   clear HN'
   go_wp2_with (go_at_call 51; refine hp.mono ?_; rintro e w1 ⟨rfl, hb1⟩; have HB1 := Aside0.mk (HB.out.trans (hb1.mono HB.out.size)))
   go_ret
   exact ⟨by rw [← HN2.out]; rfl, HB1.out⟩
  | false =>
  rw [hq] at hp
  rw [hq, if_neg (by decide)] at HN'
  have HN2 := Aside0.mk HN'
  clear HN'
  go_wp2_with (go_at_call 51; refine hp.mono ?_; rintro e w1 ⟨rfl, hb1⟩; have HB1 := Aside0.mk (HB.out.trans (hb1.mono HB.out.size)))
  have wrap_i : wrap64 ((i : Int) + 1) = ((i + 1 : Nat) : Int) := by
   have hx := HR.out.2.1
   unfold wrap64
   omega
  go_roundg k1
  case measure => exact Nat.lt_succ_self _
  case rel => exact ⟨i + 1, by rw [wrap_i], ⟨by have := HI.out; omega⟩, ⟨by have := HI.out; omega⟩, HN2, HB1⟩
 have g' : decide ((i : Int) < (l.length : Int)) = false := decide_eq_false (by omega)
 have g2 : decide (i < l.length) = false := decide_eq_false g
 have g3 : l.length ≤ i := by omega
 go_wp2
 go_ret
 have e : l.length - i = 0 := by omega
 have HN' := HN.out
 rw [e] at HN'
 exact ⟨by rw [← HN']; rfl, HB.out⟩
set_option maxHeartbeats 8000000 in
set_option maxRecDepth 100000 in
theorem contains_near (most : Int) (B : Nat) (w : World) (A : Option Addr) (c : Nat) (l : List S43) (hB : B < w.heap.size) (hc : w.cell? ⟨B, 0, none⟩ = some (.int .i64 most)) (hr : Kd.C k43 w A l.length l) (hl : l.length ≤ c) :
  Calls Try.prog 50 #[.slice A l.length c, .func (.func 51) #[] #[.pointer (some ⟨B, 0, none⟩)]] w fun e w' => e = .returned (.bool (decide (0 ≤ nearIdx most l l.length 0))) ∧ Below w.heap.size w w' := by
 have hi := index_near most B w A c l hB hc hr hl
 generalize nearIdx most l l.length 0 = v at hi ⊢
 go_enter Try.func50, Try.ntmps50
 go_wp2_with (go_at_call 67; refine hi.mono ?_; rintro e w1 ⟨rfl, hb1⟩; have HB1 := Aside0.mk hb1; clear hb1)
 go_ret
 exact ⟨by first | rfl | simp, HB1.out⟩
def impl_areNear.f (most : Int) (l : List S43) : Option Bool := some (!decide (0 ≤ nearIdx most l l.length 0))
set_option maxHeartbeats 8000000 in
set_option maxRecDepth 100000 in
theorem impl_areNear.calls (a0 : Int) (A1 : Option Addr) (c1 : Nat) (l1 : List S43) (r : Bool) (w : World) (hr1 : Kd.C k43 w A1 l1.length l1) (hc1 : l1.length ≤ c1) (h : impl_areNear.f a0 l1 = some r) :
  Calls Try.prog 38 #[.int .i64 a0, .slice A1 l1.length c1] w fun e w' => e = .returned (.bool r) ∧ Below w.heap.size w w' := by
 obtain rfl := Option.some.inj h
 clear h
 have hcon := fun W h1 h2 h3 => contains_near a0 w.heap.size W A1 c1 l1 h1 h2 h3 hc1
 generalize nearIdx a0 l1 l1.length 0 = v at hcon ⊢
 have HR := Aside0.mk hr1
 have HC := Aside0.mk hcon
 clear hr1 hcon
 go_enter Try.func38, Try.ntmps38
 go_wp2_with (go_at_call 50; refine (HC.out _ ?h1 ?h2 ?h3).mono ?_; (case h1 => simp); (case h2 => simp); (case h3 => exact Kd.C_below HR.out ((Below.refl _ w).alloc (Nat.le_refl _) _)); rintro e w1 ⟨rfl, hb1⟩; have HB1 := Aside0.mk (((Below.refl w.heap.size w).alloc (Nat.le_refl _) _).trans (hb1.mono (by simp))); clear hb1)
 go_ret
 exact ⟨by first | rfl | simp, HB1.out⟩
end Go.Proofs.Ythhgcdfdjlijjaa.G
namespace Go.Proofs
open Go.Shelf
def Try.sortPt_ren : Go.Shelf.Ren := ⟨fun | 6 => 27 | 15 => 42 | 14 => 41 | 28 => 63 | 29 => 64 | 20 => 55 | 21 => 56 | 22 => 57 | 23 => 58 | 24 => 59 | 25 => 60 | 26 => 61 | 27 => 62 | 46 => 68 | 47 => 69 | 48 => 70 | 49 => 71 | 50 => 72 | 57 => 73 | n => n, fun | 22 => 24 | 24 => 43 | 25 => 49 | 3 => 3 | 39 => 62 | 0 => 0 | 53 => 87 | 55 => 89 | 4 => 4 | 46 => 80 | 45 => 79 | 50 => 84 | 5 => 5 | 9 => 9 | 66 => 93 | 70 => 97 | 76 => 99 | 77 => 100 | n => n, fun | n => n⟩
theorem Try.sortPt : Go.Proofs.SlLaysF0.n6 Try.prog Try.sortPt_ren := {
 mixed := by kernel_rfl
 f6 := ⟨Try.f27.name, by decide, Try.func27.trans (congrArg some (by kernel_rfl))⟩
 f14 := ⟨Try.f41.name, by decide, Try.func41.trans (congrArg some (by kernel_rfl))⟩
 f15 := Try.func42.trans (congrArg some (by kernel_rfl))
 f20 := ⟨Try.f55.name, by decide, Try.func55.trans (congrArg some (by kernel_rfl))⟩
 f21 := ⟨Try.f56.name, by decide, Try.func56.trans (congrArg some (by kernel_rfl))⟩
 f22 := ⟨Try.f57.name, by decide, Try.func57.trans (congrArg some (by kernel_rfl))⟩
 f23 := ⟨Try.f58.name, by decide, Try.func58.trans (congrArg some (by kernel_rfl))⟩
 f24 := ⟨Try.f59.name, by decide, Try.func59.trans (congrArg some (by kernel_rfl))⟩
 f25 := ⟨Try.f60.name, by decide, Try.func60.trans (congrArg some (by kernel_rfl))⟩
 f26 := ⟨Try.f61.name, by decide, Try.func61.trans (congrArg some (by kernel_rfl))⟩
 f27 := ⟨Try.f62.name, by decide, Try.func62.trans (congrArg some (by kernel_rfl))⟩
 f28 := Try.func63.trans (congrArg some (by kernel_rfl))
 f29 := Try.func64.trans (congrArg some (by kernel_rfl))
 f46 := ⟨Try.f68.name, by decide, Try.func68.trans (congrArg some (by kernel_rfl))⟩
 f47 := Try.func69.trans (congrArg some (by kernel_rfl))
 f48 := Try.func70.trans (congrArg some (by kernel_rfl))
 f49 := ⟨Try.f71.name, by decide, Try.func71.trans (congrArg some (by kernel_rfl))⟩
 f50 := ⟨Try.f72.name, by decide, Try.func72.trans (congrArg some (by kernel_rfl))⟩
 f57 := ⟨Try.f73.name, by decide, Try.func73.trans (congrArg some (by kernel_rfl))⟩
 t0 := Try.underlying0
 a0 := Try.isAgg0
 z0 := Try.sizeOf0
 v0 := Try.zeroValue0
 t3 := Try.underlying3
 a3 := Try.isAgg3
 z3 := Try.sizeOf3
 v3 := Try.zeroValue3
 t4 := Try.underlying4
 a4 := Try.isAgg4
 z4 := Try.sizeOf4
 v4 := Try.zeroValue4
 t5 := Try.underlying5
 a5 := Try.isAgg5
 z5 := Try.sizeOf5
 v5 := Try.zeroValue5
 t9 := Try.underlying9
 a9 := Try.isAgg9
 z9 := Try.sizeOf9
 v9 := Try.zeroValue9
 t22 := Try.underlying24
 a22 := Try.isAgg24
 z22 := Try.sizeOf24
 v22 := Try.zeroValue24
 t25 := Try.underlying49
 a25 := Try.isAgg49
 z25 := Try.sizeOf49
 v25 := Try.zeroValue49
 t39 := Try.underlying62
 a39 := Try.isAgg62
 z39 := Try.sizeOf62
 v39 := Try.zeroValue62
 t45 := Try.underlying79
 a45 := Try.isAgg79
 z45 := Try.sizeOf79
 v45 := Try.zeroValue79
 t46 := Try.underlying80
 a46 := Try.isAgg80
 z46 := Try.sizeOf80
 v46 := Try.zeroValue80
 t50 := Try.underlying84
 a50 := Try.isAgg84
 z50 := Try.sizeOf84
 v50 := Try.zeroValue84
 t53 := Try.underlying87
 a53 := Try.isAgg87
 z53 := Try.sizeOf87
 v53 := Try.zeroValue87
 t55 := Try.underlying89
 a55 := Try.isAgg89
 z55 := Try.sizeOf89
 v55 := Try.zeroValue89
 t66 := Try.underlying93
 a66 := Try.isAgg93
 z66 := Try.sizeOf93
 v66 := Try.zeroValue93
 t70 := Try.underlying97
 a70 := Try.isAgg97
 z70 := Try.sizeOf97
 v70 := Try.zeroValue97
 t76 := Try.underlying99
 a76 := Try.isAgg99
 z76 := Try.sizeOf99
 v76 := Try.zeroValue99
 t77 := Try.underlying100
 a77 := Try.isAgg100
 z77 := Try.sizeOf100
 v77 := Try.zeroValue100 }
def Try.clonePt_ren : Go.Shelf.Ren := ⟨fun | 41 => 26 | n => n, fun | 22 => 24 | 23 => 43 | 4 => 4 | n => n, fun | n => n⟩
theorem Try.clonePt : Go.Proofs.SlLaysE0.n41 Try.prog Try.clonePt_ren := {
 mixed := by kernel_rfl
 f41 := ⟨Try.f26.name, by decide, Try.func26.trans (congrArg some (by kernel_rfl))⟩
 t4 := Try.underlying4
 a4 := Try.isAgg4
 z4 := Try.sizeOf4
 v4 := Try.zeroValue4
 t22 := Try.underlying24
 a22 := Try.isAgg24
 z22 := Try.sizeOf24
 v22 := Try.zeroValue24 }
def Try.bitsLen_ren : Go.Shelf.Ren := ⟨fun | 125 => 42 | 128 => 63 | 129 => 64 | n => n, fun | 46 => 62 | 3 => 3 | 51 => 87 | 53 => 89 | 4 => 4 | 5 => 5 | 9 => 9 | n => n, fun | n => n⟩
theorem Try.bitsLen : Go.Proofs.Lays.n125 Try.prog Try.bitsLen_ren := {
 mixed := by kernel_rfl
 f125 := Try.func42.trans (congrArg some (by kernel_rfl))
 f128 := Try.func63.trans (congrArg some (by kernel_rfl))
 f129 := Try.func64.trans (congrArg some (by kernel_rfl))
 t3 := Try.underlying3
 a3 := Try.isAgg3
 z3 := Try.sizeOf3
 v3 := Try.zeroValue3
 t4 := Try.underlying4
 a4 := Try.isAgg4
 z4 := Try.sizeOf4
 v4 := Try.zeroValue4
 t5 := Try.underlying5
 a5 := Try.isAgg5
 z5 := Try.sizeOf5
 v5 := Try.zeroValue5
 t9 := Try.underlying9
 a9 := Try.isAgg9
 z9 := Try.sizeOf9
 v9 := Try.zeroValue9
 t46 := Try.underlying62
 a46 := Try.isAgg62
 z46 := Try.sizeOf62
 v46 := Try.zeroValue62
 t51 := Try.underlying87
 a51 := Try.isAgg87
 z51 := Try.sizeOf87
 v51 := Try.zeroValue87
 t53 := Try.underlying89
 a53 := Try.isAgg89
 z53 := Try.sizeOf89
 v53 := Try.zeroValue89 }
end Go.Proofs
namespace Go.Proofs.Ythhgcdfdjlijjaa.PX
open Go.RowKit Go.Proofs.Ythhgcdfdjlijjaa.G Go.Proofs.YthhgcdfdjlijjaaW.PrintWords Go.Proofs.YthhgcdfdjlijjaaW.PrintLast Go.Proofs.YthhgcdfdjlijjaaW.PrintMore
attribute [local go_sem] max2_int min2_int max_two min_two max_three min_three max_four min_four   -- for this text's walks alone
set_option linter.unusedVariables false
set_option linter.unusedSimpArgs false
/-! ### cmp_isNaN_int: function 43 -/
def cmp_isNaN_int.f (a0 : Int) : Option (Bool) := some (a0 != a0)
set_option maxHeartbeats 8000000 in
set_option maxRecDepth 100000 in
theorem cmp_isNaN_int.calls (a0 : Int) (r : Bool) (w : World) (h : cmp_isNaN_int.f a0 = some r) :
  Calls Try.prog 43 #[.int .i64 a0] w fun e w' => e = .returned (.bool r) ∧ Drawn0 w w' := by
 have H : (some (a0 != a0)) = some r := h
 clear h
 obtain rfl := Option.some.inj H
 go_enter Try.func43, Try.ntmps43
 go_wp2
 go_ret
 exact ⟨by first | rfl | (simp; done) | (simp [*]; done), by repeat (first | exact Drawn0.refl _ | apply Drawn0.step)⟩
/-! ### cmp_Compare_int: function 30 -/
def cmp_Compare_int.f (a0 : Int) (a1 : Int) : Option (Int) := (cmp_isNaN_int.f a0).bind fun t176 => ((cmp_isNaN_int.f a1).bind fun t177 => (if t176 = true then (if t177 = true then (some 0) else (some (-1))) else (if t177 = true then (some 1) else (if a0 < a1 then (some (-1)) else (if a0 > a1 then (some 1) else (some 0))))))
set_option maxHeartbeats 8000000 in
set_option maxRecDepth 100000 in
theorem cmp_Compare_int.calls (a0 : Int) (a1 : Int) (r : Int) (w : World) (h : cmp_Compare_int.f a0 a1 = some r) :
  Calls Try.prog 30 #[.int .i64 a0, .int .i64 a1] w fun e w' => e = .returned (.int .i64 r) ∧ Drawn0 w w' := by
 have H : ((cmp_isNaN_int.f a0).bind fun t176 => ((cmp_isNaN_int.f a1).bind fun t177 => (if t176 = true then (if t177 = true then (some 0) else (some (-1))) else (if t177 = true then (some 1) else (if a0 < a1 then (some (-1)) else (if a0 > a1 then (some 1) else (some 0))))))) = some r := h
 clear h
 obtain ⟨t176, A3, H⟩ := zO H
 obtain ⟨t177, A4, H⟩ := zO H
 by_cases c5 : t176 = true
 ·subst c5
  replace H := (if_pos rfl).symm.trans H
  by_cases c6 : t177 = true
  ·subst c6
   replace H := (if_pos rfl).symm.trans H
   obtain rfl := Option.some.inj H
   go_enter Try.func30, Try.ntmps30
   go_wp2_with (first | ((with_reducible refine gate_callee (f := 43) rfl ?_); refine zD (some 8) Try.func43 #[.int .i64 a0] ?_; (with_reducible refine (cmp_isNaN_int.calls a0 true _ A3.out).mono ?_); rintro e w' ⟨rfl, ⟨nd, rfl⟩⟩; refine ⟨_, rfl, ?_⟩) | ((with_reducible refine gate_callee (f := 43) rfl ?_); refine zD (some 10) Try.func43 #[.int .i64 a1] ?_; (with_reducible refine (cmp_isNaN_int.calls a1 true _ A4.out).mono ?_); rintro e w' ⟨rfl, ⟨nd, rfl⟩⟩; refine ⟨_, rfl, ?_⟩))
   go_ret
   exact ⟨by first | rfl | (simp; done) | (simp [*]; done), by repeat (first | exact Drawn0.refl _ | apply Drawn0.step)⟩
  replace c6 := Bool.eq_false_iff.mpr c6
  subst c6
  replace H := (if_neg zFf).symm.trans H
  obtain rfl := Option.some.inj H
  go_enter Try.func30, Try.ntmps30
  go_wp2_with (first | ((with_reducible refine gate_callee (f := 43) rfl ?_); refine zD (some 8) Try.func43 #[.int .i64 a0] ?_; (with_reducible refine (cmp_isNaN_int.calls a0 true _ A3.out).mono ?_); rintro e w' ⟨rfl, ⟨nd, rfl⟩⟩; refine ⟨_, rfl, ?_⟩) | ((with_reducible refine gate_callee (f := 43) rfl ?_); refine zD (some 10) Try.func43 #[.int .i64 a1] ?_; (with_reducible refine (cmp_isNaN_int.calls a1 false _ A4.out).mono ?_); rintro e w' ⟨rfl, ⟨nd, rfl⟩⟩; refine ⟨_, rfl, ?_⟩))
  go_ret
  exact ⟨by first | rfl | (simp; done) | (simp [*]; done), by repeat (first | exact Drawn0.refl _ | apply Drawn0.step)⟩
 replace c5 := Bool.eq_false_iff.mpr c5
 subst c5
 replace H := (if_neg zFf).symm.trans H
 by_cases c7 : t177 = true
 ·subst c7
  replace H := (if_pos rfl).symm.trans H
  obtain rfl := Option.some.inj H
  go_enter Try.func30, Try.ntmps30
  go_wp2_with (first | ((with_reducible refine gate_callee (f := 43) rfl ?_); refine zD (some 8) Try.func43 #[.int .i64 a0] ?_; (with_reducible refine (cmp_isNaN_int.calls a0 false _ A3.out).mono ?_); rintro e w' ⟨rfl, ⟨nd, rfl⟩⟩; refine ⟨_, rfl, ?_⟩) | ((with_reducible refine gate_callee (f := 43) rfl ?_); refine zD (some 10) Try.func43 #[.int .i64 a1] ?_; (with_reducible refine (cmp_isNaN_int.calls a1 true _ A4.out).mono ?_); rintro e w' ⟨rfl, ⟨nd, rfl⟩⟩; refine ⟨_, rfl, ?_⟩))
  go_ret
  exact ⟨by first | rfl | (simp; done) | (simp [*]; done), by repeat (first | exact Drawn0.refl _ | apply Drawn0.step)⟩
 replace c7 := Bool.eq_false_iff.mpr c7
 subst c7
 replace H := (if_neg zFf).symm.trans H
 by_cases c8 : a0 < a1
 ·rw [if_pos c8] at H
  have c8b0 := decide_eq_true c8
  clear c8
  obtain rfl := Option.some.inj H
  go_enter Try.func30, Try.ntmps30
  go_wp2_with (first | ((with_reducible refine gate_callee (f := 43) rfl ?_); refine zD (some 8) Try.func43 #[.int .i64 a0] ?_; (with_reducible refine (cmp_isNaN_int.calls a0 false _ A3.out).mono ?_); rintro e w' ⟨rfl, ⟨nd, rfl⟩⟩; refine ⟨_, rfl, ?_⟩) | ((with_reducible refine gate_callee (f := 43) rfl ?_); refine zD (some 10) Try.func43 #[.int .i64 a1] ?_; (with_reducible refine (cmp_isNaN_int.calls a1 false _ A4.out).mono ?_); rintro e w' ⟨rfl, ⟨nd, rfl⟩⟩; refine ⟨_, rfl, ?_⟩))
  go_ret
  exact ⟨by first | rfl | (simp; done) | (simp [*]; done), by repeat (first | exact Drawn0.refl _ | apply Drawn0.step)⟩
 rw [if_neg c8] at H
 have c8b0 := decide_eq_false c8
 clear c8
 by_cases c9 : a0 > a1
 ·rw [if_pos c9] at H
  have c9b0 : decide (a1 < a0) = true := decide_eq_true c9
  clear c9
  obtain rfl := Option.some.inj H
  go_enter Try.func30, Try.ntmps30
  go_wp2_with (first | ((with_reducible refine gate_callee (f := 43) rfl ?_); refine zD (some 8) Try.func43 #[.int .i64 a0] ?_; (with_reducible refine (cmp_isNaN_int.calls a0 false _ A3.out).mono ?_); rintro e w' ⟨rfl, ⟨nd, rfl⟩⟩; refine ⟨_, rfl, ?_⟩) | ((with_reducible refine gate_callee (f := 43) rfl ?_); refine zD (some 10) Try.func43 #[.int .i64 a1] ?_; (with_reducible refine (cmp_isNaN_int.calls a1 false _ A4.out).mono ?_); rintro e w' ⟨rfl, ⟨nd, rfl⟩⟩; refine ⟨_, rfl, ?_⟩))
  go_ret
  exact ⟨by first | rfl | (simp; done) | (simp [*]; done), by repeat (first | exact Drawn0.refl _ | apply Drawn0.step)⟩
 rw [if_neg c9] at H
 have c9b0 : decide (a1 < a0) = false := decide_eq_false c9
 clear c9
 obtain rfl := Option.some.inj H
 go_enter Try.func30, Try.ntmps30
 go_wp2_with (first | ((with_reducible refine gate_callee (f := 43) rfl ?_); refine zD (some 8) Try.func43 #[.int .i64 a0] ?_; (with_reducible refine (cmp_isNaN_int.calls a0 false _ A3.out).mono ?_); rintro e w' ⟨rfl, ⟨nd, rfl⟩⟩; refine ⟨_, rfl, ?_⟩) | ((with_reducible refine gate_callee (f := 43) rfl ?_); refine zD (some 10) Try.func43 #[.int .i64 a1] ?_; (with_reducible refine (cmp_isNaN_int.calls a1 false _ A4.out).mono ?_); rintro e w' ⟨rfl, ⟨nd, rfl⟩⟩; refine ⟨_, rfl, ?_⟩))
 go_ret
 exact ⟨by first | rfl | (simp; done) | (simp [*]; done), by repeat (first | exact Drawn0.refl _ | apply Drawn0.step)⟩
/-! ### impl_triplesOf: function 39 -/
mutual
def impl_triplesOf.l0 : Nat → Int → List (S59) → Int → Option ((List (S59)))
 | 0, _, _, _ => none
 | k + 1, x0, x3, x4 => if x4 < x0 then (impl_triplesOf.l1 k x0 x3 x4 (wrap64 (x4 + 1))) else (some x3)
def impl_triplesOf.l1 : Nat → Int → List (S59) → Int → Int → Option ((List (S59)))
 | 0, _, _, _, _ => none
 | k + 1, x0, x3, x4, x5 => if x5 < x0 then (impl_triplesOf.l2 k x0 x3 x4 x5 (wrap64 (x5 + 1))) else (impl_triplesOf.l0 k x0 x3 (wrap64 (x4 + 1)))
def impl_triplesOf.l2 : Nat → Int → List (S59) → Int → Int → Int → Option ((List (S59)))
 | 0, _, _, _, _, _ => none
 | k + 1, x0, x3, x4, x5, x6 => if x6 < x0 then (if x3.length < 5864062014805 then (impl_triplesOf.l2 k x0 (x3 ++ [(⟨x4, x5, x6⟩ : S59)]) x4 x5 (wrap64 (x6 + 1))) else (none)) else (impl_triplesOf.l1 k x0 x3 x4 (wrap64 (x5 + 1)))
end
def impl_triplesOf.f (k : Nat) (a0 : Int) : Option ((List (S59))) := impl_triplesOf.l0 k a0 ([] : List (S59)) 0
theorem impl_triplesOf.mono_l : ∀ k, (∀ y0 y1 y2, LeO (impl_triplesOf.l0 k y0 y1 y2) (impl_triplesOf.l0 (k + 1) y0 y1 y2)) ∧ (∀ y0 y1 y2 y3, LeO (impl_triplesOf.l1 k y0 y1 y2 y3) (impl_triplesOf.l1 (k + 1) y0 y1 y2 y3)) ∧ (∀ y0 y1 y2 y3 y4, LeO (impl_triplesOf.l2 k y0 y1 y2 y3 y4) (impl_triplesOf.l2 (k + 1) y0 y1 y2 y3 y4))
 | 0 => ⟨fun _ _ _ r h => by simp [impl_triplesOf.l0] at h, fun _ _ _ _ r h => by simp [impl_triplesOf.l1] at h, fun _ _ _ _ _ r h => by simp [impl_triplesOf.l2] at h⟩
 | k + 1 => by
  obtain ⟨ih0, ih1, ih2⟩ := impl_triplesOf.mono_l k
  refine ⟨?_, ?_, ?_⟩ <;> intros <;> (first | unfold impl_triplesOf.l0 | unfold impl_triplesOf.l1 | unfold impl_triplesOf.l2) <;> repeat' first
  | (with_reducible first | exact ih0 .. | exact ih1 .. | exact ih2 .. | exact LeO.refl _ | exact LeO.none _ | refine LeO.ite ?_ ?_ | refine LeO.bind ?_ (fun _ => ?_))
  | exact ih0 .. | exact ih1 .. | exact ih2 .. | exact LeO.none _ | refine LeO.ite ?_ ?_ | refine LeO.bind ?_ (fun _ => ?_)
theorem impl_triplesOf.mono : ∀ a0 k, LeO (impl_triplesOf.f k a0) (impl_triplesOf.f (k + 1) a0) := by
 intro a0 k
 obtain ⟨ih0, ih1, ih2⟩ := impl_triplesOf.mono_l k
 unfold impl_triplesOf.f
 repeat' first
   | (with_reducible first | exact ih0 .. | exact ih1 .. | exact ih2 .. | exact LeO.refl _ | exact LeO.none _ | refine LeO.ite ?_ ?_ | refine LeO.bind ?_ (fun _ => ?_))
   | exact ih0 .. | exact ih1 .. | exact ih2 .. | exact LeO.none _ | refine LeO.ite ?_ ?_ | refine LeO.bind ?_ (fun _ => ?_)
set_option maxHeartbeats 8000000 in
set_option maxRecDepth 100000 in
theorem impl_triplesOf.calls (k : Nat) (a0 : Int) (r : List (S59)) (w : World) (h : impl_triplesOf.f k a0 = some r) :
  Calls Try.prog 39 #[.int .i64 a0] w fun e w' => ∃ v0_ : Value, e = .returned (v0_) ∧ Kd.R k59 59 w' w.heap.size (fun _ => True) v0_ r ∧ Below w.heap.size w w' := by
 have hu59 := Try.underlying59
 have HB := Aside0.mk (Below.refl w.heap.size w)
 have H : (impl_triplesOf.l0 k a0 ([] : List (S59)) 0) = some r := h
 clear h
 have H' := Aside0.mk H; clear H
 go_enter Try.func39, Try.ntmps39
 go_wp2
 go_loopg [3, 4] k (fun kq v3 v4 w' => ∃ (x3_1 : List (S59)) (x4_1 : Int), v4 = .int .i64 x4_1 ∧ Aside0 (impl_triplesOf.l0 kq a0 x3_1 x4_1 = some r) ∧ Aside0 (kq ≤ k) ∧ Aside0 (Kd.R k59 59 w' w.heap.size (fun _ => True) v3 x3_1) ∧ Aside0 (Below w.heap.size w w'))
 case atStart => exact ⟨(([] : List (S59))), (0), zF, H', ⟨Nat.le_refl _⟩, ⟨by first | exact Kd.R_nil _ _ _ _ _ | exact Kd.N_nil _ _ _ _ _ | exact Kd.V_nil _ _ _ _ _ | exact Kd.Q_nil _ _ _ _ _ | exact Kd.S_nil _ _ _ _ _⟩, ⟨zB⟩⟩
 case round =>
 clear H'
 obtain ⟨x3_1, x4_1, rfl, HA, HK1, HO_3, HB⟩ := hrel
 cases gk with
 | zero => exact absurd HA.out (by simp [impl_triplesOf.l0])
 | succ k1 =>
 have H := HA.out
 clear HA
 simp only [impl_triplesOf.l0] at H
 by_cases c2 : x4_1 < a0
 ·rw [if_pos c2] at H
  have c2b0 := decide_eq_true c2
  clear c2
  have H' := Aside0.mk H; clear H
  go_wp2
  go_loopg [3, 5] k1 (fun kq v3 v5 w' => ∃ (x3_2 : List (S59)) (x5_2 : Int), v5 = .int .i64 x5_2 ∧ Aside0 (impl_triplesOf.l1 kq a0 x3_2 x4_1 x5_2 = some r) ∧ Aside0 (kq ≤ k1) ∧ Aside0 (Kd.R k59 59 w' w.heap.size (fun _ => True) v3 x3_2) ∧ Aside0 (Below w.heap.size w w'))
  case atStart => exact ⟨(x3_1), (wrap64 (x4_1 + 1)), zF, H', ⟨Nat.le_refl _⟩, ⟨zR HO_3.out⟩, ⟨zB⟩⟩
  case round =>
  clear H'
  try clear c2
  try clear c2b0
  obtain ⟨x3_2, x5_2, rfl, HA, HK2, HO_3, HB⟩ := hrel
  cases gk with
  | zero => exact absurd HA.out (by simp [impl_triplesOf.l1])
  | succ k2 =>
  have H := HA.out
  clear HA
  simp only [impl_triplesOf.l1] at H
  by_cases c3 : x5_2 < a0
  ·rw [if_pos c3] at H
   have c3b0 := decide_eq_true c3
   clear c3
   have H' := Aside0.mk H; clear H
   go_wp2
   go_loopg [3, 6] k2 (fun kq v3 v6 w' => ∃ (x3_3 : List (S59)) (x6_3 : Int), v6 = .int .i64 x6_3 ∧ Aside0 (impl_triplesOf.l2 kq a0 x3_3 x4_1 x5_2 x6_3 = some r) ∧ Aside0 (kq ≤ k2) ∧ Aside0 (Kd.R k59 59 w' w.heap.size (fun _ => True) v3 x3_3) ∧ Aside0 (Below w.heap.size w w'))
   case atStart => exact ⟨(x3_2), (wrap64 (x5_2 + 1)), zF, H', ⟨Nat.le_refl _⟩, ⟨zR HO_3.out⟩, ⟨zB⟩⟩
   case round =>
   clear H'
   try clear c2
   try clear c2b0
   try clear c3
   try clear c3b0
   obtain ⟨x3_3, x6_3, rfl, HA, HK3, HO_3, HB⟩ := hrel
   cases gk with
   | zero => exact absurd HA.out (by simp [impl_triplesOf.l2])
   | succ k3 =>
   have H := HA.out
   clear HA
   simp only [impl_triplesOf.l2] at H
   by_cases c4 : x6_3 < a0
   ·rw [if_pos c4] at H
    have c4b0 := decide_eq_true c4
    clear c4
    by_cases c5 : x3_3.length < 5864062014805
    ·rw [if_pos c5] at H
     have LMc5 := Aside0.mk c5
     clear c5
     obtain ⟨y173, hy173⟩ : ∃ y_ : List (S59), y_ = (x3_3 ++ [(⟨x4_1, x5_2, x6_3⟩ : S59)]) := ⟨_, rfl⟩
     replace H : (impl_triplesOf.l2 k3 a0 y173 x4_1 x5_2 (wrap64 (x6_3 + 1))) = some r := by first | (rw [hy173]; with_reducible exact H) | (have H2_ := (Option.bind_some _ _).symm.trans H; rw [hy173]; with_reducible exact H2_) | (have H2_ := (Option.bind_some _ _).symm.trans H; with_reducible exact H2_) | with_reducible exact H | (rw [hy173]; exact H) | exact H
     have Ny173 := Aside0.mk hy173
     clear hy173
     have H' := Aside0.mk H; clear H
     go_wp2_with (first | ((with_reducible refine gate_builtin (b := .append) (xs := #[.tmp 26, .tmp 31]) rfl ?_); at_builtin; refine Kd.R_append k59 (w0 := w) w.heap.size rfl (.tmp 26) (.tmp 31) 57 59 (.agg #[(.int .i64 0), (.int .i64 0), (.int .i64 0)]) 24 rfl Try.underlying57 info59 rfl (by decide) (by omega) u3 x3_3 (⟨x4_1, x5_2, x6_3⟩ : S59) [.int .i64 x4_1, .int .i64 x5_2, .int .i64 x6_3] (fun _ => True) (fun _ => False) rfl rfl ?aP (fun _ hk => hk.elim) ?aF ?aO ?aB ?aS ?aL ?_; (case aP => exact k59_mkM _ _ _ (⟨x4_1, x5_2, x6_3⟩ : S59)); (case aB => exact zB); (case aF => exact (fun _ _ => trivial)); (case aO => exact (zR HO_3.out)); (case aS => exact (below_size zB)); (case aL => have := LMc5.out; omega); intro v174 w6 ho hb hg hat; rw [← Ny173.out] at ho; have n0_ := Aside0.mk (hb); have n1_ := Aside0.mk (ho); clear HB; clear HO_3; have HB := n0_; have HO175 := n1_; clear n0_ n1_; clear ho hb hg hat))
     go_roundg k3
     case measure => have := HK1.out; have := HK2.out; have := HK3.out; omega
     case rel => exact ⟨(y173), (wrap64 (x6_3 + 1)), zF, H', ⟨by have := HK1.out; have := HK2.out; have := HK3.out; omega⟩, ⟨zR HO175.out⟩, ⟨zB⟩⟩
    rw [if_neg c5] at H
    exact absurd H (by simp)
   rw [if_neg c4] at H
   have c4b0 := decide_eq_false c4
   clear c4
   have H' := Aside0.mk H; clear H
   go_wp2
   go_roundg k3
   case measure => have := HK1.out; have := HK2.out; have := HK3.out; omega
   case rel => exact ⟨(x3_3), (wrap64 (x5_2 + 1)), zF, H', ⟨by have := HK1.out; have := HK2.out; have := HK3.out; omega⟩, ⟨zR HO_3.out⟩, ⟨zB⟩⟩
  rw [if_neg c3] at H
  have c3b0 := decide_eq_false c3
  clear c3
  have H' := Aside0.mk H; clear H
  go_wp2
  go_roundg k2
  case measure => have := HK1.out; have := HK2.out; omega
  case rel => exact ⟨(x3_2), (wrap64 (x4_1 + 1)), zF, H', ⟨by have := HK1.out; have := HK2.out; omega⟩, ⟨zR HO_3.out⟩, ⟨zB⟩⟩
 rw [if_neg c2] at H
 have c2b0 := decide_eq_false c2
 clear c2
 obtain rfl := Option.some.inj H
 go_wp2
 go_ret
 exact ⟨_, zE, zR HO_3.out, zB⟩
/-! ### impl_signOf: function 53 -/
def impl_signOf.f (a0 : Int) : Option (Int) := (cmp_Compare_int.f a0 0).bind fun t178 => (some t178)
set_option maxHeartbeats 8000000 in
set_option maxRecDepth 100000 in
theorem impl_signOf.calls (a0 : Int) (r : Int) (w : World) (h : impl_signOf.f a0 = some r) :
  Calls Try.prog 53 #[.int .i64 a0] w fun e w' => e = .returned (.int .i64 r) ∧ Drawn0 w w' := by
 have H : ((cmp_Compare_int.f a0 0).bind fun t178 => (some t178)) = some r := h
 clear h
 obtain ⟨t178, A2, H⟩ := zO H
 obtain rfl := Option.some.inj H
 go_enter Try.func53, Try.ntmps53
 go_wp2_with (first | ((with_reducible refine gate_callee (f := 30) rfl ?_); refine zD (some 4) Try.func30 #[.int .i64 a0, .int .i64 0] ?_; (with_reducible refine (cmp_Compare_int.calls a0 0 t178 _ A2.out).mono ?_); rintro e w' ⟨rfl, ⟨nd, rfl⟩⟩; refine ⟨_, rfl, ?_⟩))
 go_ret
 exact ⟨by first | rfl | (simp; done) | (simp [*]; done), by repeat (first | exact Drawn0.refl _ | apply Drawn0.step)⟩
/-! ### impl_area: function 54 -/
def impl_area.f (a0_0 : Int) (a0_1 : Int) (a1_0 : Int) (a1_1 : Int) (a2_0 : Int) (a2_1 : Int) : Option (Int) := some (wrap64 ((wrap64 ((wrap64 (a1_0 - a0_0)) * (wrap64 (a2_1 - a0_1)))) - (wrap64 ((wrap64 (a1_1 - a0_1)) * (wrap64 (a2_0 - a0_0))))))
set_option maxHeartbeats 8000000 in
set_option maxRecDepth 100000 in
theorem impl_area.calls (a0_0 : Int) (a0_1 : Int) (a1_0 : Int) (a1_1 : Int) (a2_0 : Int) (a2_1 : Int) (r : Int) (w : World) (h : impl_area.f a0_0 a0_1 a1_0 a1_1 a2_0 a2_1 = some r) :
  Calls Try.prog 54 #[.agg #[.int .i64 a0_0, .int .i64 a0_1], .agg #[.int .i64 a1_0, .int .i64 a1_1], .agg #[.int .i64 a2_0, .int .i64 a2_1]] w fun e w' => e = .returned (.int .i64 r) ∧ Below w.heap.size w w' := by
 have hu43 := Try.underlying43
 have HB := Aside0.mk (Below.refl w.heap.size w)
 have H : (some (wrap64 ((wrap64 ((wrap64 (a1_0 - a0_0)) * (wrap64 (a2_1 - a0_1)))) - (wrap64 ((wrap64 (a1_1 - a0_1)) * (wrap64 (a2_0 - a0_0))))))) = some r := h
 clear h
 obtain rfl := Option.some.inj H
 go_enter Try.func54, Try.ntmps54
 go_wp2_with (first | ((with_reducible refine gate_dst (N := 3) rfl ?_); refine zBx (N := 3) #[.int .i64 a0_0, .int .i64 a0_1] 43 ?_; intro gb179 hg w4 hbox hb; have BK179 := Aside0.mk (hbox); have GW179 := zS hg; have GE179 := zS hg; replace HB := zX hb; clear hb hbox hg) | ((with_reducible refine gate_dst (N := 4) rfl ?_); refine zBx (N := 4) #[.int .i64 a1_0, .int .i64 a1_1] 43 ?_; intro gb180 hg w5 hbox hb; have BK180 := Aside0.mk (hbox); have GW180 := zSg hg (zG GE179.out); have GE180 := zSg hg (zG GE179.out); have NB179_180 := zL hg BK179.out; have NB180_179 := zLg hg BK179.out; replace BK179 := zV BK179.out hb; replace HB := zX1 GE179.out hb; clear hb hbox hg) | ((with_reducible refine gate_dst (N := 5) rfl ?_); refine zBx (N := 5) #[.int .i64 a2_0, .int .i64 a2_1] 43 ?_; intro gb181 hg w6 hbox hb; have BK181 := Aside0.mk (hbox); have GW181 := zSg hg (zG2 GE179.out GE180.out); have GE181 := zSg hg (zG2 GE179.out GE180.out); have NB179_181 := zL hg BK179.out; have NB181_179 := zLg hg BK179.out; replace BK179 := zV BK179.out hb; have NB180_181 := zL hg BK180.out; have NB181_180 := zLg hg BK180.out; replace BK180 := zV BK180.out hb; replace HB := Aside0.mk (below_step (zG2 GE179.out GE180.out) hb); clear hb hbox hg; have hnb7 := NB180_179.out; have hnc7 := NB179_180.out; have hnb8 := NB180_181.out; have hnc8 := NB181_180.out; obtain ⟨hcz9_0, hcz9_1, hfz9_0, hfz9_1⟩ := zq2 BK180.out; have hnb10 := NB179_181.out; have hnc10 := NB181_179.out; obtain ⟨hcz11_0, hcz11_1, hfz11_0, hfz11_1⟩ := zq2 BK179.out; obtain ⟨hcz12_0, hcz12_1, hfz12_0, hfz12_1⟩ := zq2 BK181.out))
 go_ret
 exact ⟨zE, zG3 GE179.out GE180.out GE181.out⟩
/-! ### impl_TurnOf: function 40 -/
def impl_TurnOf.f (a0_0 : Int) (a0_1 : Int) (a1_0 : Int) (a1_1 : Int) (a2_0 : Int) (a2_1 : Int) : Option (Int) := (impl_areNear.f 1000 (([(⟨a0_0, a0_1⟩ : S43), (⟨a1_0, a1_1⟩ : S43), (⟨a2_0, a2_1⟩ : S43)] : List (S43)))).bind fun t188 => (if t188 = true then ((impl_area.f a0_0 a0_1 a1_0 a1_1 a2_0 a2_1).bind fun t189 => ((impl_signOf.f t189).bind fun t190 => (some t190))) else (some 0))
set_option maxHeartbeats 8000000 in
set_option maxRecDepth 100000 in
theorem impl_TurnOf.calls (a0_0 : Int) (a0_1 : Int) (a1_0 : Int) (a1_1 : Int) (a2_0 : Int) (a2_1 : Int) (r : Int) (w : World) (h : impl_TurnOf.f a0_0 a0_1 a1_0 a1_1 a2_0 a2_1 = some r) :
  Calls Try.prog 40 #[.agg #[.int .i64 a0_0, .int .i64 a0_1], .agg #[.int .i64 a1_0, .int .i64 a1_1], .agg #[.int .i64 a2_0, .int .i64 a2_1]] w fun e w' => e = .returned (.int .i64 r) ∧ Below w.heap.size w w' := by
 have hu43 := Try.underlying43
 have HB := Aside0.mk (Below.refl w.heap.size w)
 have H : ((impl_areNear.f 1000 (([(⟨a0_0, a0_1⟩ : S43), (⟨a1_0, a1_1⟩ : S43), (⟨a2_0, a2_1⟩ : S43)] : List (S43)))).bind fun t188 => (if t188 = true then ((impl_area.f a0_0 a0_1 a1_0 a1_1 a2_0 a2_1).bind fun t189 => ((impl_signOf.f t189).bind fun t190 => (some t190))) else (some 0))) = some r := h
 clear h
 obtain ⟨y185, hy185⟩ : ∃ y_ : List (S43), y_ = (([(⟨a0_0, a0_1⟩ : S43), (⟨a1_0, a1_1⟩ : S43), (⟨a2_0, a2_1⟩ : S43)] : List (S43))) := ⟨_, rfl⟩
 replace H : ((impl_areNear.f 1000 y185).bind fun t188 => (if t188 = true then ((impl_area.f a0_0 a0_1 a1_0 a1_1 a2_0 a2_1).bind fun t189 => ((impl_signOf.f t189).bind fun t190 => (some t190))) else (some 0))) = some r := by first | (rw [hy185]; with_reducible exact H) | (have H2_ := (Option.bind_some _ _).symm.trans H; rw [hy185]; with_reducible exact H2_) | (have H2_ := (Option.bind_some _ _).symm.trans H; with_reducible exact H2_) | with_reducible exact H | (rw [hy185]; exact H) | exact H
 have Ny185 := Aside0.mk hy185
 clear hy185
 obtain ⟨t188, A4, H⟩ := zO H
 by_cases c5 : t188 = true
 ·subst c5
  replace H := (if_pos rfl).symm.trans H
  obtain ⟨t189, A6, H⟩ := zO H
  obtain ⟨t190, A7, H⟩ := zO H
  obtain rfl := Option.some.inj H
  go_enter Try.func40, Try.ntmps40
  go_wp2_with (first | ((with_reducible refine gate_dst (N := 3) rfl ?_); refine zBx (N := 3) #[.int .i64 a0_0, .int .i64 a0_1] 43 ?_; intro gb182 hg w8 hbox hb; have BK182 := Aside0.mk (hbox); have GW182 := zS hg; have GE182 := zS hg; replace HB := zX hb; clear hb hbox hg) | ((with_reducible refine gate_dst (N := 4) rfl ?_); refine zBx (N := 4) #[.int .i64 a1_0, .int .i64 a1_1] 43 ?_; intro gb183 hg w9 hbox hb; have BK183 := Aside0.mk (hbox); have GW183 := zSg hg (zG GE182.out); have GE183 := zSg hg (zG GE182.out); have NB182_183 := zL hg BK182.out; have NB183_182 := zLg hg BK182.out; replace BK182 := zV BK182.out hb; replace HB := zX1 GE182.out hb; clear hb hbox hg) | ((with_reducible refine gate_dst (N := 5) rfl ?_); refine zBx (N := 5) #[.int .i64 a2_0, .int .i64 a2_1] 43 ?_; intro gb184 hg w10 hbox hb; have BK184 := Aside0.mk (hbox); have GW184 := zSg hg (zG2 GE182.out GE183.out); have GE184 := zSg hg (zG2 GE182.out GE183.out); have NB182_184 := zL hg BK182.out; have NB184_182 := zLg hg BK182.out; replace BK182 := zV BK182.out hb; have NB183_184 := zL hg BK183.out; have NB184_183 := zLg hg BK183.out; replace BK183 := zV BK183.out hb; replace HB := Aside0.mk (below_step (zG2 GE182.out GE183.out) hb); clear hb hbox hg; have hnb11 := NB182_183.out; have hnc11 := NB183_182.out; have hnb12 := NB182_184.out; have hnc12 := NB184_182.out; obtain ⟨hcz13_0, hcz13_1, hfz13_0, hfz13_1⟩ := zq2 BK182.out; have hnb14 := NB183_184.out; have hnc14 := NB184_183.out; obtain ⟨hcz15_0, hcz15_1, hfz15_0, hfz15_1⟩ := zq2 BK183.out; obtain ⟨hcz16_0, hcz16_1, hfz16_0, hfz16_1⟩ := zq2 BK184.out) | ((with_reducible refine gate_dst (N := 10) rfl ?_); refine Kd.R_lit k43 _ 43 ?hg (N := 10) ?hd (xs := ([(⟨a0_0, a0_1⟩ : S43), (⟨a1_0, a1_1⟩ : S43), (⟨a2_0, a2_1⟩ : S43)] : List (S43))) (inner := [.int .i64 a0_0, .int .i64 a0_1, .int .i64 a1_0, .int .i64 a1_1, .int .i64 a2_0, .int .i64 a2_1]) (ok := fun _ => True) (okp := fun _ => True) ?hr ?hp (fun _ hk => hk) trivial (Below.refl _ _) (Nat.le_refl _) (by simp) ?_; (case hd => rfl); (case hg => rfl); (case hr => first | (go_simp; done) | (go_simp; rfl)); (case hp => exact (Reps.c2 (show Kd.M k43 _ _ _ (⟨a0_0, a0_1⟩ : S43) [.int .i64 a0_0, .int .i64 a0_1] from (k43_mkM _ _ _ (⟨a0_0, a0_1⟩ : S43) )) (Reps.c2 (show Kd.M k43 _ _ _ (⟨a1_0, a1_1⟩ : S43) [.int .i64 a1_0, .int .i64 a1_1] from (k43_mkM _ _ _ (⟨a1_0, a1_1⟩ : S43) )) (Reps.c2 (show Kd.M k43 _ _ _ (⟨a2_0, a2_1⟩ : S43) [.int .i64 a2_0, .int .i64 a2_1] from (k43_mkM _ _ _ (⟨a2_0, a2_1⟩ : S43) )) (Reps.none _ _))))); intro v186 w17 ho18 hb hg_ hnew_; clear hg_ hnew_; (first | rw [← Ny185.out] at ho18 | (simp only [Int.reduceToNat] at ho18; rw [← Ny185.out] at ho18)); have HO187 := Aside0.mk (Kd.R_lower (Kd.R_newB (Kd.R_newB (Kd.R_newB ho18 (g := gb182) (o := .cells #[.int .i64 a0_0, .int .i64 a0_1] 43 (0, 0)) (zK BK182.out)) (g := gb183) (o := .cells #[.int .i64 a1_0, .int .i64 a1_1] 43 (0, 0)) (zK BK183.out)) (g := gb184) (o := .cells #[.int .i64 a2_0, .int .i64 a2_1] 43 (0, 0)) (zK BK184.out)) (below_size (zG3 GE182.out GE183.out GE184.out))); replace BK182 := zV BK182.out hb; replace BK183 := zV BK183.out hb; replace BK184 := zV BK184.out hb; replace HB := Aside0.mk (below_step (zG3 GE182.out GE183.out GE184.out) hb); clear hb ho18; obtain ⟨Ao19, co19, eo19⟩ := Kd.R_slice HO187.out; subst eo19) | ((with_reducible refine gate_callee (f := 38) rfl ?_); refine zD (some 11) Try.func38 #[.int .i64 1000, .slice Ao19 y185.length co19] ?_; (with_reducible refine (impl_areNear.calls 1000 _ _ y185 true _ ?side1 ?side2 A4.out).mono ?_); (case side1 => repeat (first | exact (Kd.R_reads' HO187.out).2.2 | (with_reducible refine Kd.C_alloc ?_ _) | (with_reducible refine Kd.C_drewN ?_ _) | (with_reducible refine Kd.C_drew ?_))); (case side2 => exact (Kd.R_reads' HO187.out).2.1); rintro e w20 ⟨rfl, hb⟩; refine ⟨_, rfl, ?_⟩; replace HO187 := zW HO187.out hb; replace BK182 := zV BK182.out hb; replace BK183 := zV BK183.out hb; replace BK184 := zV BK184.out hb; replace HB := Aside0.mk (below_step (zG3 GE182.out GE183.out GE184.out) hb); (try clear hb); obtain ⟨hcz21_0, hcz21_1, hfz21_0, hfz21_1⟩ := zq2 BK182.out; obtain ⟨hcz22_0, hcz22_1, hfz22_0, hfz22_1⟩ := zq2 BK183.out; obtain ⟨hcz23_0, hcz23_1, hfz23_0, hfz23_1⟩ := zq2 BK184.out) | ((with_reducible refine gate_callee (f := 54) rfl ?_); refine zD (some 16) Try.func54 #[.agg #[.int .i64 a0_0, .int .i64 a0_1], .agg #[.int .i64 a1_0, .int .i64 a1_1], .agg #[.int .i64 a2_0, .int .i64 a2_1]] ?_; (with_reducible refine (impl_area.calls a0_0 a0_1 a1_0 a1_1 a2_0 a2_1 t189 _ A6.out).mono ?_); rintro e w24 ⟨rfl, hb⟩; refine ⟨_, rfl, ?_⟩; replace HO187 := zW HO187.out hb; replace BK182 := zV BK182.out hb; replace BK183 := zV BK183.out hb; replace BK184 := zV BK184.out hb; replace HB := Aside0.mk (below_step (zG3 GE182.out GE183.out GE184.out) hb); (try clear hb)) | ((with_reducible refine gate_callee (f := 53) rfl ?_); refine zD (some 17) Try.func53 #[.int .i64 t189] ?_; (with_reducible refine (impl_signOf.calls t189 t190 _ A7.out).mono ?_); rintro e w' ⟨rfl, ⟨nd, rfl⟩⟩; refine ⟨_, rfl, ?_⟩))
  go_ret
  exact ⟨zE, zG3 GE182.out GE183.out GE184.out⟩
 replace c5 := Bool.eq_false_iff.mpr c5
 subst c5
 replace H := (if_neg zFf).symm.trans H
 obtain rfl := Option.some.inj H
 go_enter Try.func40, Try.ntmps40
 go_wp2_with (first | ((with_reducible refine gate_dst (N := 3) rfl ?_); refine zBx (N := 3) #[.int .i64 a0_0, .int .i64 a0_1] 43 ?_; intro gb182 hg w25 hbox hb; have BK182 := Aside0.mk (hbox); have GW182 := zS hg; have GE182 := zS hg; replace HB := zX hb; clear hb hbox hg) | ((with_reducible refine gate_dst (N := 4) rfl ?_); refine zBx (N := 4) #[.int .i64 a1_0, .int .i64 a1_1] 43 ?_; intro gb183 hg w26 hbox hb; have BK183 := Aside0.mk (hbox); have GW183 := zSg hg (zG GE182.out); have GE183 := zSg hg (zG GE182.out); have NB182_183 := zL hg BK182.out; have NB183_182 := zLg hg BK182.out; replace BK182 := zV BK182.out hb; replace HB := zX1 GE182.out hb; clear hb hbox hg) | ((with_reducible refine gate_dst (N := 5) rfl ?_); refine zBx (N := 5) #[.int .i64 a2_0, .int .i64 a2_1] 43 ?_; intro gb184 hg w27 hbox hb; have BK184 := Aside0.mk (hbox); have GW184 := zSg hg (zG2 GE182.out GE183.out); have GE184 := zSg hg (zG2 GE182.out GE183.out); have NB182_184 := zL hg BK182.out; have NB184_182 := zLg hg BK182.out; replace BK182 := zV BK182.out hb; have NB183_184 := zL hg BK183.out; have NB184_183 := zLg hg BK183.out; replace BK183 := zV BK183.out hb; replace HB := Aside0.mk (below_step (zG2 GE182.out GE183.out) hb); clear hb hbox hg; have hnb28 := NB182_183.out; have hnc28 := NB183_182.out; have hnb29 := NB182_184.out; have hnc29 := NB184_182.out; obtain ⟨hcz30_0, hcz30_1, hfz30_0, hfz30_1⟩ := zq2 BK182.out; have hnb31 := NB183_184.out; have hnc31 := NB184_183.out; obtain ⟨hcz32_0, hcz32_1, hfz32_0, hfz32_1⟩ := zq2 BK183.out; obtain ⟨hcz33_0, hcz33_1, hfz33_0, hfz33_1⟩ := zq2 BK184.out) | ((with_reducible refine gate_dst (N := 10) rfl ?_); refine Kd.R_lit k43 _ 43 ?hg (N := 10) ?hd (xs := ([(⟨a0_0, a0_1⟩ : S43), (⟨a1_0, a1_1⟩ : S43), (⟨a2_0, a2_1⟩ : S43)] : List (S43))) (inner := [.int .i64 a0_0, .int .i64 a0_1, .int .i64 a1_0, .int .i64 a1_1, .int .i64 a2_0, .int .i64 a2_1]) (ok := fun _ => True) (okp := fun _ => True) ?hr ?hp (fun _ hk => hk) trivial (Below.refl _ _) (Nat.le_refl _) (by simp) ?_; (case hd => rfl); (case hg => rfl); (case hr => first | (go_simp; done) | (go_simp; rfl)); (case hp => exact (Reps.c2 (show Kd.M k43 _ _ _ (⟨a0_0, a0_1⟩ : S43) [.int .i64 a0_0, .int .i64 a0_1] from (k43_mkM _ _ _ (⟨a0_0, a0_1⟩ : S43) )) (Reps.c2 (show Kd.M k43 _ _ _ (⟨a1_0, a1_1⟩ : S43) [.int .i64 a1_0, .int .i64 a1_1] from (k43_mkM _ _ _ (⟨a1_0, a1_1⟩ : S43) )) (Reps.c2 (show Kd.M k43 _ _ _ (⟨a2_0, a2_1⟩ : S43) [.int .i64 a2_0, .int .i64 a2_1] from (k43_mkM _ _ _ (⟨a2_0, a2_1⟩ : S43) )) (Reps.none _ _))))); intro v186 w34 ho35 hb hg_ hnew_; clear hg_ hnew_; (first | rw [← Ny185.out] at ho35 | (simp only [Int.reduceToNat] at ho35; rw [← Ny185.out] at ho35)); have HO187 := Aside0.mk (Kd.R_lower (Kd.R_newB (Kd.R_newB (Kd.R_newB ho35 (g := gb182) (o := .cells #[.int .i64 a0_0, .int .i64 a0_1] 43 (0, 0)) (zK BK182.out)) (g := gb183) (o := .cells #[.int .i64 a1_0, .int .i64 a1_1] 43 (0, 0)) (zK BK183.out)) (g := gb184) (o := .cells #[.int .i64 a2_0, .int .i64 a2_1] 43 (0, 0)) (zK BK184.out)) (below_size (zG3 GE182.out GE183.out GE184.out))); replace BK182 := zV BK182.out hb; replace BK183 := zV BK183.out hb; replace BK184 := zV BK184.out hb; replace HB := Aside0.mk (below_step (zG3 GE182.out GE183.out GE184.out) hb); clear hb ho35; obtain ⟨Ao36, co36, eo36⟩ := Kd.R_slice HO187.out; subst eo36) | ((with_reducible refine gate_callee (f := 38) rfl ?_); refine zD (some 11) Try.func38 #[.int .i64 1000, .slice Ao36 y185.length co36] ?_; (with_reducible refine (impl_areNear.calls 1000 _ _ y185 false _ ?side1 ?side2 A4.out).mono ?_); (case side1 => repeat (first | exact (Kd.R_reads' HO187.out).2.2 | (with_reducible refine Kd.C_alloc ?_ _) | (with_reducible refine Kd.C_drewN ?_ _) | (with_reducible refine Kd.C_drew ?_))); (case side2 => exact (Kd.R_reads' HO187.out).2.1); rintro e w37 ⟨rfl, hb⟩; refine ⟨_, rfl, ?_⟩; replace HO187 := zW HO187.out hb; replace BK182 := zV BK182.out hb; replace BK183 := zV BK183.out hb; replace BK184 := zV BK184.out hb; replace HB := Aside0.mk (below_step (zG3 GE182.out GE183.out GE184.out) hb); (try clear hb)))
 go_ret
 exact ⟨zE, zG3 GE182.out GE183.out GE184.out⟩
/-! ### impl_ArePoints: function 25 -/
mutual
def impl_ArePoints.j0 : Nat → List (S43) → Bool → Option (Bool)
 | 0, _, _ => none
 | k + 1, x0, x17 => if x17 = true then (some false) else ((impl_triplesOf.f k (x0.length : Int)).bind fun t192 => (impl_ArePoints.l0 k x0 t192 (t192.length : Int) 0))
def impl_ArePoints.l0 : Nat → List (S43) → List (S59) → Int → Int → Option (Bool)
 | 0, _, _, _, _ => none
 | k + 1, x0, x20, x21, x22 => if x22 < x21 then (if 0 ≤ x22 then (if x22 < (x20.length : Int) then (if 0 ≤ ((rd_T59 x20 x22).f0) then (if ((rd_T59 x20 x22).f0) < (x0.length : Int) then (if 0 ≤ ((rd_T59 x20 x22).f1) then (if ((rd_T59 x20 x22).f1) < (x0.length : Int) then (if 0 ≤ ((rd_T59 x20 x22).f2) then (if ((rd_T59 x20 x22).f2) < (x0.length : Int) then ((impl_TurnOf.f ((rd_T43 x0 ((rd_T59 x20 x22).f0)).f0) ((rd_T43 x0 ((rd_T59 x20 x22).f0)).f1) ((rd_T43 x0 ((rd_T59 x20 x22).f1)).f0) ((rd_T43 x0 ((rd_T59 x20 x22).f1)).f1) ((rd_T43 x0 ((rd_T59 x20 x22).f2)).f0) ((rd_T43 x0 ((rd_T59 x20 x22).f2)).f1)).bind fun t200 => (if t200 = 0 then (some false) else (impl_ArePoints.l0 k x0 x20 x21 (wrap64 (x22 + 1))))) else (none)) else (none)) else (none)) else (none)) else (none)) else (none)) else (none)) else (none)) else (some true)
end
def impl_ArePoints.f (k : Nat) (l0 : List (S43)) : Option (Bool) := if (l0.length : Int) < 3 then (impl_ArePoints.j0 k l0 true) else (if (l0.length : Int) > 7 then (impl_ArePoints.j0 k l0 true) else ((impl_areNear.f 50 l0).bind fun t191 => (impl_ArePoints.j0 k l0 (!t191))))
theorem impl_ArePoints.mono_l : ∀ k, (∀ y0 y1, LeO (impl_ArePoints.j0 k y0 y1) (impl_ArePoints.j0 (k + 1) y0 y1)) ∧ (∀ y0 y1 y2 y3, LeO (impl_ArePoints.l0 k y0 y1 y2 y3) (impl_ArePoints.l0 (k + 1) y0 y1 y2 y3))
 | 0 => ⟨fun _ _ r h => by simp [impl_ArePoints.j0] at h, fun _ _ _ _ r h => by simp [impl_ArePoints.l0] at h⟩
 | k + 1 => by
  obtain ⟨ih0, ih1⟩ := impl_ArePoints.mono_l k
  refine ⟨?_, ?_⟩ <;> intros <;> (first | unfold impl_ArePoints.j0 | unfold impl_ArePoints.l0) <;> repeat' first
  | (with_reducible first | exact ih0 .. | exact ih1 .. | exact impl_triplesOf.mono .. | exact LeO.refl _ | exact LeO.none _ | refine LeO.ite ?_ ?_ | refine LeO.bind ?_ (fun _ => ?_))
  | exact ih0 .. | exact ih1 .. | exact impl_triplesOf.mono .. | exact LeO.none _ | refine LeO.ite ?_ ?_ | refine LeO.bind ?_ (fun _ => ?_)
theorem impl_ArePoints.mono : ∀ a0 k, LeO (impl_ArePoints.f k a0) (impl_ArePoints.f (k + 1) a0) := by
 intro a0 k
 obtain ⟨ih0, ih1⟩ := impl_ArePoints.mono_l k
 unfold impl_ArePoints.f
 repeat' first
   | (with_reducible first | exact ih0 .. | exact ih1 .. | exact impl_triplesOf.mono .. | exact LeO.refl _ | exact LeO.none _ | refine LeO.ite ?_ ?_ | refine LeO.bind ?_ (fun _ => ?_))
   | exact ih0 .. | exact ih1 .. | exact impl_triplesOf.mono .. | exact LeO.none _ | refine LeO.ite ?_ ?_ | refine LeO.bind ?_ (fun _ => ?_)
def impl_ArePoints.T6 : Bool × List (List Nat × List Nat) := (true, [([], []), ([], []), ([1], [1]), ([0, 2], [0, 2]), ([3], [3]), ([], []), ([], []), ([6], [6]), ([5, 7], [5, 7]), ([8], [8]), ([], []), ([], []), ([11], [11]), ([10, 12], [10, 12]), ([13], [13]), ([4, 9, 14], [4, 9, 14]), ([15], [15])])
def impl_ArePoints.B6 : List Nat := [0, 0, 2, 7, 15, 0, 0, 64, 224, 480, 0, 0, 2048, 7168, 15360, 32767, 65535]
theorem impl_ArePoints.tab6 : rtab .any (opsOf Try.f25 6) = impl_ArePoints.T6 := by kernel_rfl
theorem impl_ArePoints.bits6 : waitsOk impl_ArePoints.T6.2 impl_ArePoints.B6 = true := by kernel_rfl
set_option maxHeartbeats 8000000 in
set_option maxRecDepth 100000 in
theorem impl_ArePoints.calls (k : Nat) (A0 : Option Addr) (c0 : Nat) (l0 : List (S43)) (r : Bool) (w : World) (hr0 : Kd.C k43 w A0 l0.length l0) (hc0 : l0.length ≤ c0) (h : impl_ArePoints.f k l0 = some r) :
  Calls Try.prog 25 #[.slice A0 l0.length c0] w fun e w' => e = .returned (.bool r) ∧ Below w.heap.size w w' := by
 have hu59 := Try.underlying59
 have hu43 := Try.underlying43
 have HR0 := Aside0.mk hr0
 have HC0 := Aside0.mk hc0
 clear hr0 hc0
 have HB := Aside0.mk (Below.refl w.heap.size w)
 have H : (if (l0.length : Int) < 3 then (impl_ArePoints.j0 k l0 true) else (if (l0.length : Int) > 7 then (impl_ArePoints.j0 k l0 true) else ((impl_areNear.f 50 l0).bind fun t191 => (impl_ArePoints.j0 k l0 (!t191))))) = some r := h
 clear h
 have HC2 := Aside0.mk H
 clear H
 go_enter Try.func25, Try.ntmps25
 go_upto_region 1 with (fail)
 go_cut [17] (fun v17 wc => ∃ (kq : Nat) (x17_1 : Bool), v17 = .bool x17_1 ∧ Aside0 (impl_ArePoints.j0 kq l0 x17_1 = some r) ∧ Aside0 (kq ≤ k) ∧ Aside0 (Below w.heap.size w wc))
 case first =>
  have H := HC2.out
  clear HC2
  by_cases c3 : (l0.length : Int) < 3
  ·rw [if_pos c3] at H
   have c3b0 := decide_eq_true c3
   have c3b1 : decide (l0.length < 3) = true := decide_eq_true (by omega)
   clear c3
   (first | rw [c3b0] | (simp only [i64_w, i32_w]; rw [c3b0]) | skip)
   have H' := Aside0.mk H; clear H
   go_wp2
   go_meet
   case rel => exact ⟨_, (true), zF, H', ⟨by first | omega | exact Nat.le_refl _⟩, ⟨zB⟩⟩
  rw [if_neg c3] at H
  have c3b0 := decide_eq_false c3
  have c3b1 : decide (l0.length < 3) = false := decide_eq_false (by omega)
  clear c3
  (first | rw [c3b0] | (simp only [i64_w, i32_w]; rw [c3b0]) | skip)
  by_cases c4 : (l0.length : Int) > 7
  ·rw [if_pos c4] at H
   have c4b0 : decide (7 < (l0.length : Int)) = true := decide_eq_true c4
   have c4b1 : decide (7 < l0.length) = true := decide_eq_true (by omega)
   clear c4
   have H' := Aside0.mk H; clear H
   go_wp2
   go_meet
   case rel => exact ⟨_, (true), zF, H', ⟨by first | omega | exact Nat.le_refl _⟩, ⟨zB⟩⟩
  rw [if_neg c4] at H
  have c4b0 : decide (7 < (l0.length : Int)) = false := decide_eq_false c4
  have c4b1 : decide (7 < l0.length) = false := decide_eq_false (by omega)
  clear c4
  obtain ⟨t191, A5, H⟩ := zO H
  have H' := Aside0.mk H; clear H
  go_wp2_with (first | (go_at_call 38; (with_reducible refine (impl_areNear.calls 50 _ _ l0 t191 _ ?side1 ?side2 A5.out).mono ?_); (case side1 => repeat (first | exact (Kd.C_below HR0.out HB.out) | (with_reducible refine Kd.C_alloc ?_ _) | (with_reducible refine Kd.C_drewN ?_ _) | (with_reducible refine Kd.C_drew ?_))); (case side2 => exact HC0.out); rintro e w6 ⟨rfl, hb⟩; replace HB := zX hb; (try clear hb); (try clear hb2); (try clear hk); (try clear hi)))
  go_meet
  case rel => exact ⟨_, (!t191), zF, H', ⟨by first | omega | exact Nat.le_refl _⟩, ⟨zB⟩⟩
 case rest =>
 clear HC2
 obtain ⟨kq, x17_1, rfl, HA, HJ1, HB⟩ := hcut
 cases kq with
 | zero => exact absurd HA.out (by simp [impl_ArePoints.j0])
 | succ kj1 =>
 have H := HA.out
 clear HA
 simp only [impl_ArePoints.j0] at H
 by_cases c7 : x17_1 = true
 ·subst c7
  replace H := (if_pos rfl).symm.trans H
  obtain rfl := Option.some.inj H
  go_wp2
  go_ret
  exact ⟨zE, zB⟩
 replace c7 := Bool.eq_false_iff.mpr c7
 subst c7
 replace H := (if_neg zFf).symm.trans H
 obtain ⟨t192, A8, H⟩ := zO H
 have H' := Aside0.mk H; clear H
 go_wp2_with (first | ((with_reducible refine gate_callee (f := 39) rfl ?_); refine zD (some 20) Try.func39 #[.int .i64 (l0.length : Int)] ?_; (with_reducible refine (impl_triplesOf.calls kj1 (l0.length : Int) t192 _ A8.out).mono ?_); rintro e w9 ⟨v193, rfl, ho0, hb⟩; refine ⟨_, rfl, ?_⟩; have HO194 := Aside0.mk (Kd.R_lower ho0 (below_size zB)); replace HB := zX hb; (try clear hb); (try clear ho0); obtain ⟨Ao10, co10, eo10⟩ := Kd.R_slice HO194.out; subst eo10))
 go_loopg [22] kj1 (fun kq v22 w' => ∃ (x22_2 : Int), v22 = .int .i64 x22_2 ∧ Aside0 (impl_ArePoints.l0 kq l0 t192 (t192.length : Int) x22_2 = some r) ∧ Aside0 (kq ≤ kj1) ∧ Aside0 (Kd.R k59 59 w' w.heap.size (fun _ => True) (.slice Ao10 t192.length co10) t192) ∧ Aside0 (Below w.heap.size w w'))
 case atStart => exact ⟨(0), zF, H', ⟨Nat.le_refl _⟩, ⟨zR HO194.out⟩, ⟨zB⟩⟩
 case round =>
 clear H'
 try clear c7
 obtain ⟨x22_2, rfl, HA, HK2, HO_20, HB⟩ := hrel
 cases gk with
 | zero => exact absurd HA.out (by simp [impl_ArePoints.l0])
 | succ k2 =>
 have H := HA.out
 clear HA
 simp only [impl_ArePoints.l0] at H
 by_cases c11 : x22_2 < (t192.length : Int)
 ·rw [if_pos c11] at H
  have c11b0 := decide_eq_true c11
  clear c11
  by_cases c12 : 0 ≤ x22_2
  ·rw [if_pos c12] at H
   have c12b0 := decide_eq_true c12
   clear c12
   by_cases c13 : x22_2 < (t192.length : Int)
   ·rw [if_pos c13] at H
    have c13b0 := decide_eq_true c13
    clear c13
    by_cases c14 : 0 ≤ ((rd_T59 t192 x22_2).f0)
    ·rw [if_pos c14] at H
     have c14b0 := decide_eq_true c14
     clear c14
     by_cases c15 : ((rd_T59 t192 x22_2).f0) < (l0.length : Int)
     ·rw [if_pos c15] at H
      have c15b0 := decide_eq_true c15
      clear c15
      by_cases c16 : 0 ≤ ((rd_T59 t192 x22_2).f1)
      ·rw [if_pos c16] at H
       have c16b0 := decide_eq_true c16
       clear c16
       by_cases c17 : ((rd_T59 t192 x22_2).f1) < (l0.length : Int)
       ·rw [if_pos c17] at H
        have c17b0 := decide_eq_true c17
        clear c17
        by_cases c18 : 0 ≤ ((rd_T59 t192 x22_2).f2)
        ·rw [if_pos c18] at H
         have c18b0 := decide_eq_true c18
         clear c18
         by_cases c19 : ((rd_T59 t192 x22_2).f2) < (l0.length : Int)
         ·rw [if_pos c19] at H
          have c19b0 := decide_eq_true c19
          clear c19
          obtain ⟨t200, A20, H⟩ := zO H
          by_cases c21 : t200 = 0
          ·rw [if_pos c21] at H
           have c21b0 := beq_iff_eq.mpr c21
           have c21b1 := bne_eq_false_iff_eq.mpr c21
           clear c21
           obtain rfl := Option.some.inj H
           have p195 : 0 ≤ (x22_2 : Int) := zA
           have q195 : x22_2 < (t192.length : Int) := zA
           obtain ⟨ad195, e195, hx195_0, hx195_1, hx195_2⟩ := at_T59 (Kd.R_reads' HO_20.out).2.2 x22_2 p195 q195
           cases e195
           replace p195 := eq_true p195
           replace q195 := eq_true q195
           try go_wp2_with (first | ((with_reducible refine gate_dst (N := 4) rfl ?_); (try (refine gate_guard (by rfl) ?_; dsimp only)); refine zBx (N := 4) #[.int .i64 0, .int .i64 0, .int .i64 0] 59 ?_; intro gb196 hg w22 hbox hb; replace HO_20 := Aside0.mk (Kd.R_below (Kd.R_elderB (zR HO_20.out) gb196 (Nat.le_of_eq hg.symm)) hb); have BK196 := Aside0.mk (hbox); have GW196 := zS hg; have GE196 := zS hg; replace HB := zX hb; clear hb hbox hg; obtain ⟨hcz23_0, hcz23_1, hcz23_2, hfz23_0, hfz23_1, hfz23_2⟩ := zq3 BK196.out))
           have n0_ : Aside0 (Kd.R k59 59 (((w22.setCell ⟨gb196, 0, none⟩ (.int .i64 ((rd_T59 t192 x22_2).f0))).setCell ⟨gb196, 1, none⟩ (.int .i64 ((rd_T59 t192 x22_2).f1))).setCell ⟨gb196, 2, none⟩ (.int .i64 ((rd_T59 t192 x22_2).f2))) w.heap.size (fun k_ => k_ ≠ gb196) (.slice (some ad195) t192.length co10) t192) := ⟨by (with_reducible repeat (first | apply Kd.R_alloc | apply Kd.R_drewN | apply Kd.R_drew)); exact Kd.R_mono (Kd.R_far (p := ⟨gb196, 2, none⟩) (Kd.R_far (p := ⟨gb196, 1, none⟩) (Kd.R_far (p := ⟨gb196, 0, none⟩) (Kd.R_mono HO_20.out (fun k_ hk => (⟨hk, hk.2⟩ : _ ∧ k_ ≠ gb196))) (fun _ hk => hk.2) (.int .i64 ((rd_T59 t192 x22_2).f0))) (fun _ hk => hk.2) (.int .i64 ((rd_T59 t192 x22_2).f1))) (fun _ hk => hk.2) (.int .i64 ((rd_T59 t192 x22_2).f2))) (fun _ hk => hk.1.2)⟩
           have n1_ : Aside0 ((((w22.setCell ⟨gb196, 0, none⟩ (.int .i64 ((rd_T59 t192 x22_2).f0))).setCell ⟨gb196, 1, none⟩ (.int .i64 ((rd_T59 t192 x22_2).f1))).setCell ⟨gb196, 2, none⟩ (.int .i64 ((rd_T59 t192 x22_2).f2))).heap[gb196]? = some (.cells #[.int .i64 ((rd_T59 t192 x22_2).f0), .int .i64 ((rd_T59 t192 x22_2).f1), .int .i64 ((rd_T59 t192 x22_2).f2)] 59 (0, 0))) := ⟨zk0 BK196.out⟩
           have n2_ : Aside0 (Below w.heap.size w (((w22.setCell ⟨gb196, 0, none⟩ (.int .i64 ((rd_T59 t192 x22_2).f0))).setCell ⟨gb196, 1, none⟩ (.int .i64 ((rd_T59 t192 x22_2).f1))).setCell ⟨gb196, 2, none⟩ (.int .i64 ((rd_T59 t192 x22_2).f2)))) := ⟨zG GE196.out⟩
           (try clear HO_20)
           (try clear BK196)
           (try clear HB)
           generalize (((w22.setCell ⟨gb196, 0, none⟩ (.int .i64 ((rd_T59 t192 x22_2).f0))).setCell ⟨gb196, 1, none⟩ (.int .i64 ((rd_T59 t192 x22_2).f1))).setCell ⟨gb196, 2, none⟩ (.int .i64 ((rd_T59 t192 x22_2).f2))) = w24 at n0_ n1_ n2_ ⊢
           have HO_20 := n0_
           have BK196 := n1_
           have HB := n2_
           clear n0_ n1_ n2_
           replace HO_20 := Aside0.mk (Kd.R_drew HO_20.out)
           replace BK196 := Aside0.mk (blk_drew BK196.out)
           replace HB := Aside0.mk (below_drew1 HB.out)
           have p197 : 0 ≤ (((rd_T59 t192 x22_2).f0) : Int) := zA
           have q197 : ((rd_T59 t192 x22_2).f0) < (l0.length : Int) := zA
           obtain ⟨ad197, e197, hx197_0, hx197_1⟩ := at_T43 HR0.out ((rd_T59 t192 x22_2).f0) p197 q197
           have hw197_1 := hx197_1
           have hw197_0 := hx197_0
           cases e197
           replace hx197_0 := (HB.out.cell (World.block_lt_of_cell? w _ hx197_0)).trans hx197_0
           replace hx197_1 := (HB.out.cell (World.block_lt_of_cell? w _ hx197_1)).trans hx197_1
           replace p197 := eq_true p197
           replace q197 := eq_true q197
           have p198 : 0 ≤ (((rd_T59 t192 x22_2).f1) : Int) := zA
           have q198 : ((rd_T59 t192 x22_2).f1) < (l0.length : Int) := zA
           obtain ⟨ad198, e198, hx198_0, hx198_1⟩ := at_T43 HR0.out ((rd_T59 t192 x22_2).f1) p198 q198
           have hw198_1 := hx198_1
           have hw198_0 := hx198_0
           obtain rfl : ad197 = ad198 := (by injection e198)
           replace hx198_0 := (HB.out.cell (World.block_lt_of_cell? w _ hx198_0)).trans hx198_0
           replace hx198_1 := (HB.out.cell (World.block_lt_of_cell? w _ hx198_1)).trans hx198_1
           replace p198 := eq_true p198
           replace q198 := eq_true q198
           have p199 : 0 ≤ (((rd_T59 t192 x22_2).f2) : Int) := zA
           have q199 : ((rd_T59 t192 x22_2).f2) < (l0.length : Int) := zA
           obtain ⟨ad199, e199, hx199_0, hx199_1⟩ := at_T43 HR0.out ((rd_T59 t192 x22_2).f2) p199 q199
           have hw199_1 := hx199_1
           have hw199_0 := hx199_0
           obtain rfl : ad197 = ad199 := (by injection e199)
           replace hx199_0 := (HB.out.cell (World.block_lt_of_cell? w _ hx199_0)).trans hx199_0
           replace hx199_1 := (HB.out.cell (World.block_lt_of_cell? w _ hx199_1)).trans hx199_1
           replace p199 := eq_true p199
           replace q199 := eq_true q199
           refine start_ (n := 17) (S := fun w' => w'.cell? ⟨gb196, 0, none⟩ = some (.int .i64 ((rd_T59 t192 x22_2).f0)) ∧ w'.cell? ⟨gb196, 1, none⟩ = some (.int .i64 ((rd_T59 t192 x22_2).f1)) ∧ w'.cell? ⟨gb196, 2, none⟩ = some (.int .i64 ((rd_T59 t192 x22_2).f2)) ∧ w'.cell? (ad197.add ((((rd_T59 t192 x22_2).f0)).toNat * 2)) = some (.int .i64 ((rd_T43 l0 ((rd_T59 t192 x22_2).f0)).f0)) ∧ w'.cell? ⟨(ad197.add ((((rd_T59 t192 x22_2).f0)).toNat * 2)).block, (ad197.add ((((rd_T59 t192 x22_2).f0)).toNat * 2)).off + 1, none⟩ = some (.int .i64 ((rd_T43 l0 ((rd_T59 t192 x22_2).f0)).f1)) ∧ w'.cell? (ad197.add ((((rd_T59 t192 x22_2).f1)).toNat * 2)) = some (.int .i64 ((rd_T43 l0 ((rd_T59 t192 x22_2).f1)).f0)) ∧ w'.cell? ⟨(ad197.add ((((rd_T59 t192 x22_2).f1)).toNat * 2)).block, (ad197.add ((((rd_T59 t192 x22_2).f1)).toNat * 2)).off + 1, none⟩ = some (.int .i64 ((rd_T43 l0 ((rd_T59 t192 x22_2).f1)).f1)) ∧ w'.cell? (ad197.add ((((rd_T59 t192 x22_2).f2)).toNat * 2)) = some (.int .i64 ((rd_T43 l0 ((rd_T59 t192 x22_2).f2)).f0)) ∧ w'.cell? ⟨(ad197.add ((((rd_T59 t192 x22_2).f2)).toNat * 2)).block, (ad197.add ((((rd_T59 t192 x22_2).f2)).toNat * 2)).off + 1, none⟩ = some (.int .i64 ((rd_T43 l0 ((rd_T59 t192 x22_2).f2)).f1))) (ds := []) #[false, false, false, false, false, false, false, false, false, false, false, false, false, false, false, false, false] (by kernel_rfl) rfl rfl ⟨(blk_cell BK196.out 0).trans rfl, (blk_cell BK196.out 1).trans rfl, (blk_cell BK196.out 2).trans rfl, ((HB.out.cell (World.block_lt_of_cell? w _ hw197_0)).trans hw197_0), ((HB.out.cell (World.block_lt_of_cell? w _ hw197_1)).trans hw197_1), ((HB.out.cell (World.block_lt_of_cell? w _ hw198_0)).trans hw198_0), ((HB.out.cell (World.block_lt_of_cell? w _ hw198_1)).trans hw198_1), ((HB.out.cell (World.block_lt_of_cell? w _ hw199_0)).trans hw199_0), ((HB.out.cell (World.block_lt_of_cell? w _ hw199_1)).trans hw199_1)⟩ (fun hHeld => ?_); refine with_tabW impl_ArePoints.tab6 impl_ArePoints.bits6 (fun HT_ HW_ => ?_)
           generalize w24.drew = w25 at HO_20 BK196 HB hx197_0 hx197_1 hx198_0 hx198_1 hx199_0 hx199_1 hHeld ⊢
           refine zP 0 (some 26) rfl rfl ?_
           refine zP 1 (some 27) rfl rfl ?_
           refine zP 5 (some 31) rfl rfl ?_
           refine zP 6 (some 32) rfl rfl ?_
           refine zP 10 (some 36) rfl rfl ?_
           refine zP 11 (some 37) rfl rfl ?_
           refine zY9 2 (some 28) rfl rfl hHeld ?_
           refine zP 3 (some 29) rfl rfl ?_
           refine zY9 4 (some 30) rfl rfl hHeld ?_
           refine zY9 7 (some 33) rfl rfl hHeld ?_
           refine zP 8 (some 34) rfl rfl ?_
           refine zY9 9 (some 35) rfl rfl hHeld ?_
           refine zY9 12 (some 38) rfl rfl hHeld ?_
           refine zP 13 (some 39) rfl rfl ?_
           refine zY9 14 (some 40) rfl rfl hHeld ?_
           refine zU 15 (some 41) rfl rfl (fun K hK => ?_)
           refine goes_ Try.func40 (by kernel_rfl) rfl #[.agg #[.int .i64 ((rd_T43 l0 ((rd_T59 t192 x22_2).f0)).f0), .int .i64 ((rd_T43 l0 ((rd_T59 t192 x22_2).f0)).f1)], .agg #[.int .i64 ((rd_T43 l0 ((rd_T59 t192 x22_2).f1)).f0), .int .i64 ((rd_T43 l0 ((rd_T59 t192 x22_2).f1)).f1)], .agg #[.int .i64 ((rd_T43 l0 ((rd_T59 t192 x22_2).f2)).f0), .int .i64 ((rd_T43 l0 ((rd_T59 t192 x22_2).f2)).f1)]] (by rfl) rfl rfl zM ?_
           with_reducible refine (impl_TurnOf.calls ((rd_T43 l0 ((rd_T59 t192 x22_2).f0)).f0) ((rd_T43 l0 ((rd_T59 t192 x22_2).f0)).f1) ((rd_T43 l0 ((rd_T59 t192 x22_2).f1)).f0) ((rd_T43 l0 ((rd_T59 t192 x22_2).f1)).f1) ((rd_T43 l0 ((rd_T59 t192 x22_2).f2)).f0) ((rd_T43 l0 ((rd_T59 t192 x22_2).f2)).f1) t200 _ A20.out).mono ?_
           rintro e w26 ⟨rfl, hb⟩
           refine ⟨_, rfl, ?_⟩
           replace HO_20 := zW HO_20.out hb
           replace BK196 := zV BK196.out hb
           replace HB := zX1 GE196.out hb
           (try clear hb)
           refine hK.out _ _ ⟨(blk_cell BK196.out 0).trans rfl, (blk_cell BK196.out 1).trans rfl, (blk_cell BK196.out 2).trans rfl, ((HB.out.cell (World.block_lt_of_cell? w _ hw197_0)).trans hw197_0), ((HB.out.cell (World.block_lt_of_cell? w _ hw197_1)).trans hw197_1), ((HB.out.cell (World.block_lt_of_cell? w _ hw198_0)).trans hw198_0), ((HB.out.cell (World.block_lt_of_cell? w _ hw198_1)).trans hw198_1), ((HB.out.cell (World.block_lt_of_cell? w _ hw199_0)).trans hw199_0), ((HB.out.cell (World.block_lt_of_cell? w _ hw199_1)).trans hw199_1)⟩ (fun hHeld => ?_)
           clear hK K
           refine zN ?_
           refine zP 16 (some 42) rfl rfl ?_
           refine done_ (done_of HT_.out (by kernel_rfl)) ?_
           try go_wp2
           go_ret
           exact ⟨zE, zG GE196.out⟩
          rw [if_neg c21] at H
          have c21b0 := beq_eq_false_iff_ne.mpr c21
          have c21b1 := bne_iff_ne.mpr c21
          have H' := Aside0.mk H; clear H
          have p195 : 0 ≤ (x22_2 : Int) := zA
          have q195 : x22_2 < (t192.length : Int) := zA
          obtain ⟨ad195, e195, hx195_0, hx195_1, hx195_2⟩ := at_T59 (Kd.R_reads' HO_20.out).2.2 x22_2 p195 q195
          cases e195
          replace p195 := eq_true p195
          replace q195 := eq_true q195
          try go_wp2_with (first | ((with_reducible refine gate_dst (N := 4) rfl ?_); (try (refine gate_guard (by rfl) ?_; dsimp only)); refine zBx (N := 4) #[.int .i64 0, .int .i64 0, .int .i64 0] 59 ?_; intro gb196 hg w27 hbox hb; replace HO_20 := Aside0.mk (Kd.R_below (Kd.R_elderB (zR HO_20.out) gb196 (Nat.le_of_eq hg.symm)) hb); have BK196 := Aside0.mk (hbox); have GW196 := zS hg; have GE196 := zS hg; replace HB := zX hb; clear hb hbox hg; obtain ⟨hcz28_0, hcz28_1, hcz28_2, hfz28_0, hfz28_1, hfz28_2⟩ := zq3 BK196.out))
          have n0_ : Aside0 (Kd.R k59 59 (((w27.setCell ⟨gb196, 0, none⟩ (.int .i64 ((rd_T59 t192 x22_2).f0))).setCell ⟨gb196, 1, none⟩ (.int .i64 ((rd_T59 t192 x22_2).f1))).setCell ⟨gb196, 2, none⟩ (.int .i64 ((rd_T59 t192 x22_2).f2))) w.heap.size (fun k_ => k_ ≠ gb196) (.slice (some ad195) t192.length co10) t192) := ⟨by (with_reducible repeat (first | apply Kd.R_alloc | apply Kd.R_drewN | apply Kd.R_drew)); exact Kd.R_mono (Kd.R_far (p := ⟨gb196, 2, none⟩) (Kd.R_far (p := ⟨gb196, 1, none⟩) (Kd.R_far (p := ⟨gb196, 0, none⟩) (Kd.R_mono HO_20.out (fun k_ hk => (⟨hk, hk.2⟩ : _ ∧ k_ ≠ gb196))) (fun _ hk => hk.2) (.int .i64 ((rd_T59 t192 x22_2).f0))) (fun _ hk => hk.2) (.int .i64 ((rd_T59 t192 x22_2).f1))) (fun _ hk => hk.2) (.int .i64 ((rd_T59 t192 x22_2).f2))) (fun _ hk => hk.1.2)⟩
          have n1_ : Aside0 ((((w27.setCell ⟨gb196, 0, none⟩ (.int .i64 ((rd_T59 t192 x22_2).f0))).setCell ⟨gb196, 1, none⟩ (.int .i64 ((rd_T59 t192 x22_2).f1))).setCell ⟨gb196, 2, none⟩ (.int .i64 ((rd_T59 t192 x22_2).f2))).heap[gb196]? = some (.cells #[.int .i64 ((rd_T59 t192 x22_2).f0), .int .i64 ((rd_T59 t192 x22_2).f1), .int .i64 ((rd_T59 t192 x22_2).f2)] 59 (0, 0))) := ⟨zk0 BK196.out⟩
          have n2_ : Aside0 (Below w.heap.size w (((w27.setCell ⟨gb196, 0, none⟩ (.int .i64 ((rd_T59 t192 x22_2).f0))).setCell ⟨gb196, 1, none⟩ (.int .i64 ((rd_T59 t192 x22_2).f1))).setCell ⟨gb196, 2, none⟩ (.int .i64 ((rd_T59 t192 x22_2).f2)))) := ⟨zG GE196.out⟩
          (try clear HO_20)
          (try clear BK196)
          (try clear HB)
          generalize (((w27.setCell ⟨gb196, 0, none⟩ (.int .i64 ((rd_T59 t192 x22_2).f0))).setCell ⟨gb196, 1, none⟩ (.int .i64 ((rd_T59 t192 x22_2).f1))).setCell ⟨gb196, 2, none⟩ (.int .i64 ((rd_T59 t192 x22_2).f2))) = w29 at n0_ n1_ n2_ ⊢
          have HO_20 := n0_
          have BK196 := n1_
          have HB := n2_
          clear n0_ n1_ n2_
          replace HO_20 := Aside0.mk (Kd.R_drew HO_20.out)
          replace BK196 := Aside0.mk (blk_drew BK196.out)
          replace HB := Aside0.mk (below_drew1 HB.out)
          have p197 : 0 ≤ (((rd_T59 t192 x22_2).f0) : Int) := zA
          have q197 : ((rd_T59 t192 x22_2).f0) < (l0.length : Int) := zA
          obtain ⟨ad197, e197, hx197_0, hx197_1⟩ := at_T43 HR0.out ((rd_T59 t192 x22_2).f0) p197 q197
          have hw197_1 := hx197_1
          have hw197_0 := hx197_0
          cases e197
          replace hx197_0 := (HB.out.cell (World.block_lt_of_cell? w _ hx197_0)).trans hx197_0
          replace hx197_1 := (HB.out.cell (World.block_lt_of_cell? w _ hx197_1)).trans hx197_1
          replace p197 := eq_true p197
          replace q197 := eq_true q197
          have p198 : 0 ≤ (((rd_T59 t192 x22_2).f1) : Int) := zA
          have q198 : ((rd_T59 t192 x22_2).f1) < (l0.length : Int) := zA
          obtain ⟨ad198, e198, hx198_0, hx198_1⟩ := at_T43 HR0.out ((rd_T59 t192 x22_2).f1) p198 q198
          have hw198_1 := hx198_1
          have hw198_0 := hx198_0
          obtain rfl : ad197 = ad198 := (by injection e198)
          replace hx198_0 := (HB.out.cell (World.block_lt_of_cell? w _ hx198_0)).trans hx198_0
          replace hx198_1 := (HB.out.cell (World.block_lt_of_cell? w _ hx198_1)).trans hx198_1
          replace p198 := eq_true p198
          replace q198 := eq_true q198
          have p199 : 0 ≤ (((rd_T59 t192 x22_2).f2) : Int) := zA
          have q199 : ((rd_T59 t192 x22_2).f2) < (l0.length : Int) := zA
          obtain ⟨ad199, e199, hx199_0, hx199_1⟩ := at_T43 HR0.out ((rd_T59 t192 x22_2).f2) p199 q199
          have hw199_1 := hx199_1
          have hw199_0 := hx199_0
          obtain rfl : ad197 = ad199 := (by injection e199)
          replace hx199_0 := (HB.out.cell (World.block_lt_of_cell? w _ hx199_0)).trans hx199_0
          replace hx199_1 := (HB.out.cell (World.block_lt_of_cell? w _ hx199_1)).trans hx199_1
          replace p199 := eq_true p199
          replace q199 := eq_true q199
          refine start_ (n := 17) (S := fun w' => w'.cell? ⟨gb196, 0, none⟩ = some (.int .i64 ((rd_T59 t192 x22_2).f0)) ∧ w'.cell? ⟨gb196, 1, none⟩ = some (.int .i64 ((rd_T59 t192 x22_2).f1)) ∧ w'.cell? ⟨gb196, 2, none⟩ = some (.int .i64 ((rd_T59 t192 x22_2).f2)) ∧ w'.cell? (ad197.add ((((rd_T59 t192 x22_2).f0)).toNat * 2)) = some (.int .i64 ((rd_T43 l0 ((rd_T59 t192 x22_2).f0)).f0)) ∧ w'.cell? ⟨(ad197.add ((((rd_T59 t192 x22_2).f0)).toNat * 2)).block, (ad197.add ((((rd_T59 t192 x22_2).f0)).toNat * 2)).off + 1, none⟩ = some (.int .i64 ((rd_T43 l0 ((rd_T59 t192 x22_2).f0)).f1)) ∧ w'.cell? (ad197.add ((((rd_T59 t192 x22_2).f1)).toNat * 2)) = some (.int .i64 ((rd_T43 l0 ((rd_T59 t192 x22_2).f1)).f0)) ∧ w'.cell? ⟨(ad197.add ((((rd_T59 t192 x22_2).f1)).toNat * 2)).block, (ad197.add ((((rd_T59 t192 x22_2).f1)).toNat * 2)).off + 1, none⟩ = some (.int .i64 ((rd_T43 l0 ((rd_T59 t192 x22_2).f1)).f1)) ∧ w'.cell? (ad197.add ((((rd_T59 t192 x22_2).f2)).toNat * 2)) = some (.int .i64 ((rd_T43 l0 ((rd_T59 t192 x22_2).f2)).f0)) ∧ w'.cell? ⟨(ad197.add ((((rd_T59 t192 x22_2).f2)).toNat * 2)).block, (ad197.add ((((rd_T59 t192 x22_2).f2)).toNat * 2)).off + 1, none⟩ = some (.int .i64 ((rd_T43 l0 ((rd_T59 t192 x22_2).f2)).f1))) (ds := []) #[false, false, false, false, false, false, false, false, false, false, false, false, false, false, false, false, false] (by kernel_rfl) rfl rfl ⟨(blk_cell BK196.out 0).trans rfl, (blk_cell BK196.out 1).trans rfl, (blk_cell BK196.out 2).trans rfl, ((HB.out.cell (World.block_lt_of_cell? w _ hw197_0)).trans hw197_0), ((HB.out.cell (World.block_lt_of_cell? w _ hw197_1)).trans hw197_1), ((HB.out.cell (World.block_lt_of_cell? w _ hw198_0)).trans hw198_0), ((HB.out.cell (World.block_lt_of_cell? w _ hw198_1)).trans hw198_1), ((HB.out.cell (World.block_lt_of_cell? w _ hw199_0)).trans hw199_0), ((HB.out.cell (World.block_lt_of_cell? w _ hw199_1)).trans hw199_1)⟩ (fun hHeld => ?_); refine with_tabW impl_ArePoints.tab6 impl_ArePoints.bits6 (fun HT_ HW_ => ?_)
          generalize w29.drew = w30 at HO_20 BK196 HB hx197_0 hx197_1 hx198_0 hx198_1 hx199_0 hx199_1 hHeld ⊢
          refine zP 0 (some 26) rfl rfl ?_
          refine zP 1 (some 27) rfl rfl ?_
          refine zP 5 (some 31) rfl rfl ?_
          refine zP 6 (some 32) rfl rfl ?_
          refine zP 10 (some 36) rfl rfl ?_
          refine zP 11 (some 37) rfl rfl ?_
          refine zY9 2 (some 28) rfl rfl hHeld ?_
          refine zP 3 (some 29) rfl rfl ?_
          refine zY9 4 (some 30) rfl rfl hHeld ?_
          refine zY9 7 (some 33) rfl rfl hHeld ?_
          refine zP 8 (some 34) rfl rfl ?_
          refine zY9 9 (some 35) rfl rfl hHeld ?_
          refine zY9 12 (some 38) rfl rfl hHeld ?_
          refine zP 13 (some 39) rfl rfl ?_
          refine zY9 14 (some 40) rfl rfl hHeld ?_
          refine zU 15 (some 41) rfl rfl (fun K hK => ?_)
          refine goes_ Try.func40 (by kernel_rfl) rfl #[.agg #[.int .i64 ((rd_T43 l0 ((rd_T59 t192 x22_2).f0)).f0), .int .i64 ((rd_T43 l0 ((rd_T59 t192 x22_2).f0)).f1)], .agg #[.int .i64 ((rd_T43 l0 ((rd_T59 t192 x22_2).f1)).f0), .int .i64 ((rd_T43 l0 ((rd_T59 t192 x22_2).f1)).f1)], .agg #[.int .i64 ((rd_T43 l0 ((rd_T59 t192 x22_2).f2)).f0), .int .i64 ((rd_T43 l0 ((rd_T59 t192 x22_2).f2)).f1)]] (by rfl) rfl rfl zM ?_
          with_reducible refine (impl_TurnOf.calls ((rd_T43 l0 ((rd_T59 t192 x22_2).f0)).f0) ((rd_T43 l0 ((rd_T59 t192 x22_2).f0)).f1) ((rd_T43 l0 ((rd_T59 t192 x22_2).f1)).f0) ((rd_T43 l0 ((rd_T59 t192 x22_2).f1)).f1) ((rd_T43 l0 ((rd_T59 t192 x22_2).f2)).f0) ((rd_T43 l0 ((rd_T59 t192 x22_2).f2)).f1) t200 _ A20.out).mono ?_
          rintro e w31 ⟨rfl, hb⟩
          refine ⟨_, rfl, ?_⟩
          replace HO_20 := zW HO_20.out hb
          replace BK196 := zV BK196.out hb
          replace HB := zX1 GE196.out hb
          (try clear hb)
          refine hK.out _ _ ⟨(blk_cell BK196.out 0).trans rfl, (blk_cell BK196.out 1).trans rfl, (blk_cell BK196.out 2).trans rfl, ((HB.out.cell (World.block_lt_of_cell? w _ hw197_0)).trans hw197_0), ((HB.out.cell (World.block_lt_of_cell? w _ hw197_1)).trans hw197_1), ((HB.out.cell (World.block_lt_of_cell? w _ hw198_0)).trans hw198_0), ((HB.out.cell (World.block_lt_of_cell? w _ hw198_1)).trans hw198_1), ((HB.out.cell (World.block_lt_of_cell? w _ hw199_0)).trans hw199_0), ((HB.out.cell (World.block_lt_of_cell? w _ hw199_1)).trans hw199_1)⟩ (fun hHeld => ?_)
          clear hK K
          refine zN ?_
          refine zP 16 (some 42) rfl rfl ?_
          refine done_ (done_of HT_.out (by kernel_rfl)) ?_
          try go_wp2
          go_roundg k2
          case measure => have := HJ1.out; have := HK2.out; omega
          case rel => exact ⟨(wrap64 (x22_2 + 1)), zF, H', ⟨by have := HJ1.out; have := HK2.out; omega⟩, ⟨by (with_reducible repeat (first | apply Kd.R_alloc | apply Kd.R_drewN | apply Kd.R_drew)); exact Kd.R_mono HO_20.out (fun _ hk => trivial)⟩, ⟨zG GE196.out⟩⟩
         rw [if_neg c19] at H
         exact absurd H (by simp)
        rw [if_neg c18] at H
        exact absurd H (by simp)
       rw [if_neg c17] at H
       exact absurd H (by simp)
      rw [if_neg c16] at H
      exact absurd H (by simp)
     rw [if_neg c15] at H
     exact absurd H (by simp)
    rw [if_neg c14] at H
    exact absurd H (by simp)
   rw [if_neg c13] at H
   exact absurd H (by simp)
  rw [if_neg c12] at H
  exact absurd H (by simp)
 rw [if_neg c11] at H
 have c11b0 := decide_eq_false c11
 clear c11
 obtain rfl := Option.some.inj H
 go_wp2
 go_ret
 exact ⟨zE, zB⟩
/-! ### cmp_Or_int: function 29 -/
def cmp_Or_int.l0 : Nat → Int → List Int → Int → Int → Option (Int)
 | 0, _, _, _, _ => none
 | k + 1, x3, x6, x7, x8 => if x8 < x7 then (if 0 ≤ x8 then (if x8 < (x6.length : Int) then (if (rd x6 x8) = x3 then (cmp_Or_int.l0 k x3 x6 x7 (wrap64 (x8 + 1))) else (some (rd x6 x8))) else (none)) else (none)) else (some x3)
def cmp_Or_int.f (k : Nat) (l0 : List Int) : Option (Int) := cmp_Or_int.l0 k 0 l0 (l0.length : Int) 0
set_option maxHeartbeats 8000000 in
set_option maxRecDepth 100000 in
theorem cmp_Or_int.calls (k : Nat) (A0 : Option Addr) (c0 : Nat) (l0 : List Int) (r : Int) (w : World) (hr0 : Kd.C (Kd.int .i64) w A0 l0.length l0) (hc0 : l0.length ≤ c0) (h : cmp_Or_int.f k l0 = some r) :
  Calls Try.prog 29 #[.slice A0 l0.length c0] w fun e w' => e = .returned (.int .i64 r) ∧ Drawn0 w w' := by
 have HR0 := Aside0.mk hr0
 have HC0 := Aside0.mk hc0
 clear hr0 hc0
 have H : (cmp_Or_int.l0 k 0 l0 (l0.length : Int) 0) = some r := h
 clear h
 have H' := Aside0.mk H; clear H
 go_enter Try.func29, Try.ntmps29
 go_wp2
 go_loopg [8] k (fun kq v8 w' => ∃ (x8_1 : Int), v8 = .int .i64 x8_1 ∧ Aside0 (cmp_Or_int.l0 kq 0 l0 (l0.length : Int) x8_1 = some r) ∧ Aside0 (kq ≤ k) ∧ Drawn0 w w')
 case atStart => exact ⟨(0), zF, H', ⟨Nat.le_refl _⟩, by repeat (first | exact Drawn0.refl _ | apply Drawn0.step)⟩
 case round =>
 clear H'
 obtain ⟨x8_1, rfl, HA, HK1, ⟨m1, rfl⟩⟩ := hrel
 cases gk with
 | zero => exact absurd HA.out (by simp [cmp_Or_int.l0])
 | succ k1 =>
 have H := HA.out
 clear HA
 simp only [cmp_Or_int.l0] at H
 by_cases c2 : x8_1 < (l0.length : Int)
 ·rw [if_pos c2] at H
  have c2b0 := decide_eq_true c2
  clear c2
  by_cases c3 : 0 ≤ x8_1
  ·rw [if_pos c3] at H
   have c3b0 := decide_eq_true c3
   clear c3
   by_cases c4 : x8_1 < (l0.length : Int)
   ·rw [if_pos c4] at H
    have c4b0 := decide_eq_true c4
    clear c4
    by_cases c5 : (rd l0 x8_1) = 0
    ·rw [if_pos c5] at H
     have c5b0 := beq_iff_eq.mpr c5
     have c5b1 := bne_eq_false_iff_eq.mpr c5
     clear c5
     have H' := Aside0.mk H; clear H
     have p390 : 0 ≤ (x8_1 : Int) := zA
     have q390 : x8_1 < (l0.length : Int) := zA
     obtain ⟨ad390, e390, hx390_0⟩ := Kd.at_int HR0.out x8_1 p390 q390
     cases e390
     replace p390 := eq_true p390
     replace q390 := eq_true q390
     go_wp2
     go_roundg k1
     case measure => have := HK1.out; omega
     case rel => exact ⟨(wrap64 (x8_1 + 1)), zF, H', ⟨by have := HK1.out; omega⟩, by repeat (first | exact Drawn0.refl _ | apply Drawn0.step)⟩
    rw [if_neg c5] at H
    have c5b0 := beq_eq_false_iff_ne.mpr c5
    have c5b1 := bne_iff_ne.mpr c5
    obtain rfl := Option.some.inj H
    have p390 : 0 ≤ (x8_1 : Int) := zA
    have q390 : x8_1 < (l0.length : Int) := zA
    obtain ⟨ad390, e390, hx390_0⟩ := Kd.at_int HR0.out x8_1 p390 q390
    cases e390
    replace p390 := eq_true p390
    replace q390 := eq_true q390
    go_wp2
    go_ret
    exact ⟨by first | rfl | (simp; done) | (simp [*]; done), by repeat (first | exact Drawn0.refl _ | apply Drawn0.step)⟩
   rw [if_neg c4] at H
   exact absurd H (by simp)
  rw [if_neg c3] at H
  exact absurd H (by simp)
 rw [if_neg c2] at H
 have c2b0 := decide_eq_false c2
 clear c2
 obtain rfl := Option.some.inj H
 go_wp2
 go_ret
 exact ⟨by first | rfl | (simp; done) | (simp [*]; done), by repeat (first | exact Drawn0.refl _ | apply Drawn0.step)⟩
/-! ### impl_SortPoints_1: function 28 -/
def impl_SortPoints_1.f (k : Nat) (a0_0 : Int) (a0_1 : Int) (a1_0 : Int) (a1_1 : Int) : Option (Int) := (cmp_Compare_int.f a0_0 a1_0).bind fun t393 => ((cmp_Compare_int.f a0_1 a1_1).bind fun t394 => ((cmp_Or_int.f k (([t393, t394] : List Int))).bind fun t398 => (some t398)))
def impl_SortPoints_1.T1 : Bool × List (List Nat × List Nat) := (true, [([], []), ([0], [0]), ([], []), ([2], [2]), ([1, 3], [1, 3]), ([], []), ([5], [5]), ([], []), ([7], [7]), ([6, 8, 4], [6, 8]), ([4, 9], [4, 9]), ([10, 9], [10]), ([11, 11, 0, 1, 2, 3, 4, 5, 6, 7, 8, 9, 10, 11], [11])])
def impl_SortPoints_1.B1 : List Nat := [0, 1, 0, 4, 15, 0, 32, 0, 128, 511, 1023, 2047, 4095]
theorem impl_SortPoints_1.tab1 : rtab .any (opsOf Try.f28 1) = impl_SortPoints_1.T1 := by kernel_rfl
theorem impl_SortPoints_1.bits1 : waitsOk impl_SortPoints_1.T1.2 impl_SortPoints_1.B1 = true := by kernel_rfl
set_option maxHeartbeats 8000000 in
set_option maxRecDepth 100000 in
theorem impl_SortPoints_1.calls (k : Nat) (a0_0 : Int) (a0_1 : Int) (a1_0 : Int) (a1_1 : Int) (r : Int) (w : World) (h : impl_SortPoints_1.f k a0_0 a0_1 a1_0 a1_1 = some r) :
  Calls Try.prog 28 #[.agg #[.int .i64 a0_0, .int .i64 a0_1], .agg #[.int .i64 a1_0, .int .i64 a1_1]] w fun e w' => e = .returned (.int .i64 r) ∧ Below w.heap.size w w' ∧ w.drawn ≤ w'.drawn := by
 have hu43 := Try.underlying43
 have HB := Aside0.mk (Below.refl w.heap.size w)
 have HDr := Aside0.mk (Nat.le_refl w.drawn)
 have H : ((cmp_Compare_int.f a0_0 a1_0).bind fun t393 => ((cmp_Compare_int.f a0_1 a1_1).bind fun t394 => ((cmp_Or_int.f k (([t393, t394] : List Int))).bind fun t398 => (some t398)))) = some r := h
 clear h
 obtain ⟨t393, A3, H⟩ := zO H
 obtain ⟨t394, A4, H⟩ := zO H
 obtain ⟨y395, hy395⟩ : ∃ y_ : List Int, y_ = (([t393, t394] : List Int)) := ⟨_, rfl⟩
 replace H : ((cmp_Or_int.f k y395).bind fun t398 => (some t398)) = some r := by first | (rw [hy395]; with_reducible exact H) | (have H2_ := (Option.bind_some _ _).symm.trans H; rw [hy395]; with_reducible exact H2_) | (have H2_ := (Option.bind_some _ _).symm.trans H; with_reducible exact H2_) | with_reducible exact H | (rw [hy395]; exact H) | exact H
 have Ny395 := Aside0.mk hy395
 clear hy395
 obtain ⟨t398, A5, H⟩ := zO H
 obtain rfl := Option.some.inj H
 go_enter Try.func28, Try.ntmps28
 try go_wp2_with (first | ((with_reducible refine gate_dst (N := 2) rfl ?_); refine box_eventD ?hg (N := 2) ?hd (cs := #[.int .i64 a0_0, .int .i64 a0_1]) (t := 43) ?hr ?_; (case hd => rfl); (case hg => rfl); (case hr => first | (go_simp; done) | (go_simp; rfl)); intro gb391 hg w6 hbox hb hdr; replace HDr := Aside0.mk (dr_step (by repeat (first | exact HDr.out | apply dr_drewN | apply dr_drew)) hdr); clear hdr; have BK391 := Aside0.mk (hbox); have GW391 := zS hg; have GE391 := zS hg; replace HB := zX hb; clear hb hbox hg) | ((with_reducible refine gate_dst (N := 3) rfl ?_); refine box_eventD ?hg (N := 3) ?hd (cs := #[.int .i64 a1_0, .int .i64 a1_1]) (t := 43) ?hr ?_; (case hd => rfl); (case hg => rfl); (case hr => first | (go_simp; done) | (go_simp; rfl)); intro gb392 hg w7 hbox hb hdr; replace HDr := Aside0.mk (dr_step (by repeat (first | exact HDr.out | apply dr_drewN | apply dr_drew)) hdr); clear hdr; have BK392 := Aside0.mk (hbox); have GW392 := zSg hg (zG GE391.out); have GE392 := zSg hg (zG GE391.out); have NB391_392 := zL hg BK391.out; have NB392_391 := zLg hg BK391.out; replace BK391 := zV BK391.out hb; replace HB := zX1 GE391.out hb; clear hb hbox hg))
 replace BK391 := Aside0.mk (blk_drew BK391.out)
 replace BK392 := Aside0.mk (blk_drew BK392.out)
 replace HB := Aside0.mk (below_drew1 HB.out)
 refine start_ (n := 13) (S := fun w' => w'.cell? ⟨gb391, 0, none⟩ = some (.int .i64 a0_0) ∧ w'.cell? ⟨gb391, 1, none⟩ = some (.int .i64 a0_1) ∧ w'.cell? ⟨gb392, 0, none⟩ = some (.int .i64 a1_0) ∧ w'.cell? ⟨gb392, 1, none⟩ = some (.int .i64 a1_1)) (ds := []) #[false, false, false, false, false, false, false, false, false, false, false, false, false] (by kernel_rfl) rfl rfl ⟨(blk_cell BK391.out 0).trans rfl, (blk_cell BK391.out 1).trans rfl, (blk_cell BK392.out 0).trans rfl, (blk_cell BK392.out 1).trans rfl⟩ (fun hHeld => ?_); refine with_tabW impl_SortPoints_1.tab1 impl_SortPoints_1.bits1 (fun HT_ HW_ => ?_)
 replace HDr := Aside0.mk (dr_drew HDr.out)
 generalize w7.drew = w8 at BK391 BK392 HB HDr hHeld ⊢
 refine zP 0 (some 5) rfl rfl ?_
 refine zP 2 (some 7) rfl rfl ?_
 refine zP 5 (some 10) rfl rfl ?_
 refine zP 7 (some 12) rfl rfl ?_
 refine zY4 1 (some 6) rfl rfl hHeld ?_
 refine zY4 3 (some 8) rfl rfl hHeld ?_
 refine zY4 6 (some 11) rfl rfl hHeld ?_
 refine zY4 8 (some 13) rfl rfl hHeld ?_
 refine zU 4 (some 9) rfl rfl (fun K hK => ?_)
 refine goes_ Try.func30 (by kernel_rfl) rfl #[.int .i64 a0_0, .int .i64 a1_0] (by rfl) rfl rfl zM ?_
 with_reducible refine (cmp_Compare_int.calls a0_0 a1_0 t393 _ A3.out).mono ?_
 rintro e w' ⟨rfl, ⟨nd, rfl⟩⟩
 refine ⟨_, rfl, ?_⟩
 refine hK.out _ _ (zh BK391.out (zh2 BK392.out)) (fun hHeld => ?_)
 clear hK K
 refine zN ?_
 refine zU 9 (some 14) rfl rfl (fun K hK => ?_)
 refine goes_ Try.func30 (by kernel_rfl) rfl #[.int .i64 a0_1, .int .i64 a1_1] (by rfl) rfl rfl zM ?_
 with_reducible refine (cmp_Compare_int.calls a0_1 a1_1 t394 _ A4.out).mono ?_
 rintro e w' ⟨rfl, ⟨nd, rfl⟩⟩
 refine ⟨_, rfl, ?_⟩
 refine hK.out _ _ (zh BK391.out (zh2 BK392.out)) (fun hHeld => ?_)
 clear hK K
 refine zN ?_
 refine zU 10 (some 15) rfl rfl (fun K hK => ?_)
 refine R_lit_stepD (Kd.int .i64) _ 3 ?hg (N := 15) ?hd (xs := ([t393, t394] : List Int)) (inner := [.int .i64 t393, .int .i64 t394]) (ok := fun _ => True) (okp := fun _ => True) ?hr ?hp (fun _ hk => hk) trivial (Below.refl _ _) (Nat.le_refl _) (by simp) ?_; (case hd => rfl); (case hg => rfl); (case hr => first | (go_simp; done) | (go_simp; rfl)); (case hp => exact (Reps.one (show Kd.M (Kd.int .i64) _ _ _ t393 [.int .i64 t393] from rfl) (Reps.one (show Kd.M (Kd.int .i64) _ _ _ t394 [.int .i64 t394] from rfl) (Reps.none _ _))))
 intro v396 w9 ho10 hb hg_ hnew_ hdr
 replace HDr := Aside0.mk (dr_step (by repeat (first | exact HDr.out | apply dr_drewN | apply dr_drew)) hdr)
 clear hdr
 clear hg_ hnew_
 (first | rw [← Ny395.out] at ho10 | (simp only [Int.reduceToNat] at ho10; rw [← Ny395.out] at ho10))
 have HO397 := Aside0.mk (Kd.R_lower ho10 (below_size (zG2 GE391.out GE392.out)))
 replace BK391 := zV BK391.out hb
 replace BK392 := zV BK392.out hb
 replace HB := Aside0.mk (below_step (zG2 GE391.out GE392.out) hb)
 clear hb ho10
 obtain ⟨Ao11, co11, eo11⟩ := Kd.R_slice HO397.out
 (first | subst eo11 | (injection eo11 with f1_ f2_ f3_; have f4_ := f1_.symm; have f5_ := f3_.symm; clear f1_ f2_ f3_; subst f4_; subst f5_))
 refine hK.out _ _ (zh BK391.out (zh2 BK392.out)) (fun hHeld => ?_)
 clear hK K
 refine zN ?_
 refine zU 11 (some 16) rfl rfl (fun K hK => ?_)
 refine goes_ Try.func29 (by kernel_rfl) rfl #[.slice Ao11 y395.length co11] (by rfl) rfl rfl zM ?_
 with_reducible refine (cmp_Or_int.calls k _ _ y395 t398 _ ?side1 ?side2 A5.out).mono ?_
 (case side1 => repeat (first | exact (Kd.R_reads' HO397.out).2.2 | (with_reducible refine Kd.C_alloc ?_ _) | (with_reducible refine Kd.C_drewN ?_ _) | (with_reducible refine Kd.C_drew ?_)))
 (case side2 => exact (Kd.R_reads' HO397.out).2.1)
 rintro e w' ⟨rfl, ⟨nd, rfl⟩⟩
 refine ⟨_, rfl, ?_⟩
 refine hK.out _ _ (zh BK391.out (zh2 BK392.out)) (fun hHeld => ?_)
 clear hK K
 refine zN ?_
 refine zP 12 (some 4) rfl rfl ?_
 refine done_ (done_of HT_.out (by kernel_rfl)) ?_
 try go_wp2
 go_ret
 exact ⟨zE, zG2 GE391.out GE392.out, (by repeat (first | exact HDr.out | apply dr_drewN | apply dr_drew))⟩
end Go.Proofs.Ythhgcdfdjlijjaa.PX
namespace Go.Proofs.Ythhgcdfdjlijjaa.G
open Go.RowKit Go.Sort Go.Proofs.YthhgcdfdjlijjaaW.PrintWords Go.Proofs.YthhgcdfdjlijjaaW.PrintLast Go.Proofs.YthhgcdfdjlijjaaW.PrintMore Go.Proofs.Ythhgcdfdjlijjaa.PX
set_option linter.unusedVariables false
set_option linter.unusedSimpArgs false
def cmpPt (p q : S43) : Int := if p.f0 < q.f0 then -1 else if q.f0 < p.f0 then 1 else if p.f1 < q.f1 then -1 else if q.f1 < p.f1 then 1 else 0
theorem or2_f (a b : Int) : cmp_Or_int.f 5 [a, b] = some (if a = 0 then b else a) := by
 simp only [cmp_Or_int.f, cmp_Or_int.l0, rd]
 by_cases ha : a = 0
 ·subst ha
  by_cases hb : b = 0 <;> simp [hb, wrap64]
 simp [ha]
theorem cmp_f (a b : Int) : cmp_Compare_int.f a b = some (if a < b then -1 else if b < a then 1 else 0) := by
 simp only [cmp_Compare_int.f, cmp_isNaN_int.f, Option.bind_some]
 simp
 split
 ·rfl
 split <;> rfl
theorem cmpPt_f (p q : S43) : impl_SortPoints_1.f 5 p.f0 p.f1 q.f0 q.f1 = some (cmpPt p q) := by
 simp only [impl_SortPoints_1.f, cmp_f, Option.bind_some, or2_f]
 unfold cmpPt
 congr 1
 repeat' split
 all_goals first | rfl | omega
def encPt (p : S43) : List Value := [.int .i64 p.f0, .int .i64 p.f1]
theorem encPt_one (p : S43) : ∀ v ∈ encPt p, v.oneCell' = true := by
 intro v hv
 simp [encPt] at hv
 rcases hv with rfl | rfl <;> rfl
instance inhPt : Inhabited S43 := ⟨⟨0, 0⟩⟩
theorem cmpLays_pt (blk off size : Nat) (w : World) : CmpLays Try.prog 28 #[] encPt 2 cmpPt blk off size w :=
 fun m os dk _ x y => (impl_SortPoints_1.calls 5 x.f0 x.f1 y.f0 y.f1 _ _ (cmpPt_f x y)).mono fun _ _ h => ⟨h.1, grown_of h.2.1 h.2.2⟩
theorem below_grow {B : Nat} {w0 w : World} (h : Below B w0 w) (hB : B ≤ w0.heap.size) (os : Array Obj) : Below B w0 (grow w os) :=
 ⟨h.os, h.tape, h.output, Nat.le_trans h.size (by simp [grow]), fun k hk => by
  have h1 := h.block k hk
  have h2 := h.size
  rw [← h1]
  simp only [grow]
  rw [Array.getElem?_append_left (by omega)]⟩
theorem own_at {w : World} {base : Nat} {e : TypeId} {size : Nat} {v : Value} {n : Nat} {xs : List Value} (h : w.ownsRow base e size v n xs) (hv : v ≠ .slice none 0 0) :
  ∃ g cap, v = .slice (some ⟨g, 0, none⟩) n cap ∧ base ≤ g ∧ g < w.heap.size ∧ ∀ (F : Array Value), F.toList = xs → Holds id w g 0 F := by
 rcases h.2 with ⟨e0, _⟩ | ⟨g, cap, cur, rfl, hb, hg, hn, hm, hs, ht⟩
 ·exact absurd e0 hv
 have hlt : g < w.heap.size := by
  rcases Nat.lt_or_ge g w.heap.size with h' | h'
  ·exact h'
  ·rw [Array.getElem?_eq_none h'] at hg; cases hg
 refine ⟨g, cap, rfl, hb, hlt, fun F hF j hj => ?_⟩
 refine ⟨?_, by simp [World.frozen?, hg]⟩
 have hj' : j < n * size := by rw [← h.1, ← hF]; simpa using hj
 have e1 : (cur.toList.take (n * size))[j]? = F.toList[j]? := by rw [ht, hF]
 rw [List.getElem?_take, if_pos hj', Array.getElem?_toList, Array.getElem?_toList, Array.getElem?_eq_getElem hj] at e1
 simp only [World.cell?, hg, Nat.zero_add]
 simp only [Option.isSome_none, Bool.false_eq_true, if_false]
 rw [e1]
 simp [getElem!_pos, hj]
theorem own_put {w : World} {base : Nat} {e : TypeId} {size g n cap q : Nat} {xs : List Value} {F : Array Value} (h : w.ownsRow base e size (.slice (some ⟨g, 0, none⟩) n cap) n xs) (hF : F.size = n * size) :
  (putRow id (Sort.ahead w q) g 0 F).ownsRow base e size (.slice (some ⟨g, 0, none⟩) n cap) n F.toList := by
 rcases h.2 with ⟨e0, _⟩ | ⟨g', cap', cur, e0, hb, hg, hn, hm, hs, ht⟩
 ·cases e0
 injection e0 with e1 _ e3
 injection e1 with e1
 injection e1 with e1
 subst e1; subst e3
 have hle : n * size ≤ cap * size := Nat.mul_le_mul_right _ hn
 refine ⟨by simpa using hF, .inr ⟨g, cap, putCells id 0 F cur, rfl, hb, ?_, hn, hm, by simpa [putCells] using hs, ?_⟩⟩
 ·simp [putRow, mapBlock, Sort.ahead, Array.getElem?_modify, hg, onCells]
 apply List.ext_getElem?
 intro j
 rw [List.getElem?_take, Array.getElem?_toList, Array.getElem?_toList]
 by_cases hj : j < n * size
 ·have hjc : j < cur.size := by omega
  simp only [if_pos hj, putCells, Array.getElem?_mapIdx, Array.getElem?_eq_getElem hjc, Option.map_some]
  rw [if_pos (by simp; omega), Array.getElem?_eq_getElem (by omega)]
  simp [getElem!_pos, show j < F.size by omega]
 rw [if_neg hj, Array.getElem?_eq_none (by omega)]
theorem own_grow {w : World} {base : Nat} {e : TypeId} {size n : Nat} {v : Value} {xs : List Value} (h : w.ownsRow base e size v n xs) (os : Array Obj) : (grow w os).ownsRow base e size v n xs := by
 refine ⟨h.1, h.2.imp id ?_⟩
 rintro ⟨g, cap, cur, e0, hb, hg, r⟩
 refine ⟨g, cap, cur, e0, hb, ?_, r⟩
 have hlt : g < w.heap.size := by
  rcases Nat.lt_or_ge g w.heap.size with h' | h'
  ·exact h'
  ·rw [Array.getElem?_eq_none h'] at hg; cases hg
 simp only [grow]
 rw [Array.getElem?_append_left hlt, hg]
theorem own_lower {w : World} {base base' : Nat} {e : TypeId} {size n : Nat} {v : Value} {xs : List Value} (h : w.ownsRow base e size v n xs) (hb : base' ≤ base) : w.ownsRow base' e size v n xs := by
 refine ⟨h.1, h.2.imp id ?_⟩
 rintro ⟨g, cap, cur, e0, hg, r⟩
 exact ⟨g, cap, cur, e0, Nat.le_trans hb hg, r⟩
def flatP (l : List S43) : Array Value := flatK encPt 2 l.toArray
theorem flatP_size (l : List S43) : (flatP l).size = l.length * 2 := by simp [flatP]
theorem flatP_at (l : List S43) (j i : Nat) (p : S43) (hp : l[j]? = some p) (hi : i < 2) : (flatP l)[j * 2 + i]? = (encPt p)[i]? := by
 have hj : j < l.length := by
  rcases Nat.lt_or_ge j l.length with h | h
  ·exact h
  ·rw [List.getElem?_eq_none h] at hp; cases hp
 have hs : j * 2 + i < l.toArray.size * 2 := by simp; omega
 have h1 := get_flatK encPt 2 l.toArray (j * 2 + i) hs
 rw [show (j * 2 + i) / 2 = j by omega, show (j * 2 + i) % 2 = i by omega] at h1
 have hl : l.toArray[j]! = p := by
  rw [List.getElem?_eq_getElem hj] at hp
  rw [getElem!_pos _ _ (by simpa using hj)]
  simpa using hp
 rw [hl] at h1
 have hs' : j * 2 + i < (flatP l).size := by rw [flatP_size]; omega
 rw [Array.getElem?_eq_getElem hs']
 have h2 : (flatP l)[j * 2 + i]! = (flatP l)[j * 2 + i]'hs' := getElem!_pos (flatP l) (j * 2 + i) hs'
 have he : i < (encPt p).length := hi
 rw [List.getElem?_eq_getElem he]
 rw [← h2]
 rw [getElem!_pos (encPt p) i he] at h1
 exact congrArg some h1
theorem flatP_reps (l : List S43) (w : World) (base : Nat) (ok : Nat → Prop) : Reps (k43.M w base ok) k43.sz l (flatP l).toList := by
 refine ⟨by rw [Array.length_toList, flatP_size]; rfl, fun j p hp => ?_⟩
 have e : ((flatP l).toList.drop (j * k43.sz)).take k43.sz = [.int .i64 p.f0, .int .i64 p.f1] := by
  apply List.ext_getElem?
  intro i
  have hz : k43.sz = 2 := rfl
  rw [List.getElem?_take, List.getElem?_drop, Array.getElem?_toList, hz]
  by_cases hi : i < 2
  ·rw [if_pos hi, flatP_at l j i p hp hi]
   rfl
  ·rw [if_neg hi, List.getElem?_eq_none (by simp; omega)]
 rw [e]
 exact k43_mkM w base ok p
theorem flatP_cells {w : World} {ad : Addr} {n : Nat} {l : List S43} (h : Kd.C k43 w (some ad) n l) (hn : 0 < n) : ∃ b off, ad = ⟨b, off, none⟩ ∧ ∀ j u, (flatP l).toList[j]? = some u → w.cell? ⟨b, off + j, none⟩ = some u := by
 obtain ⟨ad', e0, hc⟩ := h.2.2 hn
 injection e0 with e0
 subst e0
 have hall : ∀ j p, l[j]? = some p → ∀ i u, (encPt p)[i]? = some u → w.cell? (ad.add (j * 2 + i)) = some u := by
  intro j p hp i u hu
  obtain ⟨c, hs, hK, hcell⟩ := hc j p hp
  have hz : k43.sz = 2 := rfl
  rw [hz] at hcell
  obtain rfl := k43_open hK
  exact hcell i u hu
 have hlen := h.1
 have hsp : ad.spot = none := by
  have h0 := hall 0 (l[0]'(by omega)) (List.getElem?_eq_getElem _) 0 _ rfl
  simp only [Nat.zero_mul, Nat.add_zero, Addr.add, if_true] at h0
  cases hs : ad.spot with
  | none => rfl
  | some s =>
   simp only [World.cell?, hs] at h0
   split at h0 <;> simp at h0
 refine ⟨ad.block, ad.off, by cases ad; simp_all, fun j u hu => ?_⟩
 have hj : j < l.length * 2 := by
  rw [Array.getElem?_toList] at hu
  rcases Nat.lt_or_ge j (flatP l).size with h' | h'
  ·rw [flatP_size] at h'; exact h'
  ·rw [Array.getElem?_eq_none h'] at hu; cases hu
 have hp : l[j / 2]? = some (l[j / 2]'(by omega)) := List.getElem?_eq_getElem _
 have h1 := flatP_at l (j / 2) (j % 2) _ hp (by omega)
 rw [show j / 2 * 2 + j % 2 = j by omega, ← Array.getElem?_toList, hu] at h1
 have h2 := hall (j / 2) _ hp (j % 2) u h1.symm
 rw [show j / 2 * 2 + j % 2 = j by omega] at h2
 have e1 : ad.add j = ⟨ad.block, ad.off + j, none⟩ := by
  unfold Addr.add
  split
  ·subst_vars; cases ad; simp_all
  ·rfl
 rw [e1] at h2
 exact h2
theorem flatP_cells' {w : World} {b off n : Nat} {l : List S43} (h : Kd.C k43 w (some ⟨b, off, none⟩) n l) (hn : 0 < n) : ∀ j u, (flatP l).toList[j]? = some u → w.cell? ⟨b, off + j, none⟩ = some u := by
 obtain ⟨b', off', e, hc⟩ := flatP_cells h hn
 injection e with e1 e2
 subst e1; subst e2
 exact hc
def sortP (l : List S43) : List S43 := (Sort.insertionSort (ltOf cmpPt) l.toArray 0 l.toArray.size).toList
open Classical in
noncomputable def impl_SortPoints.f (l : List S43) : Option (List S43) :=
 if ∃ k, impl_ArePoints.f k l = some true then (if 0 < l.length ∧ l.length ≤ 12 then some (sortP l) else none) else if ∃ k, impl_ArePoints.f k l = some false then some [] else none
theorem hlenP (n : Nat) (W : World) (h : n ≤ 12) : Calls Try.prog 42 #[.int .u64 n] W fun e w' => (∃ l : Int, e = .returned (.int .i64 l)) ∧ w' = W :=
 (Any.bits_Len Try.bitsLen n W (by omega) (by omega)).mono fun _ _ ⟨he, hw⟩ => ⟨⟨_, he⟩, hw⟩
theorem ltPt (p q : S43) : ltOf cmpPt p q = true ↔ (p.f0 < q.f0 ∨ p.f0 = q.f0 ∧ p.f1 < q.f1) := by
 simp only [ltOf, cmpPt, decide_eq_true_eq]
 repeat' split
 all_goals simp
 all_goals omega
theorem ltPt_not (p q : S43) : ltOf cmpPt p q = false ↔ (q.f0 < p.f0 ∨ q.f0 = p.f0 ∧ q.f1 ≤ p.f1) := by
 rw [← Bool.not_eq_true, ltPt]
 omega
theorem swoPt : SWO (ltOf cmpPt) where
 irrefl := fun x => by rw [ltPt_not]; omega
 trans := fun x y z => by simp only [ltPt]; omega
 ntrans := fun x y z => by simp only [ltPt_not]; omega
theorem sortP_holds (l : List S43) : PermIn 0 l.toArray.size l.toArray (sortP l).toArray ∧ SortedIn (ltOf cmpPt) 0 l.toArray.size (sortP l).toArray :=
 insertionSort_holds swoPt l.toArray 0 l.toArray.size (Nat.zero_le _) (Nat.le_refl _)
theorem size_sortP (l : List S43) : (sortP l).length = l.length := (sortP_holds l).1.1
set_option maxHeartbeats 8000000 in
set_option maxRecDepth 100000 in
theorem impl_SortPoints.calls (A0 : Option Addr) (c0 : Nat) (l0 : List S43) (r : List S43) (w : World) (hr0 : Kd.C k43 w A0 l0.length l0) (hc0 : l0.length ≤ c0) (h : impl_SortPoints.f l0 = some r) :
  Calls Try.prog 9 #[.slice A0 l0.length c0] w fun e w' => ∃ v0_, e = .returned v0_ ∧ Kd.R k43 43 w' w.heap.size (fun _ => True) v0_ r ∧ Below w.heap.size w w' := by
 classical
 have HR := Aside0.mk hr0
 have HB := Aside0.mk (Below.refl w.heap.size w)
 simp only [impl_SortPoints.f] at h
 split at h
 ·rename_i hk
  obtain ⟨k, hk⟩ := hk
  split at h
  ·rename_i hn
   obtain rfl := Option.some.inj h
   clear h
   obtain ⟨hn0, hn1⟩ := hn
   obtain ⟨ad, hA, _⟩ := hr0.2.2 hn0
   subst hA
   obtain ⟨b, off, rfl, hcells⟩ := flatP_cells hr0 hn0
   clear hcells
   have HA := Aside0.mk (fun W h1 => impl_ArePoints.calls k (some ⟨b, off, none⟩) c0 l0 true W h1 hc0 hk)
   have hmax : l0.length ≤ 9223372036854775807 := hr0.2.1
   obtain ⟨i0, hi0, hz0, hs0, hb0⟩ := info_parts info43
   have HE := Aside0.mk (fun W (h1 : ∀ j u, (flatP l0).toList[j]? = some u → W.cell? ⟨b, off + j, none⟩ = some u) => AnyE.slices_Clone Try.clonePt i0 _ 2 16 hi0 hz0 hs0 hb0 rfl (by decide) Try.sizeOf43 b off l0.length c0 (flatP l0).toList W (by rw [Array.length_toList, flatP_size]) (by simp only [maxLen]; omega) (by omega) h1 (fun u hu => by
    have hu' := List.getElem?_of_mem hu
    obtain ⟨j, hj⟩ := hu'
    have hj2 : j < l0.length * 2 := by
     rw [Array.getElem?_toList] at hj
     rcases Nat.lt_or_ge j (flatP l0).size with h' | h'
     ·rw [flatP_size] at h'; exact h'
     ·rw [Array.getElem?_eq_none h'] at hj; cases hj
    have hp : l0[j / 2]? = some (l0[j / 2]'(by omega)) := List.getElem?_eq_getElem _
    have h1 := flatP_at l0 (j / 2) (j % 2) _ hp (by omega)
    rw [show j / 2 * 2 + j % 2 = j by omega, ← Array.getElem?_toList, hj] at h1
    exact encPt_one _ u (List.mem_of_getElem? h1.symm)))
   have eg : ∀ args w, (callFunc 28 args).run Try.prog w = .ok (.enter 28 args) w := enters_of Try.func28 (by kernel_rfl) rfl
   have HS := Aside0.mk (fun g cap W (hH : HoldsK encPt 2 W g 0 l0.toArray) hblk => AnyQ.slices_SortFunc_small Try.sortPt 2 Try.isAgg43 Try.sizeOf43 encPt (fun _ => rfl) encPt_one cmpPt 28 #[] g 0 cap l0.toArray W eg (cmpLays_pt _ _ _ _) hH hblk (by simpa using hn1) hlenP)
   have hsz := size_sortP l0
   have hrp := flatP_reps (sortP l0)
   have hfl : flatK encPt 2 (insertionSort (ltOf cmpPt) l0.toArray 0 l0.toArray.size) = flatP (sortP l0) := by simp [flatP, sortP]
   clear hr0 hi0 hz0 hs0 hb0 hk eg
   go_enter Try.func9, Try.ntmps9
   go_wp2_with (first | (go_at_call 25; refine (HA.out _ HR.out).mono ?_; rintro e w1 ⟨rfl, hb⟩; have HB1 := Aside0.mk hb; clear hb) | (go_at_call 26; refine (HE.out _ (flatP_cells' (Kd.C_below HR.out HB1.out) hn0)).mono ?_; rintro e w2 ⟨v2, rfl, hown, hne, hb⟩; obtain ⟨g, cap, rfl, hg, hlt, hH⟩ := own_at hown hne; have HO := Aside0.mk hown; have HH := Aside0.mk (hH (flatP l0) rfl); have HB2 := Aside0.mk hb; clear hb hown hH hne) | (go_at_call 27; refine (HS.out g cap _ HH.out hlt).mono ?_; rintro e w3 ⟨rfl, m, os, rfl⟩))
   go_ret
   have hR : (sortWorldK encPt 2 w2 g 0 m (insertionSort (ltOf cmpPt) l0.toArray 0 l0.toArray.size) os).ownsRow w1.heap.size 43 2 (.slice (some ⟨g, 0, none⟩) l0.length cap) l0.length (flatP (sortP l0)).toList := by
    rw [sortWorldK, putRowK, hfl]
    exact own_grow (own_put HO.out (by rw [flatP_size, hsz])) os
   have hBl : Go.RowKit.Below w.heap.size w (sortWorldK encPt 2 w2 g 0 m (insertionSort (ltOf cmpPt) l0.toArray 0 l0.toArray.size) os) := by
    have h1 := HB1.out.trans (HB2.out.mono HB1.out.size)
    exact below_grow (Go.Lib.below_putRow h1 (Nat.le_trans HB1.out.size hg)) (Nat.le_refl _) os
   refine ⟨_, rfl, ⟨fun _ _ => trivial, _, ?_, hrp _ _ _⟩, hBl⟩
   rw [hsz]
   exact own_lower hR HB1.out.size
  exact absurd h (by simp)
 split at h
 ·rename_i hk
  obtain ⟨k, hk⟩ := hk
  obtain rfl := Option.some.inj h
  clear h
  have HA := Aside0.mk (fun W h1 => impl_ArePoints.calls k A0 c0 l0 false W h1 hc0 hk)
  clear hk
  go_enter Try.func9, Try.ntmps9
  go_wp2_with (go_at_call 25; refine (HA.out _ HR.out).mono ?_; rintro e w1 ⟨rfl, hb⟩; have HB1 := Aside0.mk hb; clear hb)
  go_ret
  exact ⟨_, rfl, Kd.R_nil _ _ _ _ _, HB1.out⟩
 exact absurd h (by simp)
end Go.Proofs.Ythhgcdfdjlijjaa.G
namespace Go.Proofs.Ythhgcdfdjlijjaa.PX
open Go.RowKit Go.Proofs.Ythhgcdfdjlijjaa.G Go.Proofs.YthhgcdfdjlijjaaW.PrintWords Go.Proofs.YthhgcdfdjlijjaaW.PrintLast Go.Proofs.YthhgcdfdjlijjaaW.PrintMore
attribute [local go_sem] max2_int min2_int max_two min_two max_three min_three max_four min_four   -- for this text's walks alone
set_option linter.unusedVariables false
set_option linter.unusedSimpArgs false
/-! ### laws_szPointS: function 6 -/
def laws_szPointS.f (l0 : List (S45)) (a1 : Int) : Option (Int) := if (wrap64 (a1 - (l0.length : Int))) < 0 then (some (-1)) else (some (wrap64 (a1 - (l0.length : Int))))
set_option maxHeartbeats 8000000 in
set_option maxRecDepth 100000 in
theorem laws_szPointS.calls (A0 : Option Addr) (c0 : Nat) (l0 : List (S45)) (a1 : Int) (r : Int) (w : World) (hr0 : Kd.C k45 w A0 l0.length l0) (hc0 : l0.length ≤ c0) (h : laws_szPointS.f l0 a1 = some r) :
  Calls Try.prog 6 #[.slice A0 l0.length c0, .int .i64 a1] w fun e w' => e = .returned (.int .i64 r) ∧ Drawn0 w w' := by
 have HR0 := Aside0.mk hr0
 have HC0 := Aside0.mk hc0
 clear hr0 hc0
 have H : (if (wrap64 (a1 - (l0.length : Int))) < 0 then (some (-1)) else (some (wrap64 (a1 - (l0.length : Int))))) = some r := h
 clear h
 by_cases c3 : (wrap64 (a1 - (l0.length : Int))) < 0
 ·rw [if_pos c3] at H
  have c3b0 := decide_eq_true c3
  clear c3
  obtain rfl := Option.some.inj H
  go_enter Try.func6, Try.ntmps6
  go_wp2
  go_ret
  exact ⟨by first | rfl | (simp; done) | (simp [*]; done), by repeat (first | exact Drawn0.refl _ | apply Drawn0.step)⟩
 rw [if_neg c3] at H
 have c3b0 := decide_eq_false c3
 clear c3
 obtain rfl := Option.some.inj H
 go_enter Try.func6, Try.ntmps6
 go_wp2
 go_ret
 exact ⟨by first | rfl | (simp; done) | (simp [*]; done), by repeat (first | exact Drawn0.refl _ | apply Drawn0.step)⟩
/-! ### laws_eqPoint: function 31 -/
def laws_eqPoint.f (a0_0 : Int) (a0_1 : Int) (a1_0 : Int) (a1_1 : Int) : Option (Bool) := if a0_0 = a1_0 then (if a0_1 = a1_1 then (some true) else (some false)) else (some false)
set_option maxHeartbeats 8000000 in
set_option maxRecDepth 100000 in
theorem laws_eqPoint.calls (a0_0 : Int) (a0_1 : Int) (a1_0 : Int) (a1_1 : Int) (r : Bool) (w : World) (h : laws_eqPoint.f a0_0 a0_1 a1_0 a1_1 = some r) :
  Calls Try.prog 31 #[.agg #[.int .i64 a0_0, .int .i64 a0_1], .agg #[.int .i64 a1_0, .int .i64 a1_1]] w fun e w' => e = .returned (.bool r) ∧ Below w.heap.size w w' := by
 have hu43 := Try.underlying43
 have HB := Aside0.mk (Below.refl w.heap.size w)
 have H : (if a0_0 = a1_0 then (if a0_1 = a1_1 then (some true) else (some false)) else (some false)) = some r := h
 clear h
 by_cases c3 : a0_0 = a1_0
 ·rw [if_pos c3] at H
  have c3b0 := beq_iff_eq.mpr c3
  have c3b1 := bne_eq_false_iff_eq.mpr c3
  clear c3
  by_cases c4 : a0_1 = a1_1
  ·rw [if_pos c4] at H
   have c4b0 := beq_iff_eq.mpr c4
   have c4b1 := bne_eq_false_iff_eq.mpr c4
   clear c4
   obtain rfl := Option.some.inj H
   go_enter Try.func31, Try.ntmps31
   go_wp2_with (first | ((with_reducible refine gate_dst (N := 2) rfl ?_); refine zBx (N := 2) #[.int .i64 a0_0, .int .i64 a0_1] 43 ?_; intro gb203 hg w5 hbox hb; have BK203 := Aside0.mk (hbox); have GW203 := zS hg; have GE203 := zS hg; replace HB := zX hb; clear hb hbox hg) | ((with_reducible refine gate_dst (N := 3) rfl ?_); refine zBx (N := 3) #[.int .i64 a1_0, .int .i64 a1_1] 43 ?_; intro gb204 hg w6 hbox hb; have BK204 := Aside0.mk (hbox); have GW204 := zSg hg (zG GE203.out); have GE204 := zSg hg (zG GE203.out); have NB203_204 := zL hg BK203.out; have NB204_203 := zLg hg BK203.out; replace BK203 := zV BK203.out hb; replace HB := zX1 GE203.out hb; clear hb hbox hg; have hnb7 := NB203_204.out; have hnc7 := NB204_203.out; obtain ⟨hcz8_0, hcz8_1, hfz8_0, hfz8_1⟩ := zq2 BK203.out; obtain ⟨hcz9_0, hcz9_1, hfz9_0, hfz9_1⟩ := zq2 BK204.out))
   go_ret
   exact ⟨zE, zG2 GE203.out GE204.out⟩
  rw [if_neg c4] at H
  have c4b0 := beq_eq_false_iff_ne.mpr c4
  have c4b1 := bne_iff_ne.mpr c4
  obtain rfl := Option.some.inj H
  go_enter Try.func31, Try.ntmps31
  go_wp2_with (first | ((with_reducible refine gate_dst (N := 2) rfl ?_); refine zBx (N := 2) #[.int .i64 a0_0, .int .i64 a0_1] 43 ?_; intro gb203 hg w10 hbox hb; have BK203 := Aside0.mk (hbox); have GW203 := zS hg; have GE203 := zS hg; replace HB := zX hb; clear hb hbox hg) | ((with_reducible refine gate_dst (N := 3) rfl ?_); refine zBx (N := 3) #[.int .i64 a1_0, .int .i64 a1_1] 43 ?_; intro gb204 hg w11 hbox hb; have BK204 := Aside0.mk (hbox); have GW204 := zSg hg (zG GE203.out); have GE204 := zSg hg (zG GE203.out); have NB203_204 := zL hg BK203.out; have NB204_203 := zLg hg BK203.out; replace BK203 := zV BK203.out hb; replace HB := zX1 GE203.out hb; clear hb hbox hg; have hnb12 := NB203_204.out; have hnc12 := NB204_203.out; obtain ⟨hcz13_0, hcz13_1, hfz13_0, hfz13_1⟩ := zq2 BK203.out; obtain ⟨hcz14_0, hcz14_1, hfz14_0, hfz14_1⟩ := zq2 BK204.out))
  go_ret
  exact ⟨zE, zG2 GE203.out GE204.out⟩
 rw [if_neg c3] at H
 have c3b0 := beq_eq_false_iff_ne.mpr c3
 have c3b1 := bne_iff_ne.mpr c3
 obtain rfl := Option.some.inj H
 go_enter Try.func31, Try.ntmps31
 go_wp2_with (first | ((with_reducible refine gate_dst (N := 2) rfl ?_); refine zBx (N := 2) #[.int .i64 a0_0, .int .i64 a0_1] 43 ?_; intro gb203 hg w15 hbox hb; have BK203 := Aside0.mk (hbox); have GW203 := zS hg; have GE203 := zS hg; replace HB := zX hb; clear hb hbox hg) | ((with_reducible refine gate_dst (N := 3) rfl ?_); refine zBx (N := 3) #[.int .i64 a1_0, .int .i64 a1_1] 43 ?_; intro gb204 hg w16 hbox hb; have BK204 := Aside0.mk (hbox); have GW204 := zSg hg (zG GE203.out); have GE204 := zSg hg (zG GE203.out); have NB203_204 := zL hg BK203.out; have NB204_203 := zLg hg BK203.out; replace BK203 := zV BK203.out hb; replace HB := zX1 GE203.out hb; clear hb hbox hg; have hnb17 := NB203_204.out; have hnc17 := NB204_203.out; obtain ⟨hcz18_0, hcz18_1, hfz18_0, hfz18_1⟩ := zq2 BK203.out; obtain ⟨hcz19_0, hcz19_1, hfz19_0, hfz19_1⟩ := zq2 BK204.out))
 go_ret
 exact ⟨zE, zG2 GE203.out GE204.out⟩
/-! ### laws_eqPointS: function 10 -/
def laws_eqPointS.l0 : Nat → List (S43) → List (S43) → Int → Option (Bool)
 | 0, _, _, _ => none
 | k + 1, x0, x1, x5 => if x5 < (x0.length : Int) then (if 0 ≤ x5 then (if x5 < (x1.length : Int) then ((laws_eqPoint.f ((rd_T43 x0 x5).f0) ((rd_T43 x0 x5).f1) ((rd_T43 x1 x5).f0) ((rd_T43 x1 x5).f1)).bind fun t207 => (if t207 = true then (laws_eqPointS.l0 k x0 x1 (wrap64 (x5 + 1))) else (some false))) else (none)) else (none)) else (some true)
def laws_eqPointS.f (k : Nat) (l0 : List (S43)) (l1 : List (S43)) : Option (Bool) := if (l0.length : Int) = (l1.length : Int) then (laws_eqPointS.l0 k l0 l1 0) else (some false)
def laws_eqPointS.T6 : Bool × List (List Nat × List Nat) := (true, [([], []), ([], []), ([0, 1], [0, 1]), ([2], [2]), ([], []), ([], []), ([4, 5], [4, 5]), ([6], [6]), ([3, 7], [3, 7]), ([8], [8])])
def laws_eqPointS.B6 : List Nat := [0, 0, 3, 7, 0, 0, 48, 112, 255, 511]
theorem laws_eqPointS.tab6 : rtab .any (opsOf Try.f10 6) = laws_eqPointS.T6 := by kernel_rfl
theorem laws_eqPointS.bits6 : waitsOk laws_eqPointS.T6.2 laws_eqPointS.B6 = true := by kernel_rfl
set_option maxHeartbeats 8000000 in
set_option maxRecDepth 100000 in
theorem laws_eqPointS.calls (k : Nat) (A0 : Option Addr) (c0 : Nat) (l0 : List (S43)) (A1 : Option Addr) (c1 : Nat) (l1 : List (S43)) (r : Bool) (w : World) (hr0 : Kd.C k43 w A0 l0.length l0) (hc0 : l0.length ≤ c0) (hr1 : Kd.C k43 w A1 l1.length l1) (hc1 : l1.length ≤ c1) (h : laws_eqPointS.f k l0 l1 = some r) :
  Calls Try.prog 10 #[.slice A0 l0.length c0, .slice A1 l1.length c1] w fun e w' => e = .returned (.bool r) ∧ Below w.heap.size w w' := by
 have hu43 := Try.underlying43
 have HR0 := Aside0.mk hr0
 have HC0 := Aside0.mk hc0
 clear hr0 hc0
 have HR1 := Aside0.mk hr1
 have HC1 := Aside0.mk hc1
 clear hr1 hc1
 have HB := Aside0.mk (Below.refl w.heap.size w)
 have H : (if (l0.length : Int) = (l1.length : Int) then (laws_eqPointS.l0 k l0 l1 0) else (some false)) = some r := h
 clear h
 by_cases c3 : (l0.length : Int) = (l1.length : Int)
 ·rw [if_pos c3] at H
  have c3b0 := beq_iff_eq.mpr c3
  have c3b1 := bne_eq_false_iff_eq.mpr c3
  have c3b2 : (l0.length == l1.length) = true := by first | simpa using c3 | (simp at c3 ⊢; omega)
  clear c3
  have H' := Aside0.mk H; clear H
  go_enter Try.func10, Try.ntmps10
  go_wp2
  go_loopg [5] k (fun kq v5 w' => ∃ (x5_1 : Int), v5 = .int .i64 x5_1 ∧ Aside0 (laws_eqPointS.l0 kq l0 l1 x5_1 = some r) ∧ Aside0 (kq ≤ k) ∧ Aside0 (Below w.heap.size w w'))
  case atStart => exact ⟨(0), zF, H', ⟨Nat.le_refl _⟩, ⟨zB⟩⟩
  case round =>
  clear H'
  try clear c3
  try clear c3b0
  try clear c3b1
  try clear c3b2
  obtain ⟨x5_1, rfl, HA, HK1, HB⟩ := hrel
  cases gk with
  | zero => exact absurd HA.out (by simp [laws_eqPointS.l0])
  | succ k1 =>
  have H := HA.out
  clear HA
  simp only [laws_eqPointS.l0] at H
  by_cases c4 : x5_1 < (l0.length : Int)
  ·rw [if_pos c4] at H
   have c4b0 := decide_eq_true c4
   clear c4
   by_cases c5 : 0 ≤ x5_1
   ·rw [if_pos c5] at H
    have c5b0 := decide_eq_true c5
    clear c5
    by_cases c6 : x5_1 < (l1.length : Int)
    ·rw [if_pos c6] at H
     have c6b0 := decide_eq_true c6
     clear c6
     obtain ⟨t207, A7, H⟩ := zO H
     by_cases c8 : t207 = true
     ·subst c8
      replace H := (if_pos rfl).symm.trans H
      have H' := Aside0.mk H; clear H
      try go_wp2
      replace HB := Aside0.mk (below_drew1 HB.out)
      have p205 : 0 ≤ (x5_1 : Int) := zA
      have q205 : x5_1 < (l0.length : Int) := zA
      obtain ⟨ad205, e205, hx205_0, hx205_1⟩ := at_T43 HR0.out x5_1 p205 q205
      have hw205_1 := hx205_1
      have hw205_0 := hx205_0
      cases e205
      replace hx205_0 := (HB.out.cell (World.block_lt_of_cell? w _ hx205_0)).trans hx205_0
      replace hx205_1 := (HB.out.cell (World.block_lt_of_cell? w _ hx205_1)).trans hx205_1
      replace p205 := eq_true p205
      replace q205 := eq_true q205
      have p206 : 0 ≤ (x5_1 : Int) := zA
      have q206 : x5_1 < (l1.length : Int) := zA
      obtain ⟨ad206, e206, hx206_0, hx206_1⟩ := at_T43 HR1.out x5_1 p206 q206
      have hw206_1 := hx206_1
      have hw206_0 := hx206_0
      cases e206
      replace hx206_0 := (HB.out.cell (World.block_lt_of_cell? w _ hx206_0)).trans hx206_0
      replace hx206_1 := (HB.out.cell (World.block_lt_of_cell? w _ hx206_1)).trans hx206_1
      replace p206 := eq_true p206
      replace q206 := eq_true q206
      refine start_ (n := 10) (S := fun w' => w'.cell? (ad205.add ((x5_1).toNat * 2)) = some (.int .i64 ((rd_T43 l0 x5_1).f0)) ∧ w'.cell? ⟨(ad205.add ((x5_1).toNat * 2)).block, (ad205.add ((x5_1).toNat * 2)).off + 1, none⟩ = some (.int .i64 ((rd_T43 l0 x5_1).f1)) ∧ w'.cell? (ad206.add ((x5_1).toNat * 2)) = some (.int .i64 ((rd_T43 l1 x5_1).f0)) ∧ w'.cell? ⟨(ad206.add ((x5_1).toNat * 2)).block, (ad206.add ((x5_1).toNat * 2)).off + 1, none⟩ = some (.int .i64 ((rd_T43 l1 x5_1).f1))) (ds := []) #[false, false, false, false, false, false, false, false, false, false] (by kernel_rfl) rfl rfl ⟨((HB.out.cell (World.block_lt_of_cell? w _ hw205_0)).trans hw205_0), ((HB.out.cell (World.block_lt_of_cell? w _ hw205_1)).trans hw205_1), ((HB.out.cell (World.block_lt_of_cell? w _ hw206_0)).trans hw206_0), ((HB.out.cell (World.block_lt_of_cell? w _ hw206_1)).trans hw206_1)⟩ (fun hHeld => ?_); refine with_tabW laws_eqPointS.tab6 laws_eqPointS.bits6 (fun HT_ HW_ => ?_)
      generalize wr.drew = w9 at HB hx205_0 hx205_1 hx206_0 hx206_1 hHeld ⊢
      refine zP 0 (some 17) rfl rfl ?_
      refine zP 1 (some 18) rfl rfl ?_
      refine zP 2 (some 19) rfl rfl ?_
      refine zP 4 (some 21) rfl rfl ?_
      refine zP 5 (some 22) rfl rfl ?_
      refine zP 6 (some 23) rfl rfl ?_
      refine zY4 3 (some 20) rfl rfl hHeld ?_
      refine zY4 7 (some 24) rfl rfl hHeld ?_
      refine zU 8 (some 25) rfl rfl (fun K hK => ?_)
      refine goes_ Try.func31 (by kernel_rfl) rfl #[.agg #[.int .i64 ((rd_T43 l0 x5_1).f0), .int .i64 ((rd_T43 l0 x5_1).f1)], .agg #[.int .i64 ((rd_T43 l1 x5_1).f0), .int .i64 ((rd_T43 l1 x5_1).f1)]] (by rfl) rfl rfl zM ?_
      with_reducible refine (laws_eqPoint.calls ((rd_T43 l0 x5_1).f0) ((rd_T43 l0 x5_1).f1) ((rd_T43 l1 x5_1).f0) ((rd_T43 l1 x5_1).f1) true _ A7.out).mono ?_
      rintro e w10 ⟨rfl, hb⟩
      refine ⟨_, rfl, ?_⟩
      replace HB := zX hb
      (try clear hb)
      refine hK.out _ _ ⟨((HB.out.cell (World.block_lt_of_cell? w _ hw205_0)).trans hw205_0), ((HB.out.cell (World.block_lt_of_cell? w _ hw205_1)).trans hw205_1), ((HB.out.cell (World.block_lt_of_cell? w _ hw206_0)).trans hw206_0), ((HB.out.cell (World.block_lt_of_cell? w _ hw206_1)).trans hw206_1)⟩ (fun hHeld => ?_)
      clear hK K
      refine zN ?_
      refine zP 9 (some 26) rfl rfl ?_
      refine done_ (done_of HT_.out (by kernel_rfl)) ?_
      try go_wp2
      go_roundg k1
      case measure => have := HK1.out; omega
      case rel => exact ⟨(wrap64 (x5_1 + 1)), zF, H', ⟨by have := HK1.out; omega⟩, ⟨zB⟩⟩
     replace c8 := Bool.eq_false_iff.mpr c8
     subst c8
     replace H := (if_neg zFf).symm.trans H
     obtain rfl := Option.some.inj H
     try go_wp2
     replace HB := Aside0.mk (below_drew1 HB.out)
     have p205 : 0 ≤ (x5_1 : Int) := zA
     have q205 : x5_1 < (l0.length : Int) := zA
     obtain ⟨ad205, e205, hx205_0, hx205_1⟩ := at_T43 HR0.out x5_1 p205 q205
     have hw205_1 := hx205_1
     have hw205_0 := hx205_0
     cases e205
     replace hx205_0 := (HB.out.cell (World.block_lt_of_cell? w _ hx205_0)).trans hx205_0
     replace hx205_1 := (HB.out.cell (World.block_lt_of_cell? w _ hx205_1)).trans hx205_1
     replace p205 := eq_true p205
     replace q205 := eq_true q205
     have p206 : 0 ≤ (x5_1 : Int) := zA
     have q206 : x5_1 < (l1.length : Int) := zA
     obtain ⟨ad206, e206, hx206_0, hx206_1⟩ := at_T43 HR1.out x5_1 p206 q206
     have hw206_1 := hx206_1
     have hw206_0 := hx206_0
     cases e206
     replace hx206_0 := (HB.out.cell (World.block_lt_of_cell? w _ hx206_0)).trans hx206_0
     replace hx206_1 := (HB.out.cell (World.block_lt_of_cell? w _ hx206_1)).trans hx206_1
     replace p206 := eq_true p206
     replace q206 := eq_true q206
     refine start_ (n := 10) (S := fun w' => w'.cell? (ad205.add ((x5_1).toNat * 2)) = some (.int .i64 ((rd_T43 l0 x5_1).f0)) ∧ w'.cell? ⟨(ad205.add ((x5_1).toNat * 2)).block, (ad205.add ((x5_1).toNat * 2)).off + 1, none⟩ = some (.int .i64 ((rd_T43 l0 x5_1).f1)) ∧ w'.cell? (ad206.add ((x5_1).toNat * 2)) = some (.int .i64 ((rd_T43 l1 x5_1).f0)) ∧ w'.cell? ⟨(ad206.add ((x5_1).toNat * 2)).block, (ad206.add ((x5_1).toNat * 2)).off + 1, none⟩ = some (.int .i64 ((rd_T43 l1 x5_1).f1))) (ds := []) #[false, false, false, false, false, false, false, false, false, false] (by kernel_rfl) rfl rfl ⟨((HB.out.cell (World.block_lt_of_cell? w _ hw205_0)).trans hw205_0), ((HB.out.cell (World.block_lt_of_cell? w _ hw205_1)).trans hw205_1), ((HB.out.cell (World.block_lt_of_cell? w _ hw206_0)).trans hw206_0), ((HB.out.cell (World.block_lt_of_cell? w _ hw206_1)).trans hw206_1)⟩ (fun hHeld => ?_); refine with_tabW laws_eqPointS.tab6 laws_eqPointS.bits6 (fun HT_ HW_ => ?_)
     generalize wr.drew = w11 at HB hx205_0 hx205_1 hx206_0 hx206_1 hHeld ⊢
     refine zP 0 (some 17) rfl rfl ?_
     refine zP 1 (some 18) rfl rfl ?_
     refine zP 2 (some 19) rfl rfl ?_
     refine zP 4 (some 21) rfl rfl ?_
     refine zP 5 (some 22) rfl rfl ?_
     refine zP 6 (some 23) rfl rfl ?_
     refine zY4 3 (some 20) rfl rfl hHeld ?_
     refine zY4 7 (some 24) rfl rfl hHeld ?_
     refine zU 8 (some 25) rfl rfl (fun K hK => ?_)
     refine goes_ Try.func31 (by kernel_rfl) rfl #[.agg #[.int .i64 ((rd_T43 l0 x5_1).f0), .int .i64 ((rd_T43 l0 x5_1).f1)], .agg #[.int .i64 ((rd_T43 l1 x5_1).f0), .int .i64 ((rd_T43 l1 x5_1).f1)]] (by rfl) rfl rfl zM ?_
     with_reducible refine (laws_eqPoint.calls ((rd_T43 l0 x5_1).f0) ((rd_T43 l0 x5_1).f1) ((rd_T43 l1 x5_1).f0) ((rd_T43 l1 x5_1).f1) false _ A7.out).mono ?_
     rintro e w12 ⟨rfl, hb⟩
     refine ⟨_, rfl, ?_⟩
     replace HB := zX hb
     (try clear hb)
     refine hK.out _ _ ⟨((HB.out.cell (World.block_lt_of_cell? w _ hw205_0)).trans hw205_0), ((HB.out.cell (World.block_lt_of_cell? w _ hw205_1)).trans hw205_1), ((HB.out.cell (World.block_lt_of_cell? w _ hw206_0)).trans hw206_0), ((HB.out.cell (World.block_lt_of_cell? w _ hw206_1)).trans hw206_1)⟩ (fun hHeld => ?_)
     clear hK K
     refine zN ?_
     refine zP 9 (some 26) rfl rfl ?_
     refine done_ (done_of HT_.out (by kernel_rfl)) ?_
     try go_wp2
     go_ret
     exact ⟨zE, zB⟩
    rw [if_neg c6] at H
    exact absurd H (by simp)
   rw [if_neg c5] at H
   exact absurd H (by simp)
  rw [if_neg c4] at H
  have c4b0 := decide_eq_false c4
  clear c4
  obtain rfl := Option.some.inj H
  go_wp2
  go_ret
  exact ⟨zE, zB⟩
 rw [if_neg c3] at H
 have c3b0 := beq_eq_false_iff_ne.mpr c3
 have c3b1 := bne_iff_ne.mpr c3
 have c3b2 : (l0.length == l1.length) = false := by first | simpa using c3 | (simp at c3 ⊢; omega)
 obtain rfl := Option.some.inj H
 go_enter Try.func10, Try.ntmps10
 go_wp2
 go_ret
 exact ⟨zE, zB⟩
/-! ### laws_markPointS: function 11 -/
def laws_markPointS.l0 : Nat → List (S43) → Int → Int → Option (Int × (List (S43)))
 | 0, _, _, _ => none
 | k + 1, x0, x1, x5 => if x5 < (x0.length : Int) then (if 0 ≤ x5 then ((some (x0.set (x5 : Int).toNat (⟨x1, (rd_T43 x0 x5).f1⟩ : S43) : List (S43))).bind fun y208 => (laws_markPointS.l0 k (y208.set (x5 : Int).toNat (⟨(rd_T43 y208 x5).f0, wrap64 (x1 + 1)⟩ : S43)) (wrap64 ((wrap64 (x1 + 1)) + 1)) (wrap64 (x5 + 1)))) else (none)) else (some (x1, x0))
def laws_markPointS.f (k : Nat) (l0 : List (S43)) (a1 : Int) : Option (Int × (List (S43))) := laws_markPointS.l0 k l0 a1 0
theorem zl41_0 {p q : Prop} (g : p) (h : p → q := by intro zg_; repeat (first | (with_reducible first | exact zg_ | apply Kept.alloc | apply Kept.drewN | apply Kept.drew) | exact zg_)) : q := h g
set_option maxHeartbeats 8000000 in
set_option maxRecDepth 100000 in
theorem laws_markPointS.calls (k : Nat) (P0_ : Nat → Prop) (u9000_ : Value) (l0 : List (S43)) (a1 : Int) (r1 : Int) (r2 : List (S43)) (w0 w : World) (hB : Below w0.heap.size w0 w) (ho0 : Kd.R k43 43 w w0.heap.size P0_ u9000_ l0) (h : laws_markPointS.f k l0 a1 = some (r1, r2)) :
  Calls Try.prog 11 #[u9000_, .int .i64 a1] w fun e w' => e = .returned (.int .i64 r1) ∧ Kd.R k43 43 w' w0.heap.size (fun k_ => (P0_ k_ ∨ w.heap.size ≤ k_)) u9000_ r2 ∧ Below w0.heap.size w0 w' ∧ Kept w w' (fun k_ => P0_ k_) := by
 have HO0 := Aside0.mk (show Kd.R k43 43 w w0.heap.size (fun k_ => (P0_ k_ ∨ w.heap.size ≤ k_)) u9000_ l0 from Kd.R_mono ho0 (fun k_ hk => (.inl hk)))
 have HK := Aside0.mk (Kept.refl w (fun k_ => P0_ k_))
 have HW0 := Aside0.mk hB.size
 have HB := Aside0.mk hB
 clear hB
 have H : (laws_markPointS.l0 k l0 a1 0) = some (r1, r2) := h
 clear h
 have H' := Aside0.mk H; clear H
 go_enter Try.func11, Try.ntmps11
 go_wp2
 go_loopg [1, 5] k (fun kq v1 v5 w' => ∃ (x0_1 : List (S43)) (x1_1 : Int) (x5_1 : Int), v1 = .int .i64 x1_1 ∧ v5 = .int .i64 x5_1 ∧ Aside0 (laws_markPointS.l0 kq x0_1 x1_1 x5_1 = some (r1, r2)) ∧ Aside0 (kq ≤ k) ∧ Aside0 (Kd.R k43 43 w' w0.heap.size (fun k_ => (P0_ k_ ∨ w.heap.size ≤ k_)) u9000_ x0_1) ∧ Aside0 (Kept w w' (fun k_ => P0_ k_)) ∧ Aside0 (Below w0.heap.size w0 w'))
 case atStart => exact ⟨(l0), (a1), (0), zF, zF, H', ⟨Nat.le_refl _⟩, ⟨zR HO0.out⟩, ⟨(zl41_0 HK.out)⟩, ⟨zB⟩⟩
 case round =>
 clear H'
 obtain ⟨x0_1, x1_1, x5_1, rfl, rfl, HA, HK1, HO_0, HK, HB⟩ := hrel
 cases gk with
 | zero => exact absurd HA.out (by simp [laws_markPointS.l0])
 | succ k1 =>
 have H := HA.out
 clear HA
 simp only [laws_markPointS.l0] at H
 by_cases c3 : x5_1 < (x0_1.length : Int)
 ·rw [if_pos c3] at H
  have c3b0 := decide_eq_true c3
  clear c3
  by_cases c4 : 0 ≤ x5_1
  ·rw [if_pos c4] at H
   have c4b0 := decide_eq_true c4
   clear c4
   obtain ⟨y208, hy208⟩ : ∃ y_ : List (S43), y_ = (x0_1.set (x5_1 : Int).toNat (⟨x1_1, (rd_T43 x0_1 x5_1).f1⟩ : S43)) := ⟨_, rfl⟩
   replace H : (laws_markPointS.l0 k1 (y208.set (x5_1 : Int).toNat (⟨(rd_T43 y208 x5_1).f0, wrap64 (x1_1 + 1)⟩ : S43)) (wrap64 ((wrap64 (x1_1 + 1)) + 1)) (wrap64 (x5_1 + 1))) = some (r1, r2) := by first | (rw [hy208]; with_reducible exact H) | (have H2_ := (Option.bind_some _ _).symm.trans H; rw [hy208]; with_reducible exact H2_) | (have H2_ := (Option.bind_some _ _).symm.trans H; with_reducible exact H2_) | with_reducible exact H | (rw [hy208]; exact H) | exact H
   have Ny208 := Aside0.mk hy208
   clear hy208
   obtain ⟨y209, hy209⟩ : ∃ y_ : List (S43), y_ = (y208.set (x5_1 : Int).toNat (⟨(rd_T43 y208 x5_1).f0, wrap64 (x1_1 + 1)⟩ : S43)) := ⟨_, rfl⟩
   replace H : (laws_markPointS.l0 k1 y209 (wrap64 ((wrap64 (x1_1 + 1)) + 1)) (wrap64 (x5_1 + 1))) = some (r1, r2) := by first | (rw [hy209]; with_reducible exact H) | (have H2_ := (Option.bind_some _ _).symm.trans H; rw [hy209]; with_reducible exact H2_) | (have H2_ := (Option.bind_some _ _).symm.trans H; with_reducible exact H2_) | with_reducible exact H | (rw [hy209]; exact H) | exact H
   have Ny209 := Aside0.mk hy209
   clear hy209
   have H' := Aside0.mk H; clear H
   obtain ⟨Ao7, co7, eo7⟩ := Kd.R_slice HO_0.out
   subst eo7
   have p5 : 0 ≤ (x5_1 : Int) := zA
   have q5 : (x5_1 : Int) < ((x0_1.length : Int) : Int) := zA
   obtain ⟨go5, co5, eo5, gb5, gl5, cl5, HG5⟩ := Kd.R_form HO_0.out (by omega)
   (first | cases eo5 | (injection eo5 with ea_ en_ ec_; (first | subst ea_ | (injection ea_ with ea_; subst ea_)); subst ec_; clear en_))
   have GB5 := Aside0.mk gb5
   have GG5 := Aside0.mk HG5
   clear gb5 gl5 HG5
   have HMgo5 := Aside0.mk (show (P0_ go5 ∨ w.heap.size ≤ go5) from (HO_0.out.1 _ rfl))
   obtain ⟨ce5, hcl5, hM5, hcc5, hfr5⟩ := Kd.R_elem HO_0.out z43 (x5_1 : Int) p5 q5
   obtain rfl := k43_openM hM5
   have hx5_0 : wr.cell? ⟨go5, (x5_1 : Int).toNat * 2, none⟩ = some (.int .i64 ((rd_T43 x0_1 x5_1).f0)) := hcc5 0 _ rfl
   have hx5_1 : wr.cell? ⟨go5, (x5_1 : Int).toNat * 2 + 1, none⟩ = some (.int .i64 ((rd_T43 x0_1 x5_1).f1)) := hcc5 1 _ rfl
   have hf5_0 : wr.frozen? ⟨go5, (x5_1 : Int).toNat * 2, none⟩ = false := hfr5 0
   have hf5_1 : wr.frozen? ⟨go5, (x5_1 : Int).toNat * 2 + 1, none⟩ = false := hfr5 1
   clear hcl5 hcc5 hfr5 hM5
   replace p5 := eq_true p5
   replace q5 := eq_true q5
   have HX8 := Aside0.mk (show Kd.R k43 43 wr w0.heap.size (fun k_ => (P0_ k_ ∨ w.heap.size ≤ k_)) (.slice (some ⟨go5, 0, none⟩) x0_1.length co7) x0_1 from (zR HO_0.out))
   obtain ⟨ce8, hcl8, hM8, hcc8, hfr8⟩ := Kd.R_elem HX8.out z43 (x5_1 : Int) (zA) (by have h_ : (x5_1 : Int) < ((x0_1.length : Int) : Int) := zA; first | exact h_ | (have e_ := (Kd.R_reads' HO_0.out).1; omega) | simpa using h_)
   obtain rfl := k43_openM hM8
   have HP8 := Kd.R_seg HX8.out (x5_1 : Int) (zA) (by have h_ : (x5_1 : Int) < ((x0_1.length : Int) : Int) := zA; first | exact h_ | (have e_ := (Kd.R_reads' HO_0.out).1; omega) | simpa using h_) (seg := [.int .i64 x1_1]) (j := 0) hcl8 hcc8 (show 1 ≤ 2 from by decide) (x' := (⟨x1_1, (rd_T43 x0_1 x5_1).f1⟩ : S43)) (k43_mkM _ _ _ (⟨x1_1, (rd_T43 x0_1 x5_1).f1⟩ : S43) ) (fun _ hk => hk)
   have hx8_0 := hcc8 0 _ rfl
   (try simp only [show (k43).sz = 2 from rfl, Nat.mul_one, Nat.add_zero] at hx8_0)
   have hf8_0 := hfr8 0
   (try simp only [show (k43).sz = 2 from rfl, Nat.mul_one, Nat.add_zero] at hf8_0)
   clear hcl8 hcc8 hfr8 hM8
   go_wp2_with (first | ((with_reducible refine gate_store (t := 3) (p := 16) rfl ?_); refine store_event (t := 3) (p := 16) (v := ?vo_w9) (w1 := (wr.setCell ⟨go5, (x5_1 : Int).toNat * 2, none⟩ (.int .i64 x1_1))) ?hg ?ho ?hn ?hr ?_; (case ho => rfl); (case hg => rfl); (case hn => rfl); (case hr => first | (go_simp; done) | (go_simp; rfl)); intro w9 hw; have hg : wr.grownBy w9 (some go5) := (by rw [hw]; exact HP8.2); have hp_ : Kd.R k43 43 w9 w0.heap.size (fun k_ => (P0_ k_ ∨ w.heap.size ≤ k_)) (.slice (some ⟨go5, 0, none⟩) x0_1.length co7) y208 := (by rw [hw, Ny208.out]; exact HP8.1); clear HP8; replace HK := Aside0.mk (Kept.of_grown (S := (fun k_ => P0_ k_)) hg (zl41_0 HK.out) (fun k_ e_ => (HO_0.out.1 k_ e_))); replace HO_0 := Aside0.mk (hp_); replace HB := Aside0.mk ((by rw [hw]; exact below_set (HB.out) GB5.out : Below w0.heap.size w0 w9)); clear hg hw hp_; have p6 : 0 ≤ (x5_1 : Int) := zA; have q6 : (x5_1 : Int) < ((x0_1.length : Int) : Int) := zA; obtain ⟨ce6, hcl6, hM6, hcc6, hfr6⟩ := Kd.R_elem HO_0.out z43 (x5_1 : Int) p6 q6; obtain rfl := k43_openM hM6; have hx6_0 : w9.cell? ⟨go5, (x5_1 : Int).toNat * 2, none⟩ = some (.int .i64 ((rd_T43 y208 x5_1).f0)) := hcc6 0 _ rfl; have hx6_1 : w9.cell? ⟨go5, (x5_1 : Int).toNat * 2 + 1, none⟩ = some (.int .i64 ((rd_T43 y208 x5_1).f1)) := hcc6 1 _ rfl; have hf6_0 : w9.frozen? ⟨go5, (x5_1 : Int).toNat * 2, none⟩ = false := hfr6 0; have hf6_1 : w9.frozen? ⟨go5, (x5_1 : Int).toNat * 2 + 1, none⟩ = false := hfr6 1; clear hcl6 hcc6 hfr6 hM6; replace p6 := eq_true p6; replace q6 := eq_true q6; have HX10 := Aside0.mk (show Kd.R k43 43 w9 w0.heap.size (fun k_ => (P0_ k_ ∨ w.heap.size ≤ k_)) (.slice (some ⟨go5, 0, none⟩) x0_1.length co7) y208 from (zR HO_0.out)); obtain ⟨ce10, hcl10, hM10, hcc10, hfr10⟩ := Kd.R_elem HX10.out z43 (x5_1 : Int) (zA) (by have h_ : (x5_1 : Int) < ((x0_1.length : Int) : Int) := zA; first | exact h_ | (have e_ := (Kd.R_reads' HO_0.out).1; omega) | simpa using h_); obtain rfl := k43_openM hM10; have HP10 := Kd.R_seg HX10.out (x5_1 : Int) (zA) (by have h_ : (x5_1 : Int) < ((x0_1.length : Int) : Int) := zA; first | exact h_ | (have e_ := (Kd.R_reads' HO_0.out).1; omega) | simpa using h_) (seg := [.int .i64 (wrap64 (x1_1 + 1))]) (j := 1) hcl10 hcc10 (show 2 ≤ 2 from by decide) (x' := (⟨(rd_T43 y208 x5_1).f0, wrap64 (x1_1 + 1)⟩ : S43)) (k43_mkM _ _ _ (⟨(rd_T43 y208 x5_1).f0, wrap64 (x1_1 + 1)⟩ : S43) ) (fun _ hk => hk); have hx10_1 := hcc10 1 _ rfl; (try simp only [show (k43).sz = 2 from rfl, Nat.mul_one, Nat.add_zero] at hx10_1); have hf10_1 := hfr10 1; (try simp only [show (k43).sz = 2 from rfl, Nat.mul_one, Nat.add_zero] at hf10_1); clear hcl10 hcc10 hfr10 hM10) | ((with_reducible refine gate_store (t := 3) (p := 23) rfl ?_); refine store_event (t := 3) (p := 23) (v := ?vo_w11) (w1 := (w9.setCell ⟨go5, (x5_1 : Int).toNat * 2 + 1, none⟩ (.int .i64 (wrap64 (x1_1 + 1))))) ?hg ?ho ?hn ?hr ?_; (case ho => rfl); (case hg => rfl); (case hn => rfl); (case hr => first | (go_simp; done) | (go_simp; rfl)); intro w11 hw; have hg : w9.grownBy w11 (some go5) := (by rw [hw]; exact HP10.2); have hp_ : Kd.R k43 43 w11 w0.heap.size (fun k_ => (P0_ k_ ∨ w.heap.size ≤ k_)) (.slice (some ⟨go5, 0, none⟩) x0_1.length co7) y209 := (by rw [hw, Ny209.out]; exact HP10.1); clear HP10; replace HK := Aside0.mk (Kept.of_grown (S := (fun k_ => P0_ k_)) hg (zl41_0 HK.out) (fun k_ e_ => (HO_0.out.1 k_ e_))); replace HO_0 := Aside0.mk (hp_); replace HB := Aside0.mk ((by rw [hw]; exact below_set (HB.out) GB5.out : Below w0.heap.size w0 w11)); clear hg hw hp_))
   go_roundg k1
   case measure => have := HK1.out; omega
   case rel => exact ⟨(y209), (wrap64 ((wrap64 (x1_1 + 1)) + 1)), (wrap64 (x5_1 + 1)), zF, zF, H', ⟨by have := HK1.out; omega⟩, ⟨zR HO_0.out⟩, ⟨(zl41_0 HK.out)⟩, ⟨zB⟩⟩
  rw [if_neg c4] at H
  exact absurd H (by simp)
 rw [if_neg c3] at H
 have c3b0 := decide_eq_false c3
 clear c3
 simp only [Option.some.injEq, Prod.mk.injEq] at H
 obtain ⟨rfl, rfl⟩ := H
 obtain ⟨Ao12, co12, eo12⟩ := Kd.R_slice HO_0.out
 subst eo12
 go_wp2
 go_ret
 exact ⟨zE, zR HO_0.out, zB, (zl41_0 HK.out)⟩
/-! ### laws_heldPointS: function 12 -/
def laws_heldPointS.l0 : Nat → List (S43) → Int → Int → Option (Int)
 | 0, _, _, _ => none
 | k + 1, x0, x1, x5 => if x5 < (x0.length : Int) then (if 0 ≤ x5 then (if ((rd_T43 x0 x5).f0) = x1 then (if ((rd_T43 x0 x5).f1) = (wrap64 (x1 + 1)) then (laws_heldPointS.l0 k x0 (wrap64 ((wrap64 (x1 + 1)) + 1)) (wrap64 (x5 + 1))) else (some (-1))) else (some (-1))) else (none)) else (some x1)
def laws_heldPointS.f (k : Nat) (l0 : List (S43)) (a1 : Int) : Option (Int) := laws_heldPointS.l0 k l0 a1 0
set_option maxHeartbeats 8000000 in
set_option maxRecDepth 100000 in
theorem laws_heldPointS.calls (k : Nat) (A0 : Option Addr) (c0 : Nat) (l0 : List (S43)) (a1 : Int) (r : Int) (w : World) (hr0 : Kd.C k43 w A0 l0.length l0) (hc0 : l0.length ≤ c0) (h : laws_heldPointS.f k l0 a1 = some r) :
  Calls Try.prog 12 #[.slice A0 l0.length c0, .int .i64 a1] w fun e w' => e = .returned (.int .i64 r) ∧ Drawn0 w w' := by
 have HR0 := Aside0.mk hr0
 have HC0 := Aside0.mk hc0
 clear hr0 hc0
 have H : (laws_heldPointS.l0 k l0 a1 0) = some r := h
 clear h
 have H' := Aside0.mk H; clear H
 go_enter Try.func12, Try.ntmps12
 go_wp2
 go_loopg [1, 5] k (fun kq v1 v5 w' => ∃ (x1_1 : Int) (x5_1 : Int), v1 = .int .i64 x1_1 ∧ v5 = .int .i64 x5_1 ∧ Aside0 (laws_heldPointS.l0 kq l0 x1_1 x5_1 = some r) ∧ Aside0 (kq ≤ k) ∧ Drawn0 w w')
 case atStart => exact ⟨(a1), (0), zF, zF, H', ⟨Nat.le_refl _⟩, by repeat (first | exact Drawn0.refl _ | apply Drawn0.step)⟩
 case round =>
 clear H'
 obtain ⟨x1_1, x5_1, rfl, rfl, HA, HK1, ⟨m1, rfl⟩⟩ := hrel
 cases gk with
 | zero => exact absurd HA.out (by simp [laws_heldPointS.l0])
 | succ k1 =>
 have H := HA.out
 clear HA
 simp only [laws_heldPointS.l0] at H
 by_cases c3 : x5_1 < (l0.length : Int)
 ·rw [if_pos c3] at H
  have c3b0 := decide_eq_true c3
  clear c3
  by_cases c4 : 0 ≤ x5_1
  ·rw [if_pos c4] at H
   have c4b0 := decide_eq_true c4
   clear c4
   by_cases c5 : ((rd_T43 l0 x5_1).f0) = x1_1
   ·rw [if_pos c5] at H
    have c5b0 := beq_iff_eq.mpr c5
    have c5b1 := bne_eq_false_iff_eq.mpr c5
    clear c5
    by_cases c6 : ((rd_T43 l0 x5_1).f1) = (wrap64 (x1_1 + 1))
    ·rw [if_pos c6] at H
     have c6b0 := beq_iff_eq.mpr c6
     have c6b1 := bne_eq_false_iff_eq.mpr c6
     clear c6
     have H' := Aside0.mk H; clear H
     have p210 : 0 ≤ (x5_1 : Int) := zA
     have q210 : x5_1 < (l0.length : Int) := zA
     obtain ⟨ad210, e210, hx210_0, hx210_1⟩ := at_T43 HR0.out x5_1 p210 q210
     cases e210
     replace p210 := eq_true p210
     replace q210 := eq_true q210
     have p211 : 0 ≤ (x5_1 : Int) := zA
     have q211 : x5_1 < (l0.length : Int) := zA
     obtain ⟨ad211, e211, hx211_0, hx211_1⟩ := at_T43 HR0.out x5_1 p211 q211
     obtain rfl : ad210 = ad211 := (by injection e211)
     replace p211 := eq_true p211
     replace q211 := eq_true q211
     go_wp2
     go_roundg k1
     case measure => have := HK1.out; omega
     case rel => exact ⟨(wrap64 ((wrap64 (x1_1 + 1)) + 1)), (wrap64 (x5_1 + 1)), zF, zF, H', ⟨by have := HK1.out; omega⟩, by repeat (first | exact Drawn0.refl _ | apply Drawn0.step)⟩
    rw [if_neg c6] at H
    have c6b0 := beq_eq_false_iff_ne.mpr c6
    have c6b1 := bne_iff_ne.mpr c6
    obtain rfl := Option.some.inj H
    have p210 : 0 ≤ (x5_1 : Int) := zA
    have q210 : x5_1 < (l0.length : Int) := zA
    obtain ⟨ad210, e210, hx210_0, hx210_1⟩ := at_T43 HR0.out x5_1 p210 q210
    cases e210
    replace p210 := eq_true p210
    replace q210 := eq_true q210
    have p211 : 0 ≤ (x5_1 : Int) := zA
    have q211 : x5_1 < (l0.length : Int) := zA
    obtain ⟨ad211, e211, hx211_0, hx211_1⟩ := at_T43 HR0.out x5_1 p211 q211
    obtain rfl : ad210 = ad211 := (by injection e211)
    replace p211 := eq_true p211
    replace q211 := eq_true q211
    go_wp2
    go_ret
    exact ⟨by first | rfl | (simp; done) | (simp [*]; done), by repeat (first | exact Drawn0.refl _ | apply Drawn0.step)⟩
   rw [if_neg c5] at H
   have c5b0 := beq_eq_false_iff_ne.mpr c5
   have c5b1 := bne_iff_ne.mpr c5
   obtain rfl := Option.some.inj H
   have p210 : 0 ≤ (x5_1 : Int) := zA
   have q210 : x5_1 < (l0.length : Int) := zA
   obtain ⟨ad210, e210, hx210_0, hx210_1⟩ := at_T43 HR0.out x5_1 p210 q210
   cases e210
   replace p210 := eq_true p210
   replace q210 := eq_true q210
   go_wp2
   go_ret
   exact ⟨by first | rfl | (simp; done) | (simp [*]; done), by repeat (first | exact Drawn0.refl _ | apply Drawn0.step)⟩
  rw [if_neg c4] at H
  exact absurd H (by simp)
 rw [if_neg c3] at H
 have c3b0 := decide_eq_false c3
 clear c3
 obtain rfl := Option.some.inj H
 go_wp2
 go_ret
 exact ⟨by first | rfl | (simp; done) | (simp [*]; done), by repeat (first | exact Drawn0.refl _ | apply Drawn0.step)⟩
/-! ### spec_l1In: function 35 -/
def spec_l1In.f (a0 : Int) (a1 : Int) (a2 : Int) : Option (Bool) := if a0 ≥ a1 then (some (decide (a0 ≤ a2))) else (some false)
set_option maxHeartbeats 8000000 in
set_option maxRecDepth 100000 in
theorem spec_l1In.calls (a0 : Int) (a1 : Int) (a2 : Int) (r : Bool) (w : World) (h : spec_l1In.f a0 a1 a2 = some r) :
  Calls Try.prog 35 #[.int .i64 a0, .int .i64 a1, .int .i64 a2] w fun e w' => e = .returned (.bool r) ∧ Drawn0 w w' := by
 have H : (if a0 ≥ a1 then (some (decide (a0 ≤ a2))) else (some false)) = some r := h
 clear h
 by_cases c4 : a0 ≥ a1
 ·rw [if_pos c4] at H
  have c4b0 : decide (a1 ≤ a0) = true := decide_eq_true c4
  clear c4
  obtain rfl := Option.some.inj H
  go_enter Try.func35, Try.ntmps35
  go_wp2
  go_ret
  exact ⟨by first | rfl | (simp; done) | (simp [*]; done), by repeat (first | exact Drawn0.refl _ | apply Drawn0.step)⟩
 rw [if_neg c4] at H
 have c4b0 : decide (a1 ≤ a0) = false := decide_eq_false c4
 clear c4
 obtain rfl := Option.some.inj H
 go_enter Try.func35, Try.ntmps35
 go_wp2
 go_ret
 exact ⟨by first | rfl | (simp; done) | (simp [*]; done), by repeat (first | exact Drawn0.refl _ | apply Drawn0.step)⟩
/-! ### spec_l2Fits: function 36 -/
def spec_l2Fits.f (a0_0 : Int) (a0_1 : Int) (a1 : Int) : Option (Bool) := (spec_l1In.f a0_0 (wrap64 (-a1)) a1).bind fun t102 => (if t102 = true then ((spec_l1In.f a0_1 (wrap64 (-a1)) a1).bind fun t103 => (some t103)) else (some false))
set_option maxHeartbeats 8000000 in
set_option maxRecDepth 100000 in
theorem spec_l2Fits.calls (a0_0 : Int) (a0_1 : Int) (a1 : Int) (r : Bool) (w : World) (h : spec_l2Fits.f a0_0 a0_1 a1 = some r) :
  Calls Try.prog 36 #[.agg #[.int .i64 a0_0, .int .i64 a0_1], .int .i64 a1] w fun e w' => e = .returned (.bool r) ∧ Below w.heap.size w w' := by
 have hu43 := Try.underlying43
 have HB := Aside0.mk (Below.refl w.heap.size w)
 have H : ((spec_l1In.f a0_0 (wrap64 (-a1)) a1).bind fun t102 => (if t102 = true then ((spec_l1In.f a0_1 (wrap64 (-a1)) a1).bind fun t103 => (some t103)) else (some false))) = some r := h
 clear h
 obtain ⟨t102, A3, H⟩ := zO H
 by_cases c4 : t102 = true
 ·subst c4
  replace H := (if_pos rfl).symm.trans H
  obtain ⟨t103, A5, H⟩ := zO H
  obtain rfl := Option.some.inj H
  go_enter Try.func36, Try.ntmps36
  go_wp2_with (first | ((with_reducible refine gate_dst (N := 2) rfl ?_); refine zBx (N := 2) #[.int .i64 a0_0, .int .i64 a0_1] 43 ?_; intro gb101 hg w6 hbox hb; have BK101 := Aside0.mk (hbox); have GW101 := zS hg; have GE101 := zS hg; replace HB := zX hb; clear hb hbox hg; obtain ⟨hcz7_0, hcz7_1, hfz7_0, hfz7_1⟩ := zq2 BK101.out) | ((with_reducible refine gate_callee (f := 35) rfl ?_); refine zD (some 10) Try.func35 #[.int .i64 a0_0, .int .i64 (wrap64 (-a1)), .int .i64 a1] ?_; (with_reducible refine (spec_l1In.calls a0_0 (wrap64 (-a1)) a1 true _ A3.out).mono ?_); rintro e w' ⟨rfl, ⟨nd, rfl⟩⟩; refine ⟨_, rfl, ?_⟩) | (go_at_call 35; (with_reducible refine (spec_l1In.calls a0_1 (wrap64 (-a1)) a1 t103 _ A5.out).mono ?_); rintro e w' ⟨rfl, ⟨nd, rfl⟩⟩))
  go_ret
  exact ⟨zE, zG GE101.out⟩
 replace c4 := Bool.eq_false_iff.mpr c4
 subst c4
 replace H := (if_neg zFf).symm.trans H
 obtain rfl := Option.some.inj H
 go_enter Try.func36, Try.ntmps36
 go_wp2_with (first | ((with_reducible refine gate_dst (N := 2) rfl ?_); refine zBx (N := 2) #[.int .i64 a0_0, .int .i64 a0_1] 43 ?_; intro gb101 hg w8 hbox hb; have BK101 := Aside0.mk (hbox); have GW101 := zS hg; have GE101 := zS hg; replace HB := zX hb; clear hb hbox hg; obtain ⟨hcz9_0, hcz9_1, hfz9_0, hfz9_1⟩ := zq2 BK101.out) | ((with_reducible refine gate_callee (f := 35) rfl ?_); refine zD (some 10) Try.func35 #[.int .i64 a0_0, .int .i64 (wrap64 (-a1)), .int .i64 a1] ?_; (with_reducible refine (spec_l1In.calls a0_0 (wrap64 (-a1)) a1 false _ A3.out).mono ?_); rintro e w' ⟨rfl, ⟨nd, rfl⟩⟩; refine ⟨_, rfl, ?_⟩))
 go_ret
 exact ⟨zE, zG GE101.out⟩
/-! ### spec_l2Area: function 37 -/
def spec_l2Area.f (a0_0 : Int) (a0_1 : Int) (a1_0 : Int) (a1_1 : Int) (a2_0 : Int) (a2_1 : Int) : Option (Int) := some (wrap64 ((wrap64 ((wrap64 (a1_0 - a0_0)) * (wrap64 (a2_1 - a0_1)))) - (wrap64 ((wrap64 (a1_1 - a0_1)) * (wrap64 (a2_0 - a0_0))))))
set_option maxHeartbeats 8000000 in
set_option maxRecDepth 100000 in
theorem spec_l2Area.calls (a0_0 : Int) (a0_1 : Int) (a1_0 : Int) (a1_1 : Int) (a2_0 : Int) (a2_1 : Int) (r : Int) (w : World) (h : spec_l2Area.f a0_0 a0_1 a1_0 a1_1 a2_0 a2_1 = some r) :
  Calls Try.prog 37 #[.agg #[.int .i64 a0_0, .int .i64 a0_1], .agg #[.int .i64 a1_0, .int .i64 a1_1], .agg #[.int .i64 a2_0, .int .i64 a2_1]] w fun e w' => e = .returned (.int .i64 r) ∧ Below w.heap.size w w' := by
 have hu43 := Try.underlying43
 have HB := Aside0.mk (Below.refl w.heap.size w)
 have H : (some (wrap64 ((wrap64 ((wrap64 (a1_0 - a0_0)) * (wrap64 (a2_1 - a0_1)))) - (wrap64 ((wrap64 (a1_1 - a0_1)) * (wrap64 (a2_0 - a0_0))))))) = some r := h
 clear h
 obtain rfl := Option.some.inj H
 go_enter Try.func37, Try.ntmps37
 go_wp2_with (first | ((with_reducible refine gate_dst (N := 3) rfl ?_); refine zBx (N := 3) #[.int .i64 a0_0, .int .i64 a0_1] 43 ?_; intro gb104 hg w4 hbox hb; have BK104 := Aside0.mk (hbox); have GW104 := zS hg; have GE104 := zS hg; replace HB := zX hb; clear hb hbox hg) | ((with_reducible refine gate_dst (N := 4) rfl ?_); refine zBx (N := 4) #[.int .i64 a1_0, .int .i64 a1_1] 43 ?_; intro gb105 hg w5 hbox hb; have BK105 := Aside0.mk (hbox); have GW105 := zSg hg (zG GE104.out); have GE105 := zSg hg (zG GE104.out); have NB104_105 := zL hg BK104.out; have NB105_104 := zLg hg BK104.out; replace BK104 := zV BK104.out hb; replace HB := zX1 GE104.out hb; clear hb hbox hg) | ((with_reducible refine gate_dst (N := 5) rfl ?_); refine zBx (N := 5) #[.int .i64 a2_0, .int .i64 a2_1] 43 ?_; intro gb106 hg w6 hbox hb; have BK106 := Aside0.mk (hbox); have GW106 := zSg hg (zG2 GE104.out GE105.out); have GE106 := zSg hg (zG2 GE104.out GE105.out); have NB104_106 := zL hg BK104.out; have NB106_104 := zLg hg BK104.out; replace BK104 := zV BK104.out hb; have NB105_106 := zL hg BK105.out; have NB106_105 := zLg hg BK105.out; replace BK105 := zV BK105.out hb; replace HB := Aside0.mk (below_step (zG2 GE104.out GE105.out) hb); clear hb hbox hg; have hnb7 := NB105_104.out; have hnc7 := NB104_105.out; have hnb8 := NB105_106.out; have hnc8 := NB106_105.out; obtain ⟨hcz9_0, hcz9_1, hfz9_0, hfz9_1⟩ := zq2 BK105.out; have hnb10 := NB104_106.out; have hnc10 := NB106_104.out; obtain ⟨hcz11_0, hcz11_1, hfz11_0, hfz11_1⟩ := zq2 BK104.out; obtain ⟨hcz12_0, hcz12_1, hfz12_0, hfz12_1⟩ := zq2 BK106.out))
 go_ret
 exact ⟨zE, zG3 GE104.out GE105.out GE106.out⟩
/-! ### spec_ArePoints: function 22 -/
mutual
def spec_ArePoints.l0 : Nat → List (S43) → Int → Option (Bool)
 | 0, _, _ => none
 | k + 1, x0, x3 => if x3 < (x0.length : Int) then (if 0 ≤ x3 then ((spec_l2Fits.f ((rd_T43 x0 x3).f0) ((rd_T43 x0 x3).f1) 50).bind fun t109 => (if t109 = true then (spec_ArePoints.l1 k x0 x3 0) else (some false))) else (none)) else (some true)
def spec_ArePoints.l1 : Nat → List (S43) → Int → Int → Option (Bool)
 | 0, _, _, _ => none
 | k + 1, x0, x3, x4 => if x4 < x3 then (spec_ArePoints.l2 k x0 x3 x4 0) else (spec_ArePoints.l0 k x0 (wrap64 (x3 + 1)))
def spec_ArePoints.l2 : Nat → List (S43) → Int → Int → Int → Option (Bool)
 | 0, _, _, _, _ => none
 | k + 1, x0, x3, x4, x5 => if x5 < x4 then (if 0 ≤ x5 then (if x5 < (x0.length : Int) then (if 0 ≤ x4 then (if x4 < (x0.length : Int) then (if 0 ≤ x3 then (if x3 < (x0.length : Int) then ((spec_l2Area.f ((rd_T43 x0 x5).f0) ((rd_T43 x0 x5).f1) ((rd_T43 x0 x4).f0) ((rd_T43 x0 x4).f1) ((rd_T43 x0 x3).f0) ((rd_T43 x0 x3).f1)).bind fun t113 => (if t113 = 0 then (some false) else (spec_ArePoints.l2 k x0 x3 x4 (wrap64 (x5 + 1))))) else (none)) else (none)) else (none)) else (none)) else (none)) else (none)) else (spec_ArePoints.l1 k x0 x3 (wrap64 (x4 + 1)))
end
def spec_ArePoints.f (k : Nat) (l0 : List (S43)) : Option (Bool) := (spec_l1In.f (l0.length : Int) 3 7).bind fun t107 => (if t107 = true then (spec_ArePoints.l0 k l0 0) else (some false))
def spec_ArePoints.T14 : Bool × List (List Nat × List Nat) := (true, [([], []), ([], []), ([0, 1], [0, 1]), ([2], [2]), ([], []), ([], []), ([4, 5], [4, 5]), ([6], [6]), ([], []), ([], []), ([8, 9], [8, 9]), ([10], [10]), ([3, 7, 11], [3, 7, 11]), ([12], [12])])
def spec_ArePoints.B14 : List Nat := [0, 0, 3, 7, 0, 0, 48, 112, 0, 0, 768, 1792, 4095, 8191]
theorem spec_ArePoints.tab14 : rtab .any (opsOf Try.f22 14) = spec_ArePoints.T14 := by kernel_rfl
theorem spec_ArePoints.bits14 : waitsOk spec_ArePoints.T14.2 spec_ArePoints.B14 = true := by kernel_rfl
set_option maxHeartbeats 8000000 in
set_option maxRecDepth 100000 in
theorem spec_ArePoints.calls (k : Nat) (A0 : Option Addr) (c0 : Nat) (l0 : List (S43)) (r : Bool) (w : World) (hr0 : Kd.C k43 w A0 l0.length l0) (hc0 : l0.length ≤ c0) (h : spec_ArePoints.f k l0 = some r) :
  Calls Try.prog 22 #[.slice A0 l0.length c0] w fun e w' => e = .returned (.bool r) ∧ Below w.heap.size w w' := by
 have hu43 := Try.underlying43
 have HR0 := Aside0.mk hr0
 have HC0 := Aside0.mk hc0
 clear hr0 hc0
 have HB := Aside0.mk (Below.refl w.heap.size w)
 have H : ((spec_l1In.f (l0.length : Int) 3 7).bind fun t107 => (if t107 = true then (spec_ArePoints.l0 k l0 0) else (some false))) = some r := h
 clear h
 obtain ⟨t107, A2, H⟩ := zO H
 by_cases c3 : t107 = true
 ·subst c3
  replace H := (if_pos rfl).symm.trans H
  have H' := Aside0.mk H; clear H
  go_enter Try.func22, Try.ntmps22
  go_wp2_with (first | ((with_reducible refine gate_callee (f := 35) rfl ?_); refine zD (some 8) Try.func35 #[.int .i64 (l0.length : Int), .int .i64 3, .int .i64 7] ?_; (with_reducible refine (spec_l1In.calls (l0.length : Int) 3 7 true _ A2.out).mono ?_); rintro e w' ⟨rfl, ⟨nd, rfl⟩⟩; refine ⟨_, rfl, ?_⟩))
  go_loopg [3] k (fun kq v3 w' => ∃ (x3_1 : Int), v3 = .int .i64 x3_1 ∧ Aside0 (spec_ArePoints.l0 kq l0 x3_1 = some r) ∧ Aside0 (kq ≤ k) ∧ Aside0 (Below w.heap.size w w'))
  case atStart => exact ⟨(0), zF, H', ⟨Nat.le_refl _⟩, ⟨zB⟩⟩
  case round =>
  clear H'
  try clear c3
  obtain ⟨x3_1, rfl, HA, HK1, HB⟩ := hrel
  cases gk with
  | zero => exact absurd HA.out (by simp [spec_ArePoints.l0])
  | succ k1 =>
  have H := HA.out
  clear HA
  simp only [spec_ArePoints.l0] at H
  by_cases c4 : x3_1 < (l0.length : Int)
  ·rw [if_pos c4] at H
   have c4b0 := decide_eq_true c4
   clear c4
   by_cases c5 : 0 ≤ x3_1
   ·rw [if_pos c5] at H
    have c5b0 := decide_eq_true c5
    clear c5
    obtain ⟨t109, A6, H⟩ := zO H
    by_cases c7 : t109 = true
    ·subst c7
     replace H := (if_pos rfl).symm.trans H
     have H' := Aside0.mk H; clear H
     have p108 : 0 ≤ (x3_1 : Int) := zA
     have q108 : x3_1 < (l0.length : Int) := zA
     obtain ⟨ad108, e108, hx108_0, hx108_1⟩ := at_T43 HR0.out x3_1 p108 q108
     cases e108
     replace hx108_0 := (HB.out.cell (World.block_lt_of_cell? w _ hx108_0)).trans hx108_0
     replace hx108_1 := (HB.out.cell (World.block_lt_of_cell? w _ hx108_1)).trans hx108_1
     replace p108 := eq_true p108
     replace q108 := eq_true q108
     go_wp2_with (first | ((with_reducible refine gate_callee (f := 36) rfl ?_); refine zD (some 20) Try.func36 #[.agg #[.int .i64 ((rd_T43 l0 x3_1).f0), .int .i64 ((rd_T43 l0 x3_1).f1)], .int .i64 50] ?_; (with_reducible refine (spec_l2Fits.calls ((rd_T43 l0 x3_1).f0) ((rd_T43 l0 x3_1).f1) 50 true _ A6.out).mono ?_); rintro e w8 ⟨rfl, hb⟩; refine ⟨_, rfl, ?_⟩; replace HB := zX hb; (try clear hb)))
     go_loopg [4] k1 (fun kq v4 w' => ∃ (x4_2 : Int), v4 = .int .i64 x4_2 ∧ Aside0 (spec_ArePoints.l1 kq l0 x3_1 x4_2 = some r) ∧ Aside0 (kq ≤ k1) ∧ Aside0 (Below w.heap.size w w'))
     case atStart => exact ⟨(0), zF, H', ⟨Nat.le_refl _⟩, ⟨zB⟩⟩
     case round =>
     clear H'
     try clear c3
     try clear c4
     try clear c4b0
     try clear c5
     try clear c5b0
     try clear c7
     try clear hx108_0
     try clear hx108_1
     try clear p108
     try clear q108
     obtain ⟨x4_2, rfl, HA, HK2, HB⟩ := hrel
     cases gk with
     | zero => exact absurd HA.out (by simp [spec_ArePoints.l1])
     | succ k2 =>
     have H := HA.out
     clear HA
     simp only [spec_ArePoints.l1] at H
     by_cases c9 : x4_2 < x3_1
     ·rw [if_pos c9] at H
      have c9b0 := decide_eq_true c9
      clear c9
      have H' := Aside0.mk H; clear H
      go_wp2
      go_loopg [5] k2 (fun kq v5 w' => ∃ (x5_3 : Int), v5 = .int .i64 x5_3 ∧ Aside0 (spec_ArePoints.l2 kq l0 x3_1 x4_2 x5_3 = some r) ∧ Aside0 (kq ≤ k2) ∧ Aside0 (Below w.heap.size w w'))
      case atStart => exact ⟨(0), zF, H', ⟨Nat.le_refl _⟩, ⟨zB⟩⟩
      case round =>
      clear H'
      try clear c3
      try clear c4
      try clear c4b0
      try clear c5
      try clear c5b0
      try clear c7
      try clear c9
      try clear c9b0
      try clear hx108_0
      try clear hx108_1
      try clear p108
      try clear q108
      obtain ⟨x5_3, rfl, HA, HK3, HB⟩ := hrel
      cases gk with
      | zero => exact absurd HA.out (by simp [spec_ArePoints.l2])
      | succ k3 =>
      have H := HA.out
      clear HA
      simp only [spec_ArePoints.l2] at H
      by_cases c10 : x5_3 < x4_2
      ·rw [if_pos c10] at H
       have c10b0 := decide_eq_true c10
       clear c10
       by_cases c11 : 0 ≤ x5_3
       ·rw [if_pos c11] at H
        have c11b0 := decide_eq_true c11
        clear c11
        by_cases c12 : x5_3 < (l0.length : Int)
        ·rw [if_pos c12] at H
         have c12b0 := decide_eq_true c12
         clear c12
         by_cases c13 : 0 ≤ x4_2
         ·rw [if_pos c13] at H
          have c13b0 := decide_eq_true c13
          clear c13
          by_cases c14 : x4_2 < (l0.length : Int)
          ·rw [if_pos c14] at H
           have c14b0 := decide_eq_true c14
           clear c14
           by_cases c15 : 0 ≤ x3_1
           ·rw [if_pos c15] at H
            have c15b0 := decide_eq_true c15
            clear c15
            by_cases c16 : x3_1 < (l0.length : Int)
            ·rw [if_pos c16] at H
             have c16b0 := decide_eq_true c16
             clear c16
             obtain ⟨t113, A17, H⟩ := zO H
             by_cases c18 : t113 = 0
             ·rw [if_pos c18] at H
              have c18b0 := beq_iff_eq.mpr c18
              have c18b1 := bne_eq_false_iff_eq.mpr c18
              clear c18
              obtain rfl := Option.some.inj H
              try go_wp2
              replace HB := Aside0.mk (below_drew1 HB.out)
              have p110 : 0 ≤ (x5_3 : Int) := zA
              have q110 : x5_3 < (l0.length : Int) := zA
              obtain ⟨ad110, e110, hx110_0, hx110_1⟩ := at_T43 HR0.out x5_3 p110 q110
              have hw110_1 := hx110_1
              have hw110_0 := hx110_0
              obtain rfl : ad108 = ad110 := (by injection e110)
              replace hx110_0 := (HB.out.cell (World.block_lt_of_cell? w _ hx110_0)).trans hx110_0
              replace hx110_1 := (HB.out.cell (World.block_lt_of_cell? w _ hx110_1)).trans hx110_1
              replace p110 := eq_true p110
              replace q110 := eq_true q110
              have p111 : 0 ≤ (x4_2 : Int) := zA
              have q111 : x4_2 < (l0.length : Int) := zA
              obtain ⟨ad111, e111, hx111_0, hx111_1⟩ := at_T43 HR0.out x4_2 p111 q111
              have hw111_1 := hx111_1
              have hw111_0 := hx111_0
              obtain rfl : ad108 = ad111 := (by injection e111)
              replace hx111_0 := (HB.out.cell (World.block_lt_of_cell? w _ hx111_0)).trans hx111_0
              replace hx111_1 := (HB.out.cell (World.block_lt_of_cell? w _ hx111_1)).trans hx111_1
              replace p111 := eq_true p111
              replace q111 := eq_true q111
              have p112 : 0 ≤ (x3_1 : Int) := zA
              have q112 : x3_1 < (l0.length : Int) := zA
              obtain ⟨ad112, e112, hx112_0, hx112_1⟩ := at_T43 HR0.out x3_1 p112 q112
              have hw112_1 := hx112_1
              have hw112_0 := hx112_0
              obtain rfl : ad108 = ad112 := (by injection e112)
              replace hx112_0 := (HB.out.cell (World.block_lt_of_cell? w _ hx112_0)).trans hx112_0
              replace hx112_1 := (HB.out.cell (World.block_lt_of_cell? w _ hx112_1)).trans hx112_1
              replace p112 := eq_true p112
              replace q112 := eq_true q112
              refine start_ (n := 14) (S := fun w' => w'.cell? (ad108.add ((x5_3).toNat * 2)) = some (.int .i64 ((rd_T43 l0 x5_3).f0)) ∧ w'.cell? ⟨(ad108.add ((x5_3).toNat * 2)).block, (ad108.add ((x5_3).toNat * 2)).off + 1, none⟩ = some (.int .i64 ((rd_T43 l0 x5_3).f1)) ∧ w'.cell? (ad108.add ((x4_2).toNat * 2)) = some (.int .i64 ((rd_T43 l0 x4_2).f0)) ∧ w'.cell? ⟨(ad108.add ((x4_2).toNat * 2)).block, (ad108.add ((x4_2).toNat * 2)).off + 1, none⟩ = some (.int .i64 ((rd_T43 l0 x4_2).f1)) ∧ w'.cell? (ad108.add ((x3_1).toNat * 2)) = some (.int .i64 ((rd_T43 l0 x3_1).f0)) ∧ w'.cell? ⟨(ad108.add ((x3_1).toNat * 2)).block, (ad108.add ((x3_1).toNat * 2)).off + 1, none⟩ = some (.int .i64 ((rd_T43 l0 x3_1).f1))) (ds := []) #[false, false, false, false, false, false, false, false, false, false, false, false, false, false] (by kernel_rfl) rfl rfl ⟨((HB.out.cell (World.block_lt_of_cell? w _ hw110_0)).trans hw110_0), ((HB.out.cell (World.block_lt_of_cell? w _ hw110_1)).trans hw110_1), ((HB.out.cell (World.block_lt_of_cell? w _ hw111_0)).trans hw111_0), ((HB.out.cell (World.block_lt_of_cell? w _ hw111_1)).trans hw111_1), ((HB.out.cell (World.block_lt_of_cell? w _ hw112_0)).trans hw112_0), ((HB.out.cell (World.block_lt_of_cell? w _ hw112_1)).trans hw112_1)⟩ (fun hHeld => ?_); refine with_tabW spec_ArePoints.tab14 spec_ArePoints.bits14 (fun HT_ HW_ => ?_)
              generalize wr.drew = w19 at HB hx110_0 hx110_1 hx111_0 hx111_1 hx112_0 hx112_1 hHeld ⊢
              refine zP 0 (some 32) rfl rfl ?_
              refine zP 1 (some 33) rfl rfl ?_
              refine zP 2 (some 34) rfl rfl ?_
              refine zP 4 (some 36) rfl rfl ?_
              refine zP 5 (some 37) rfl rfl ?_
              refine zP 6 (some 38) rfl rfl ?_
              refine zP 8 (some 40) rfl rfl ?_
              refine zP 9 (some 41) rfl rfl ?_
              refine zP 10 (some 42) rfl rfl ?_
              refine zY6 3 (some 35) rfl rfl hHeld ?_
              refine zY6 7 (some 39) rfl rfl hHeld ?_
              refine zY6 11 (some 43) rfl rfl hHeld ?_
              refine zU 12 (some 44) rfl rfl (fun K hK => ?_)
              refine goes_ Try.func37 (by kernel_rfl) rfl #[.agg #[.int .i64 ((rd_T43 l0 x5_3).f0), .int .i64 ((rd_T43 l0 x5_3).f1)], .agg #[.int .i64 ((rd_T43 l0 x4_2).f0), .int .i64 ((rd_T43 l0 x4_2).f1)], .agg #[.int .i64 ((rd_T43 l0 x3_1).f0), .int .i64 ((rd_T43 l0 x3_1).f1)]] (by rfl) rfl rfl zM ?_
              with_reducible refine (spec_l2Area.calls ((rd_T43 l0 x5_3).f0) ((rd_T43 l0 x5_3).f1) ((rd_T43 l0 x4_2).f0) ((rd_T43 l0 x4_2).f1) ((rd_T43 l0 x3_1).f0) ((rd_T43 l0 x3_1).f1) t113 _ A17.out).mono ?_
              rintro e w20 ⟨rfl, hb⟩
              refine ⟨_, rfl, ?_⟩
              replace HB := zX hb
              (try clear hb)
              refine hK.out _ _ ⟨((HB.out.cell (World.block_lt_of_cell? w _ hw110_0)).trans hw110_0), ((HB.out.cell (World.block_lt_of_cell? w _ hw110_1)).trans hw110_1), ((HB.out.cell (World.block_lt_of_cell? w _ hw111_0)).trans hw111_0), ((HB.out.cell (World.block_lt_of_cell? w _ hw111_1)).trans hw111_1), ((HB.out.cell (World.block_lt_of_cell? w _ hw112_0)).trans hw112_0), ((HB.out.cell (World.block_lt_of_cell? w _ hw112_1)).trans hw112_1)⟩ (fun hHeld => ?_)
              clear hK K
              refine zN ?_
              refine zP 13 (some 45) rfl rfl ?_
              refine done_ (done_of HT_.out (by kernel_rfl)) ?_
              try go_wp2
              go_ret
              exact ⟨zE, zB⟩
             rw [if_neg c18] at H
             have c18b0 := beq_eq_false_iff_ne.mpr c18
             have c18b1 := bne_iff_ne.mpr c18
             have H' := Aside0.mk H; clear H
             try go_wp2
             replace HB := Aside0.mk (below_drew1 HB.out)
             have p110 : 0 ≤ (x5_3 : Int) := zA
             have q110 : x5_3 < (l0.length : Int) := zA
             obtain ⟨ad110, e110, hx110_0, hx110_1⟩ := at_T43 HR0.out x5_3 p110 q110
             have hw110_1 := hx110_1
             have hw110_0 := hx110_0
             obtain rfl : ad108 = ad110 := (by injection e110)
             replace hx110_0 := (HB.out.cell (World.block_lt_of_cell? w _ hx110_0)).trans hx110_0
             replace hx110_1 := (HB.out.cell (World.block_lt_of_cell? w _ hx110_1)).trans hx110_1
             replace p110 := eq_true p110
             replace q110 := eq_true q110
             have p111 : 0 ≤ (x4_2 : Int) := zA
             have q111 : x4_2 < (l0.length : Int) := zA
             obtain ⟨ad111, e111, hx111_0, hx111_1⟩ := at_T43 HR0.out x4_2 p111 q111
             have hw111_1 := hx111_1
             have hw111_0 := hx111_0
             obtain rfl : ad108 = ad111 := (by injection e111)
             replace hx111_0 := (HB.out.cell (World.block_lt_of_cell? w _ hx111_0)).trans hx111_0
             replace hx111_1 := (HB.out.cell (World.block_lt_of_cell? w _ hx111_1)).trans hx111_1
             replace p111 := eq_true p111
             replace q111 := eq_true q111
             have p112 : 0 ≤ (x3_1 : Int) := zA
             have q112 : x3_1 < (l0.length : Int) := zA
             obtain ⟨ad112, e112, hx112_0, hx112_1⟩ := at_T43 HR0.out x3_1 p112 q112
             have hw112_1 := hx112_1
             have hw112_0 := hx112_0
             obtain rfl : ad108 = ad112 := (by injection e112)
             replace hx112_0 := (HB.out.cell (World.block_lt_of_cell? w _ hx112_0)).trans hx112_0
             replace hx112_1 := (HB.out.cell (World.block_lt_of_cell? w _ hx112_1)).trans hx112_1
             replace p112 := eq_true p112
             replace q112 := eq_true q112
             refine start_ (n := 14) (S := fun w' => w'.cell? (ad108.add ((x5_3).toNat * 2)) = some (.int .i64 ((rd_T43 l0 x5_3).f0)) ∧ w'.cell? ⟨(ad108.add ((x5_3).toNat * 2)).block, (ad108.add ((x5_3).toNat * 2)).off + 1, none⟩ = some (.int .i64 ((rd_T43 l0 x5_3).f1)) ∧ w'.cell? (ad108.add ((x4_2).toNat * 2)) = some (.int .i64 ((rd_T43 l0 x4_2).f0)) ∧ w'.cell? ⟨(ad108.add ((x4_2).toNat * 2)).block, (ad108.add ((x4_2).toNat * 2)).off + 1, none⟩ = some (.int .i64 ((rd_T43 l0 x4_2).f1)) ∧ w'.cell? (ad108.add ((x3_1).toNat * 2)) = some (.int .i64 ((rd_T43 l0 x3_1).f0)) ∧ w'.cell? ⟨(ad108.add ((x3_1).toNat * 2)).block, (ad108.add ((x3_1).toNat * 2)).off + 1, none⟩ = some (.int .i64 ((rd_T43 l0 x3_1).f1))) (ds := []) #[false, false, false, false, false, false, false, false, false, false, false, false, false, false] (by kernel_rfl) rfl rfl ⟨((HB.out.cell (World.block_lt_of_cell? w _ hw110_0)).trans hw110_0), ((HB.out.cell (World.block_lt_of_cell? w _ hw110_1)).trans hw110_1), ((HB.out.cell (World.block_lt_of_cell? w _ hw111_0)).trans hw111_0), ((HB.out.cell (World.block_lt_of_cell? w _ hw111_1)).trans hw111_1), ((HB.out.cell (World.block_lt_of_cell? w _ hw112_0)).trans hw112_0), ((HB.out.cell (World.block_lt_of_cell? w _ hw112_1)).trans hw112_1)⟩ (fun hHeld => ?_); refine with_tabW spec_ArePoints.tab14 spec_ArePoints.bits14 (fun HT_ HW_ => ?_)
             generalize wr.drew = w21 at HB hx110_0 hx110_1 hx111_0 hx111_1 hx112_0 hx112_1 hHeld ⊢
             refine zP 0 (some 32) rfl rfl ?_
             refine zP 1 (some 33) rfl rfl ?_
             refine zP 2 (some 34) rfl rfl ?_
             refine zP 4 (some 36) rfl rfl ?_
             refine zP 5 (some 37) rfl rfl ?_
             refine zP 6 (some 38) rfl rfl ?_
             refine zP 8 (some 40) rfl rfl ?_
             refine zP 9 (some 41) rfl rfl ?_
             refine zP 10 (some 42) rfl rfl ?_
             refine zY6 3 (some 35) rfl rfl hHeld ?_
             refine zY6 7 (some 39) rfl rfl hHeld ?_
             refine zY6 11 (some 43) rfl rfl hHeld ?_
             refine zU 12 (some 44) rfl rfl (fun K hK => ?_)
             refine goes_ Try.func37 (by kernel_rfl) rfl #[.agg #[.int .i64 ((rd_T43 l0 x5_3).f0), .int .i64 ((rd_T43 l0 x5_3).f1)], .agg #[.int .i64 ((rd_T43 l0 x4_2).f0), .int .i64 ((rd_T43 l0 x4_2).f1)], .agg #[.int .i64 ((rd_T43 l0 x3_1).f0), .int .i64 ((rd_T43 l0 x3_1).f1)]] (by rfl) rfl rfl zM ?_
             with_reducible refine (spec_l2Area.calls ((rd_T43 l0 x5_3).f0) ((rd_T43 l0 x5_3).f1) ((rd_T43 l0 x4_2).f0) ((rd_T43 l0 x4_2).f1) ((rd_T43 l0 x3_1).f0) ((rd_T43 l0 x3_1).f1) t113 _ A17.out).mono ?_
             rintro e w22 ⟨rfl, hb⟩
             refine ⟨_, rfl, ?_⟩
             replace HB := zX hb
             (try clear hb)
             refine hK.out _ _ ⟨((HB.out.cell (World.block_lt_of_cell? w _ hw110_0)).trans hw110_0), ((HB.out.cell (World.block_lt_of_cell? w _ hw110_1)).trans hw110_1), ((HB.out.cell (World.block_lt_of_cell? w _ hw111_0)).trans hw111_0), ((HB.out.cell (World.block_lt_of_cell? w _ hw111_1)).trans hw111_1), ((HB.out.cell (World.block_lt_of_cell? w _ hw112_0)).trans hw112_0), ((HB.out.cell (World.block_lt_of_cell? w _ hw112_1)).trans hw112_1)⟩ (fun hHeld => ?_)
             clear hK K
             refine zN ?_
             refine zP 13 (some 45) rfl rfl ?_
             refine done_ (done_of HT_.out (by kernel_rfl)) ?_
             try go_wp2
             go_roundg k3
             case measure => have := HK1.out; have := HK2.out; have := HK3.out; omega
             case rel => exact ⟨(wrap64 (x5_3 + 1)), zF, H', ⟨by have := HK1.out; have := HK2.out; have := HK3.out; omega⟩, ⟨zB⟩⟩
            rw [if_neg c16] at H
            exact absurd H (by simp)
           rw [if_neg c15] at H
           exact absurd H (by simp)
          rw [if_neg c14] at H
          exact absurd H (by simp)
         rw [if_neg c13] at H
         exact absurd H (by simp)
        rw [if_neg c12] at H
        exact absurd H (by simp)
       rw [if_neg c11] at H
       exact absurd H (by simp)
      rw [if_neg c10] at H
      have c10b0 := decide_eq_false c10
      clear c10
      have H' := Aside0.mk H; clear H
      go_wp2
      go_roundg k3
      case measure => have := HK1.out; have := HK2.out; have := HK3.out; omega
      case rel => exact ⟨(wrap64 (x4_2 + 1)), zF, H', ⟨by have := HK1.out; have := HK2.out; have := HK3.out; omega⟩, ⟨zB⟩⟩
     rw [if_neg c9] at H
     have c9b0 := decide_eq_false c9
     clear c9
     have H' := Aside0.mk H; clear H
     go_wp2
     go_roundg k2
     case measure => have := HK1.out; have := HK2.out; omega
     case rel => exact ⟨(wrap64 (x3_1 + 1)), zF, H', ⟨by have := HK1.out; have := HK2.out; omega⟩, ⟨zB⟩⟩
    replace c7 := Bool.eq_false_iff.mpr c7
    subst c7
    replace H := (if_neg zFf).symm.trans H
    obtain rfl := Option.some.inj H
    have p108 : 0 ≤ (x3_1 : Int) := zA
    have q108 : x3_1 < (l0.length : Int) := zA
    obtain ⟨ad108, e108, hx108_0, hx108_1⟩ := at_T43 HR0.out x3_1 p108 q108
    cases e108
    replace hx108_0 := (HB.out.cell (World.block_lt_of_cell? w _ hx108_0)).trans hx108_0
    replace hx108_1 := (HB.out.cell (World.block_lt_of_cell? w _ hx108_1)).trans hx108_1
    replace p108 := eq_true p108
    replace q108 := eq_true q108
    go_wp2_with (first | ((with_reducible refine gate_callee (f := 36) rfl ?_); refine zD (some 20) Try.func36 #[.agg #[.int .i64 ((rd_T43 l0 x3_1).f0), .int .i64 ((rd_T43 l0 x3_1).f1)], .int .i64 50] ?_; (with_reducible refine (spec_l2Fits.calls ((rd_T43 l0 x3_1).f0) ((rd_T43 l0 x3_1).f1) 50 false _ A6.out).mono ?_); rintro e w23 ⟨rfl, hb⟩; refine ⟨_, rfl, ?_⟩; replace HB := zX hb; (try clear hb)))
    go_ret
    exact ⟨zE, zB⟩
   rw [if_neg c5] at H
   exact absurd H (by simp)
  rw [if_neg c4] at H
  have c4b0 := decide_eq_false c4
  clear c4
  obtain rfl := Option.some.inj H
  go_wp2
  go_ret
  exact ⟨zE, zB⟩
 replace c3 := Bool.eq_false_iff.mpr c3
 subst c3
 replace H := (if_neg zFf).symm.trans H
 obtain rfl := Option.some.inj H
 go_enter Try.func22, Try.ntmps22
 go_wp2_with (first | ((with_reducible refine gate_callee (f := 35) rfl ?_); refine zD (some 8) Try.func35 #[.int .i64 (l0.length : Int), .int .i64 3, .int .i64 7] ?_; (with_reducible refine (spec_l1In.calls (l0.length : Int) 3 7 false _ A2.out).mono ?_); rintro e w' ⟨rfl, ⟨nd, rfl⟩⟩; refine ⟨_, rfl, ?_⟩))
 go_ret
 exact ⟨zE, zB⟩
/-! ### spec_l2Before: function 23 -/
def spec_l2Before.f (a0_0 : Int) (a0_1 : Int) (a1_0 : Int) (a1_1 : Int) : Option (Bool) := if a0_0 < a1_0 then (some true) else (if a0_0 = a1_0 then (some (decide (a0_1 < a1_1))) else (some false))
set_option maxHeartbeats 8000000 in
set_option maxRecDepth 100000 in
theorem spec_l2Before.calls (a0_0 : Int) (a0_1 : Int) (a1_0 : Int) (a1_1 : Int) (r : Bool) (w : World) (h : spec_l2Before.f a0_0 a0_1 a1_0 a1_1 = some r) :
  Calls Try.prog 23 #[.agg #[.int .i64 a0_0, .int .i64 a0_1], .agg #[.int .i64 a1_0, .int .i64 a1_1]] w fun e w' => e = .returned (.bool r) ∧ Below w.heap.size w w' := by
 have hu43 := Try.underlying43
 have HB := Aside0.mk (Below.refl w.heap.size w)
 have H : (if a0_0 < a1_0 then (some true) else (if a0_0 = a1_0 then (some (decide (a0_1 < a1_1))) else (some false))) = some r := h
 clear h
 by_cases c3 : a0_0 < a1_0
 ·rw [if_pos c3] at H
  have c3b0 := decide_eq_true c3
  clear c3
  obtain rfl := Option.some.inj H
  go_enter Try.func23, Try.ntmps23
  go_wp2_with (first | ((with_reducible refine gate_dst (N := 2) rfl ?_); refine zBx (N := 2) #[.int .i64 a0_0, .int .i64 a0_1] 43 ?_; intro gb114 hg w4 hbox hb; have BK114 := Aside0.mk (hbox); have GW114 := zS hg; have GE114 := zS hg; replace HB := zX hb; clear hb hbox hg) | ((with_reducible refine gate_dst (N := 3) rfl ?_); refine zBx (N := 3) #[.int .i64 a1_0, .int .i64 a1_1] 43 ?_; intro gb115 hg w5 hbox hb; have BK115 := Aside0.mk (hbox); have GW115 := zSg hg (zG GE114.out); have GE115 := zSg hg (zG GE114.out); have NB114_115 := zL hg BK114.out; have NB115_114 := zLg hg BK114.out; replace BK114 := zV BK114.out hb; replace HB := zX1 GE114.out hb; clear hb hbox hg; have hnb6 := NB114_115.out; have hnc6 := NB115_114.out; obtain ⟨hcz7_0, hcz7_1, hfz7_0, hfz7_1⟩ := zq2 BK114.out; obtain ⟨hcz8_0, hcz8_1, hfz8_0, hfz8_1⟩ := zq2 BK115.out))
  go_ret
  exact ⟨zE, zG2 GE114.out GE115.out⟩
 rw [if_neg c3] at H
 have c3b0 := decide_eq_false c3
 clear c3
 by_cases c9 : a0_0 = a1_0
 ·rw [if_pos c9] at H
  have c9b0 := beq_iff_eq.mpr c9
  have c9b1 := bne_eq_false_iff_eq.mpr c9
  clear c9
  obtain rfl := Option.some.inj H
  go_enter Try.func23, Try.ntmps23
  go_wp2_with (first | ((with_reducible refine gate_dst (N := 2) rfl ?_); refine zBx (N := 2) #[.int .i64 a0_0, .int .i64 a0_1] 43 ?_; intro gb114 hg w10 hbox hb; have BK114 := Aside0.mk (hbox); have GW114 := zS hg; have GE114 := zS hg; replace HB := zX hb; clear hb hbox hg) | ((with_reducible refine gate_dst (N := 3) rfl ?_); refine zBx (N := 3) #[.int .i64 a1_0, .int .i64 a1_1] 43 ?_; intro gb115 hg w11 hbox hb; have BK115 := Aside0.mk (hbox); have GW115 := zSg hg (zG GE114.out); have GE115 := zSg hg (zG GE114.out); have NB114_115 := zL hg BK114.out; have NB115_114 := zLg hg BK114.out; replace BK114 := zV BK114.out hb; replace HB := zX1 GE114.out hb; clear hb hbox hg; have hnb12 := NB114_115.out; have hnc12 := NB115_114.out; obtain ⟨hcz13_0, hcz13_1, hfz13_0, hfz13_1⟩ := zq2 BK114.out; obtain ⟨hcz14_0, hcz14_1, hfz14_0, hfz14_1⟩ := zq2 BK115.out))
  go_ret
  exact ⟨zE, zG2 GE114.out GE115.out⟩
 rw [if_neg c9] at H
 have c9b0 := beq_eq_false_iff_ne.mpr c9
 have c9b1 := bne_iff_ne.mpr c9
 obtain rfl := Option.some.inj H
 go_enter Try.func23, Try.ntmps23
 go_wp2_with (first | ((with_reducible refine gate_dst (N := 2) rfl ?_); refine zBx (N := 2) #[.int .i64 a0_0, .int .i64 a0_1] 43 ?_; intro gb114 hg w15 hbox hb; have BK114 := Aside0.mk (hbox); have GW114 := zS hg; have GE114 := zS hg; replace HB := zX hb; clear hb hbox hg) | ((with_reducible refine gate_dst (N := 3) rfl ?_); refine zBx (N := 3) #[.int .i64 a1_0, .int .i64 a1_1] 43 ?_; intro gb115 hg w16 hbox hb; have BK115 := Aside0.mk (hbox); have GW115 := zSg hg (zG GE114.out); have GE115 := zSg hg (zG GE114.out); have NB114_115 := zL hg BK114.out; have NB115_114 := zLg hg BK114.out; replace BK114 := zV BK114.out hb; replace HB := zX1 GE114.out hb; clear hb hbox hg; have hnb17 := NB114_115.out; have hnc17 := NB115_114.out; obtain ⟨hcz18_0, hcz18_1, hfz18_0, hfz18_1⟩ := zq2 BK114.out; obtain ⟨hcz19_0, hcz19_1, hfz19_0, hfz19_1⟩ := zq2 BK115.out))
 go_ret
 exact ⟨zE, zG2 GE114.out GE115.out⟩
/-! ### spec_SortPoints: function 7 -/
mutual
def spec_SortPoints.l0 : Nat → List (S43) → List (S43) → Int → Option ((List (S43)))
 | 0, _, _, _ => none
 | k + 1, x0, x3, x4 => if x4 < (x0.length : Int) then ((spec_ArePoints.f k x0).bind fun t119 => (spec_SortPoints.j1 k x0 x3 x4 t119)) else (spec_SortPoints.j1 k x0 x3 x4 false)
def spec_SortPoints.j1 : Nat → List (S43) → List (S43) → Int → Bool → Option ((List (S43)))
 | 0, _, _, _, _ => none
 | k + 1, x0, x3, x4, x15 => if x15 = true then (spec_SortPoints.l1 k x0 x3 x4 (x3.length : Int)) else (some x3)
def spec_SortPoints.l1 : Nat → List (S43) → List (S43) → Int → Int → Option ((List (S43)))
 | 0, _, _, _, _ => none
 | k + 1, x0, x3, x4, x5 => if x5 > 0 then (if 0 ≤ x4 then (if x4 < (x0.length : Int) then (if 0 ≤ (wrap64 (x5 - 1)) then (if (wrap64 (x5 - 1)) < (x3.length : Int) then ((spec_l2Before.f ((rd_T43 x0 x4).f0) ((rd_T43 x0 x4).f1) ((rd_T43 x3 (wrap64 (x5 - 1))).f0) ((rd_T43 x3 (wrap64 (x5 - 1))).f1)).bind fun t122 => (if t122 = true then (spec_SortPoints.l1 k x0 x3 x4 (wrap64 (x5 - 1))) else ((some (([] : List (S43)) : List (S43))).bind fun y123 => (if 0 ≤ x5 then (if x5 ≤ (x3.length : Int) then ((some (x3.drop (x5 : Int).toNat : List (S43))).bind fun y126 => (if y123.length + y126.length < 8796093022208 then ((some (y123 ++ y126 : List (S43))).bind fun y130 => ((some (x3.take (x5 : Int).toNat : List (S43))).bind fun y133 => (if y133.length < 8796093022208 then ((some (y133 ++ [(⟨(rd_T43 x0 x4).f0, (rd_T43 x0 x4).f1⟩ : S43)] : List (S43))).bind fun y137 => (if y137.length + y130.length < 8796093022208 then (spec_SortPoints.l0 k x0 (y137 ++ y130) (wrap64 (x4 + 1))) else (none))) else (none)))) else (none))) else (none)) else (none))))) else (none)) else (none)) else (none)) else (none)) else ((some (([] : List (S43)) : List (S43))).bind fun y143 => (if 0 ≤ x5 then (if x5 ≤ (x3.length : Int) then ((some (x3.drop (x5 : Int).toNat : List (S43))).bind fun y146 => (if y143.length + y146.length < 8796093022208 then ((some (y143 ++ y146 : List (S43))).bind fun y150 => ((some (x3.take (x5 : Int).toNat : List (S43))).bind fun y153 => (if 0 ≤ x4 then (if x4 < (x0.length : Int) then (if y153.length < 8796093022208 then ((some (y153 ++ [(⟨(rd_T43 x0 x4).f0, (rd_T43 x0 x4).f1⟩ : S43)] : List (S43))).bind fun y157 => (if y157.length + y150.length < 8796093022208 then (spec_SortPoints.l0 k x0 (y157 ++ y150) (wrap64 (x4 + 1))) else (none))) else (none)) else (none)) else (none)))) else (none))) else (none)) else (none)))
end
def spec_SortPoints.f (k : Nat) (l0 : List (S43)) : Option ((List (S43))) := spec_SortPoints.l0 k l0 (([] : List (S43))) 0
def spec_SortPoints.T6 : Bool × List (List Nat × List Nat) := (true, [([], []), ([0], [0]), ([1], [1]), ([2], [2]), ([2], [2]), ([3, 4, 2], [2, 3, 4]), ([5, 2], [2, 5]), ([2], [2]), ([2], [2]), ([8, 2], [2, 8]), ([7, 9, 2], [2, 7, 9]), ([10, 2], [2, 10]), ([6, 11, 2, 2], [2, 6, 11]), ([2, 12], [2, 12])])
def spec_SortPoints.B6 : List Nat := [0, 1, 3, 7, 7, 31, 63, 7, 7, 263, 903, 1927, 4095, 8191]
theorem spec_SortPoints.tab6 : rtab .any (opsOf Try.f7 6) = spec_SortPoints.T6 := by kernel_rfl
theorem spec_SortPoints.bits6 : waitsOk spec_SortPoints.T6.2 spec_SortPoints.B6 = true := by kernel_rfl
def spec_SortPoints.T9 : Bool × List (List Nat × List Nat) := (true, [([], []), ([], []), ([0, 1], [0, 1]), ([], []), ([], []), ([3, 4], [3, 4]), ([5], [5]), ([6], [6]), ([2, 7], [2, 7]), ([], []), ([8, 9, 8], [8, 9]), ([10, 10, 0, 1, 2, 3, 4, 5, 6, 7, 8, 9, 10], [0, 10])])
def spec_SortPoints.B9 : List Nat := [0, 0, 3, 0, 0, 24, 56, 120, 255, 0, 1023, 2047]
theorem spec_SortPoints.tab9 : rtab .any (opsOf Try.f7 9) = spec_SortPoints.T9 := by kernel_rfl
theorem spec_SortPoints.bits9 : waitsOk spec_SortPoints.T9.2 spec_SortPoints.B9 = true := by kernel_rfl
set_option maxHeartbeats 8000000 in
set_option maxRecDepth 100000 in
theorem spec_SortPoints.calls (k : Nat) (A0 : Option Addr) (c0 : Nat) (l0 : List (S43)) (r : List (S43)) (w : World) (hr0 : Kd.C k43 w A0 l0.length l0) (hc0 : l0.length ≤ c0) (h : spec_SortPoints.f k l0 = some r) :
  Calls Try.prog 7 #[.slice A0 l0.length c0] w fun e w' => ∃ v0_ : Value, e = .returned (v0_) ∧ Kd.R k43 43 w' w.heap.size (fun _ => True) v0_ r ∧ Below w.heap.size w w' := by
 have hu43 := Try.underlying43
 have HR0 := Aside0.mk hr0
 have HC0 := Aside0.mk hc0
 clear hr0 hc0
 have HB := Aside0.mk (Below.refl w.heap.size w)
 have H : (spec_SortPoints.l0 k l0 (([] : List (S43))) 0) = some r := h
 clear h
 obtain ⟨y116, hy116⟩ : ∃ y_ : List (S43), y_ = (([] : List (S43))) := ⟨_, rfl⟩
 replace H : (spec_SortPoints.l0 k l0 y116 0) = some r := by first | (rw [hy116]; with_reducible exact H) | (have H2_ := (Option.bind_some _ _).symm.trans H; rw [hy116]; with_reducible exact H2_) | (have H2_ := (Option.bind_some _ _).symm.trans H; with_reducible exact H2_) | with_reducible exact H | (rw [hy116]; exact H) | exact H
 have Ny116 := Aside0.mk hy116
 clear hy116
 have H' := Aside0.mk H; clear H
 go_enter Try.func7, Try.ntmps7
 go_wp2_with (first | ((with_reducible refine gate_dst (N := 7) rfl ?_); refine Kd.R_lit k43 _ 43 ?hg (N := 7) ?hd (xs := ([] : List (S43))) (inner := []) (ok := fun _ => True) (okp := fun _ => True) ?hr ?hp (fun _ hk => hk) trivial (Below.refl _ _) (Nat.le_refl _) (by simp) ?_; (case hd => rfl); (case hg => rfl); (case hr => first | (go_simp; done) | (go_simp; rfl)); (case hp => exact (Reps.none _ _)); intro v117 w2 ho3 hb hg_ hnew_; clear hg_ hnew_; (first | rw [← Ny116.out] at ho3 | (simp only [Int.reduceToNat] at ho3; rw [← Ny116.out] at ho3)); have HO118 := Aside0.mk (Kd.R_lower ho3 (below_size zB)); replace HB := zX hb; clear hb ho3))
 go_loopg [3, 4] k (fun kq v3 v4 w' => ∃ (x3_1 : List (S43)) (x4_1 : Int), v4 = .int .i64 x4_1 ∧ Aside0 (spec_SortPoints.l0 kq l0 x3_1 x4_1 = some r) ∧ Aside0 (kq ≤ k) ∧ Aside0 (Kd.R k43 43 w' w.heap.size (fun _ => True) v3 x3_1) ∧ Aside0 (Below w.heap.size w w'))
 case atStart => exact ⟨(y116), (0), zF, H', ⟨Nat.le_refl _⟩, ⟨zR HO118.out⟩, ⟨zB⟩⟩
 case round =>
 clear H'
 obtain ⟨x3_1, x4_1, rfl, HA, HK1, HO_3, HB⟩ := hrel
 cases gk with
 | zero => exact absurd HA.out (by simp [spec_SortPoints.l0])
 | succ k1 =>
 have H := HA.out
 clear HA
 simp only [spec_SortPoints.l0] at H
 have HC4 := Aside0.mk H
 clear H
 go_upto_region 3 with (fail)
 go_cut [15] (fun v15 wc => ∃ (kq : Nat) (x15_3 : Bool), v15 = .bool x15_3 ∧ Aside0 (spec_SortPoints.j1 kq l0 x3_1 x4_1 x15_3 = some r) ∧ Aside0 (kq ≤ k1) ∧ Aside0 (Kd.R k43 43 wc w.heap.size (fun _ => True) u3 x3_1) ∧ Aside0 (Below w.heap.size w wc))
 case first =>
  have H := HC4.out
  clear HC4
  by_cases c5 : x4_1 < (l0.length : Int)
  ·rw [if_pos c5] at H
   have c5b0 := decide_eq_true c5
   clear c5
   (first | rw [c5b0] | (simp only [i64_w, i32_w]; rw [c5b0]) | skip)
   obtain ⟨t119, A6, H⟩ := zO H
   have H' := Aside0.mk H; clear H
   go_wp2_with (first | (go_at_call 22; (with_reducible refine (spec_ArePoints.calls k1 _ _ l0 t119 _ ?side1 ?side2 A6.out).mono ?_); (case side1 => repeat (first | exact (Kd.C_below HR0.out HB.out) | (with_reducible refine Kd.C_alloc ?_ _) | (with_reducible refine Kd.C_drewN ?_ _) | (with_reducible refine Kd.C_drew ?_))); (case side2 => exact HC0.out); rintro e w7 ⟨rfl, hb⟩; replace HO_3 := zW HO_3.out hb; replace HB := zX hb; (try clear hb); (try clear hb2); (try clear hk); (try clear hi)))
   go_meet
   case rel => exact ⟨_, (t119), zF, H', ⟨by have := HK1.out; first | omega | exact Nat.le_refl _⟩, ⟨zR HO_3.out⟩, ⟨zB⟩⟩
  rw [if_neg c5] at H
  have c5b0 := decide_eq_false c5
  clear c5
  (first | rw [c5b0] | (simp only [i64_w, i32_w]; rw [c5b0]) | skip)
  have H' := Aside0.mk H; clear H
  go_wp2
  go_meet
  case rel => exact ⟨_, (false), zF, H', ⟨by have := HK1.out; first | omega | exact Nat.le_refl _⟩, ⟨zR HO_3.out⟩, ⟨zB⟩⟩
 case rest =>
 clear HC4
 obtain ⟨kq, x15_3, rfl, HA, HJ3, HO_3, HB⟩ := hcut
 cases kq with
 | zero => exact absurd HA.out (by simp [spec_SortPoints.j1])
 | succ kj3 =>
 have H := HA.out
 clear HA
 simp only [spec_SortPoints.j1] at H
 by_cases c8 : x15_3 = true
 ·subst c8
  replace H := (if_pos rfl).symm.trans H
  have H' := Aside0.mk H; clear H
  obtain ⟨Ao9, co9, eo9⟩ := Kd.R_slice HO_3.out
  subst eo9
  go_wp2
  go_loopg [5] kj3 (fun kq v5 w' => ∃ (x5_3 : Int), v5 = .int .i64 x5_3 ∧ Aside0 (spec_SortPoints.l1 kq l0 x3_1 x4_1 x5_3 = some r) ∧ Aside0 (kq ≤ kj3) ∧ Aside0 (Kd.R k43 43 w' w.heap.size (fun _ => True) (.slice Ao9 x3_1.length co9) x3_1) ∧ Aside0 (Below w.heap.size w w'))
  case atStart => exact ⟨((x3_1.length : Int)), zF, H', ⟨Nat.le_refl _⟩, ⟨zR HO_3.out⟩, ⟨zB⟩⟩
  case round =>
  clear H'
  try clear c8
  obtain ⟨x5_3, rfl, HA, HK3, HO_3, HB⟩ := hrel
  cases gk with
  | zero => exact absurd HA.out (by simp [spec_SortPoints.l1])
  | succ k3 =>
  have H := HA.out
  clear HA
  simp only [spec_SortPoints.l1] at H
  by_cases c10 : x5_3 > 0
  ·rw [if_pos c10] at H
   have c10b0 : decide (0 < x5_3) = true := decide_eq_true c10
   clear c10
   by_cases c11 : 0 ≤ x4_1
   ·rw [if_pos c11] at H
    have c11b0 := decide_eq_true c11
    clear c11
    by_cases c12 : x4_1 < (l0.length : Int)
    ·rw [if_pos c12] at H
     have c12b0 := decide_eq_true c12
     clear c12
     obtain ⟨ji13, hji13⟩ : ∃ j_ : Int, (wrap64 (x5_3 - 1)) = j_ := ⟨_, rfl⟩
     replace H : (if 0 ≤ (ji13) then (if (ji13) < (x3_1.length : Int) then ((spec_l2Before.f ((rd_T43 l0 x4_1).f0) ((rd_T43 l0 x4_1).f1) ((rd_T43 x3_1 (ji13)).f0) ((rd_T43 x3_1 (ji13)).f1)).bind fun t122 => (if t122 = true then (spec_SortPoints.l1 k3 l0 x3_1 x4_1 ji13) else ((some (([] : List (S43)) : List (S43))).bind fun y123 => (if 0 ≤ x5_3 then (if x5_3 ≤ (x3_1.length : Int) then ((some (x3_1.drop (x5_3 : Int).toNat : List (S43))).bind fun y126 => (if y123.length + y126.length < 8796093022208 then ((some (y123 ++ y126 : List (S43))).bind fun y130 => ((some (x3_1.take (x5_3 : Int).toNat : List (S43))).bind fun y133 => (if y133.length < 8796093022208 then ((some (y133 ++ [(⟨(rd_T43 l0 x4_1).f0, (rd_T43 l0 x4_1).f1⟩ : S43)] : List (S43))).bind fun y137 => (if y137.length + y130.length < 8796093022208 then (spec_SortPoints.l0 k3 l0 (y137 ++ y130) (wrap64 (x4_1 + 1))) else (none))) else (none)))) else (none))) else (none)) else (none))))) else (none)) else (none)) = some r := by first | (rw [hji13] at H; exact H) | (simp only [hji13] at H ⊢; exact H)
     have hji13w : (IntKind.i64.wrap (x5_3 - 1)) = ji13 := (i64_w _).trans hji13
     by_cases c14 : 0 ≤ (ji13)
     ·rw [if_pos c14] at H
      have c14b0 := decide_eq_true c14
      clear c14
      by_cases c15 : (ji13) < (x3_1.length : Int)
      ·rw [if_pos c15] at H
       have c15b0 := decide_eq_true c15
       clear c15
       obtain ⟨t122, A16, H⟩ := zO H
       by_cases c17 : t122 = true
       ·subst c17
        replace H := (if_pos rfl).symm.trans H
        have H' := Aside0.mk H; clear H
        try go_wp2
        replace HO_3 := Aside0.mk (Kd.R_drew HO_3.out)
        replace HB := Aside0.mk (below_drew1 HB.out)
        have p120 : 0 ≤ (x4_1 : Int) := zA
        have q120 : x4_1 < (l0.length : Int) := zA
        obtain ⟨ad120, e120, hx120_0, hx120_1⟩ := at_T43 HR0.out x4_1 p120 q120
        have hw120_1 := hx120_1
        have hw120_0 := hx120_0
        cases e120
        replace hx120_0 := (HB.out.cell (World.block_lt_of_cell? w _ hx120_0)).trans hx120_0
        replace hx120_1 := (HB.out.cell (World.block_lt_of_cell? w _ hx120_1)).trans hx120_1
        replace p120 := eq_true p120
        replace q120 := eq_true q120
        have p121 : 0 ≤ ((ji13) : Int) := zA
        have q121 : (ji13) < (x3_1.length : Int) := zA
        obtain ⟨ad121, e121, hx121_0, hx121_1⟩ := at_T43 (Kd.R_reads' HO_3.out).2.2 (ji13) p121 q121
        cases e121
        replace p121 := eq_true p121
        replace q121 := eq_true q121
        refine start_ (n := 14) (S := fun w' => w'.cell? (ad120.add ((x4_1).toNat * 2)) = some (.int .i64 ((rd_T43 l0 x4_1).f0)) ∧ w'.cell? ⟨(ad120.add ((x4_1).toNat * 2)).block, (ad120.add ((x4_1).toNat * 2)).off + 1, none⟩ = some (.int .i64 ((rd_T43 l0 x4_1).f1)) ∧ w'.cell? (ad121.add (((ji13)).toNat * 2)) = some (.int .i64 ((rd_T43 x3_1 (ji13)).f0)) ∧ w'.cell? ⟨(ad121.add (((ji13)).toNat * 2)).block, (ad121.add (((ji13)).toNat * 2)).off + 1, none⟩ = some (.int .i64 ((rd_T43 x3_1 (ji13)).f1))) (ds := []) #[false, false, false, false, false, false, false, false, false, false, false, false, false, false] (by kernel_rfl) rfl rfl ⟨((HB.out.cell (World.block_lt_of_cell? w _ hw120_0)).trans hw120_0), ((HB.out.cell (World.block_lt_of_cell? w _ hw120_1)).trans hw120_1), hx121_0, hx121_1⟩ (fun hHeld => ?_); refine with_tabW spec_SortPoints.tab6 spec_SortPoints.bits6 (fun HT_ HW_ => ?_)
        generalize wr.drew = w18 at HO_3 HB hx120_0 hx120_1 hx121_0 hx121_1 hHeld ⊢
        refine zP 0 (some 20) rfl rfl ?_
        refine zP 1 (some 21) rfl rfl ?_
        refine zP 2 (some 22) rfl rfl ?_
        refine zP 3 (some 23) rfl rfl ?_
        refine zP 4 (some 24) rfl rfl ?_
        refine zP 5 (some 25) rfl rfl ?_
        refine zP 7 (some 27) rfl rfl ?_
        refine zP 8 (some 28) rfl rfl ?_
        refine zP 9 (some 29) rfl rfl ?_
        refine zP 10 (some 30) rfl rfl ?_
        refine zY4 6 (some 26) rfl rfl hHeld ?_
        refine zY4 11 (some 31) rfl rfl hHeld ?_
        refine zU 12 (some 32) rfl rfl (fun K hK => ?_)
        refine goes_ Try.func23 (by kernel_rfl) rfl #[.agg #[.int .i64 ((rd_T43 l0 x4_1).f0), .int .i64 ((rd_T43 l0 x4_1).f1)], .agg #[.int .i64 ((rd_T43 x3_1 (ji13)).f0), .int .i64 ((rd_T43 x3_1 (ji13)).f1)]] (by rfl) rfl rfl (by (try simp only [List.map_toArray, List.map_cons, List.map_nil]); first | done | (simp only [hji13]; rfl) | rfl | (simp only [List.length_drop, List.length_take]; rfl)) ?_
        with_reducible refine (spec_l2Before.calls ((rd_T43 l0 x4_1).f0) ((rd_T43 l0 x4_1).f1) ((rd_T43 x3_1 (ji13)).f0) ((rd_T43 x3_1 (ji13)).f1) true _ A16.out).mono ?_
        rintro e w19 ⟨rfl, hb⟩
        have HS2_ := (hb.cell (World.block_lt_of_cell? _ _ (hHeld.2.2.1))).trans (hHeld.2.2.1)
        have HS3_ := (hb.cell (World.block_lt_of_cell? _ _ (hHeld.2.2.2))).trans (hHeld.2.2.2)
        refine ⟨_, rfl, ?_⟩
        replace HO_3 := zW HO_3.out hb
        replace HB := zX hb
        (try clear hb)
        refine hK.out _ _ ⟨((HB.out.cell (World.block_lt_of_cell? w _ hw120_0)).trans hw120_0), ((HB.out.cell (World.block_lt_of_cell? w _ hw120_1)).trans hw120_1), HS2_, HS3_⟩ (fun hHeld => ?_)
        clear hK K
        refine zN ?_
        refine zP 13 (some 33) rfl rfl ?_
        refine done_ (done_of HT_.out (by kernel_rfl)) ?_
        try go_wp2
        go_roundg k3
        case measure => have := HK1.out; have := HJ3.out; have := HK3.out; omega
        case rel => exact ⟨(ji13), (by first | rfl | (simp; done) | (simp only [← hji13] <;> (first | rfl | simp)) | (simp [*]; done)), H', ⟨by have := HK1.out; have := HJ3.out; have := HK3.out; omega⟩, ⟨zR HO_3.out⟩, ⟨zB⟩⟩
       replace c17 := Bool.eq_false_iff.mpr c17
       subst c17
       replace H := (if_neg zFf).symm.trans H
       obtain ⟨y123, hy123⟩ : ∃ y_ : List (S43), y_ = (([] : List (S43))) := ⟨_, rfl⟩
       replace H : (if 0 ≤ x5_3 then (if x5_3 ≤ (x3_1.length : Int) then ((some (x3_1.drop (x5_3 : Int).toNat : List (S43))).bind fun y126 => (if y123.length + y126.length < 8796093022208 then ((some (y123 ++ y126 : List (S43))).bind fun y130 => ((some (x3_1.take (x5_3 : Int).toNat : List (S43))).bind fun y133 => (if y133.length < 8796093022208 then ((some (y133 ++ [(⟨(rd_T43 l0 x4_1).f0, (rd_T43 l0 x4_1).f1⟩ : S43)] : List (S43))).bind fun y137 => (if y137.length + y130.length < 8796093022208 then (spec_SortPoints.l0 k3 l0 (y137 ++ y130) (wrap64 (x4_1 + 1))) else (none))) else (none)))) else (none))) else (none)) else (none)) = some r := by first | (rw [hy123]; with_reducible exact H) | (have H2_ := (Option.bind_some _ _).symm.trans H; rw [hy123]; with_reducible exact H2_) | (have H2_ := (Option.bind_some _ _).symm.trans H; with_reducible exact H2_) | with_reducible exact H | (rw [hy123]; exact H) | exact H
       have Ny123 := Aside0.mk hy123
       clear hy123
       by_cases c20 : 0 ≤ x5_3
       ·rw [if_pos c20] at H
        have c20b0 := eq_true c20
        have c20b1 := decide_eq_true c20
        clear c20
        by_cases c21 : x5_3 ≤ (x3_1.length : Int)
        ·rw [if_pos c21] at H
         have c21b0 := eq_true c21
         have c21b1 := decide_eq_true c21
         clear c21
         obtain ⟨y126, hy126⟩ : ∃ y_ : List (S43), y_ = (x3_1.drop (x5_3 : Int).toNat) := ⟨_, rfl⟩
         replace H : (if y123.length + y126.length < 8796093022208 then ((some (y123 ++ y126 : List (S43))).bind fun y130 => ((some (x3_1.take (x5_3 : Int).toNat : List (S43))).bind fun y133 => (if y133.length < 8796093022208 then ((some (y133 ++ [(⟨(rd_T43 l0 x4_1).f0, (rd_T43 l0 x4_1).f1⟩ : S43)] : List (S43))).bind fun y137 => (if y137.length + y130.length < 8796093022208 then (spec_SortPoints.l0 k3 l0 (y137 ++ y130) (wrap64 (x4_1 + 1))) else (none))) else (none)))) else (none)) = some r := by first | (rw [hy126]; with_reducible exact H) | (have H2_ := (Option.bind_some _ _).symm.trans H; rw [hy126]; with_reducible exact H2_) | (have H2_ := (Option.bind_some _ _).symm.trans H; with_reducible exact H2_) | with_reducible exact H | (rw [hy126]; exact H) | exact H
         have Ny126 := Aside0.mk hy126
         clear hy126
         by_cases c22 : y123.length + y126.length < 8796093022208
         ·rw [if_pos c22] at H
          have LMc22 := Aside0.mk c22
          clear c22
          obtain ⟨y130, hy130⟩ : ∃ y_ : List (S43), y_ = (y123 ++ y126) := ⟨_, rfl⟩
          replace H : ((some (x3_1.take (x5_3 : Int).toNat : List (S43))).bind fun y133 => (if y133.length < 8796093022208 then ((some (y133 ++ [(⟨(rd_T43 l0 x4_1).f0, (rd_T43 l0 x4_1).f1⟩ : S43)] : List (S43))).bind fun y137 => (if y137.length + y130.length < 8796093022208 then (spec_SortPoints.l0 k3 l0 (y137 ++ y130) (wrap64 (x4_1 + 1))) else (none))) else (none))) = some r := by first | (rw [hy130]; with_reducible exact H) | (have H2_ := (Option.bind_some _ _).symm.trans H; rw [hy130]; with_reducible exact H2_) | (have H2_ := (Option.bind_some _ _).symm.trans H; with_reducible exact H2_) | with_reducible exact H | (rw [hy130]; exact H) | exact H
          have Ny130 := Aside0.mk hy130
          clear hy130
          have c23b0 := eq_true (zA : x5_3 ≤ (x3_1.length : Int))
          obtain ⟨y133, hy133⟩ : ∃ y_ : List (S43), y_ = (x3_1.take (x5_3 : Int).toNat) := ⟨_, rfl⟩
          replace H : (if y133.length < 8796093022208 then ((some (y133 ++ [(⟨(rd_T43 l0 x4_1).f0, (rd_T43 l0 x4_1).f1⟩ : S43)] : List (S43))).bind fun y137 => (if y137.length + y130.length < 8796093022208 then (spec_SortPoints.l0 k3 l0 (y137 ++ y130) (wrap64 (x4_1 + 1))) else (none))) else (none)) = some r := by first | (rw [hy133]; with_reducible exact H) | (have H2_ := (Option.bind_some _ _).symm.trans H; rw [hy133]; with_reducible exact H2_) | (have H2_ := (Option.bind_some _ _).symm.trans H; with_reducible exact H2_) | with_reducible exact H | (rw [hy133]; exact H) | exact H
          have Ny133 := Aside0.mk hy133
          clear hy133
          by_cases c24 : y133.length < 8796093022208
          ·rw [if_pos c24] at H
           have LMc24 := Aside0.mk c24
           clear c24
           obtain ⟨y137, hy137⟩ : ∃ y_ : List (S43), y_ = (y133 ++ [(⟨(rd_T43 l0 x4_1).f0, (rd_T43 l0 x4_1).f1⟩ : S43)]) := ⟨_, rfl⟩
           replace H : (if y137.length + y130.length < 8796093022208 then (spec_SortPoints.l0 k3 l0 (y137 ++ y130) (wrap64 (x4_1 + 1))) else (none)) = some r := by first | (rw [hy137]; with_reducible exact H) | (have H2_ := (Option.bind_some _ _).symm.trans H; rw [hy137]; with_reducible exact H2_) | (have H2_ := (Option.bind_some _ _).symm.trans H; with_reducible exact H2_) | with_reducible exact H | (rw [hy137]; exact H) | exact H
           have Ny137 := Aside0.mk hy137
           clear hy137
           by_cases c25 : y137.length + y130.length < 8796093022208
           ·rw [if_pos c25] at H
            have LMc25 := Aside0.mk c25
            clear c25
            obtain ⟨y140, hy140⟩ : ∃ y_ : List (S43), y_ = (y137 ++ y130) := ⟨_, rfl⟩
            replace H : (spec_SortPoints.l0 k3 l0 y140 (wrap64 (x4_1 + 1))) = some r := by first | (rw [hy140]; with_reducible exact H) | (have H2_ := (Option.bind_some _ _).symm.trans H; rw [hy140]; with_reducible exact H2_) | (have H2_ := (Option.bind_some _ _).symm.trans H; with_reducible exact H2_) | with_reducible exact H | (rw [hy140]; exact H) | exact H
            have Ny140 := Aside0.mk hy140
            clear hy140
            have H' := Aside0.mk H; clear H
            try go_wp2
            replace HO_3 := Aside0.mk (Kd.R_drew HO_3.out)
            replace HB := Aside0.mk (below_drew1 HB.out)
            have p120 : 0 ≤ (x4_1 : Int) := zA
            have q120 : x4_1 < (l0.length : Int) := zA
            obtain ⟨ad120, e120, hx120_0, hx120_1⟩ := at_T43 HR0.out x4_1 p120 q120
            have hw120_1 := hx120_1
            have hw120_0 := hx120_0
            cases e120
            replace hx120_0 := (HB.out.cell (World.block_lt_of_cell? w _ hx120_0)).trans hx120_0
            replace hx120_1 := (HB.out.cell (World.block_lt_of_cell? w _ hx120_1)).trans hx120_1
            replace p120 := eq_true p120
            replace q120 := eq_true q120
            have p121 : 0 ≤ ((ji13) : Int) := zA
            have q121 : (ji13) < (x3_1.length : Int) := zA
            obtain ⟨ad121, e121, hx121_0, hx121_1⟩ := at_T43 (Kd.R_reads' HO_3.out).2.2 (ji13) p121 q121
            cases e121
            replace p121 := eq_true p121
            replace q121 := eq_true q121
            refine start_ (n := 14) (S := fun w' => w'.cell? (ad120.add ((x4_1).toNat * 2)) = some (.int .i64 ((rd_T43 l0 x4_1).f0)) ∧ w'.cell? ⟨(ad120.add ((x4_1).toNat * 2)).block, (ad120.add ((x4_1).toNat * 2)).off + 1, none⟩ = some (.int .i64 ((rd_T43 l0 x4_1).f1)) ∧ w'.cell? (ad121.add (((ji13)).toNat * 2)) = some (.int .i64 ((rd_T43 x3_1 (ji13)).f0)) ∧ w'.cell? ⟨(ad121.add (((ji13)).toNat * 2)).block, (ad121.add (((ji13)).toNat * 2)).off + 1, none⟩ = some (.int .i64 ((rd_T43 x3_1 (ji13)).f1))) (ds := []) #[false, false, false, false, false, false, false, false, false, false, false, false, false, false] (by kernel_rfl) rfl rfl ⟨((HB.out.cell (World.block_lt_of_cell? w _ hw120_0)).trans hw120_0), ((HB.out.cell (World.block_lt_of_cell? w _ hw120_1)).trans hw120_1), hx121_0, hx121_1⟩ (fun hHeld => ?_); refine with_tabW spec_SortPoints.tab6 spec_SortPoints.bits6 (fun HT_ HW_ => ?_)
            generalize wr.drew = w26 at HO_3 HB hx120_0 hx120_1 hx121_0 hx121_1 hHeld ⊢
            refine zP 0 (some 20) rfl rfl ?_
            refine zP 1 (some 21) rfl rfl ?_
            refine zP 2 (some 22) rfl rfl ?_
            refine zP 3 (some 23) rfl rfl ?_
            refine zP 4 (some 24) rfl rfl ?_
            refine zP 5 (some 25) rfl rfl ?_
            refine zP 7 (some 27) rfl rfl ?_
            refine zP 8 (some 28) rfl rfl ?_
            refine zP 9 (some 29) rfl rfl ?_
            refine zP 10 (some 30) rfl rfl ?_
            refine zY4 6 (some 26) rfl rfl hHeld ?_
            refine zY4 11 (some 31) rfl rfl hHeld ?_
            refine zU 12 (some 32) rfl rfl (fun K hK => ?_)
            refine goes_ Try.func23 (by kernel_rfl) rfl #[.agg #[.int .i64 ((rd_T43 l0 x4_1).f0), .int .i64 ((rd_T43 l0 x4_1).f1)], .agg #[.int .i64 ((rd_T43 x3_1 (ji13)).f0), .int .i64 ((rd_T43 x3_1 (ji13)).f1)]] (by rfl) rfl rfl (by (try simp only [List.map_toArray, List.map_cons, List.map_nil]); first | done | (simp only [hji13]; rfl) | rfl | (simp only [List.length_drop, List.length_take]; rfl)) ?_
            with_reducible refine (spec_l2Before.calls ((rd_T43 l0 x4_1).f0) ((rd_T43 l0 x4_1).f1) ((rd_T43 x3_1 (ji13)).f0) ((rd_T43 x3_1 (ji13)).f1) false _ A16.out).mono ?_
            rintro e w27 ⟨rfl, hb⟩
            have HS2_ := (hb.cell (World.block_lt_of_cell? _ _ (hHeld.2.2.1))).trans (hHeld.2.2.1)
            have HS3_ := (hb.cell (World.block_lt_of_cell? _ _ (hHeld.2.2.2))).trans (hHeld.2.2.2)
            refine ⟨_, rfl, ?_⟩
            replace HO_3 := zW HO_3.out hb
            replace HB := zX hb
            (try clear hb)
            refine hK.out _ _ ⟨((HB.out.cell (World.block_lt_of_cell? w _ hw120_0)).trans hw120_0), ((HB.out.cell (World.block_lt_of_cell? w _ hw120_1)).trans hw120_1), HS2_, HS3_⟩ (fun hHeld => ?_)
            clear hK K
            refine zN ?_
            refine zP 13 (some 33) rfl rfl ?_
            refine done_ (done_of HT_.out (by kernel_rfl)) ?_
            try go_wp2_with (first | ((with_reducible refine gate_dst (N := 36) rfl ?_); refine Kd.R_lit k43 _ 43 ?hg (N := 36) ?hd (xs := ([] : List (S43))) (inner := []) (ok := fun _ => True) (okp := fun _ => True) ?hr ?hp (fun _ hk => hk) trivial (Below.refl _ _) (Nat.le_refl _) (by simp) ?_; (case hd => rfl); (case hg => rfl); (case hr => first | (go_simp; done) | (go_simp; rfl)); (case hp => exact (Reps.none _ _)); intro v124 w28 ho29 hb hg_ hnew_; clear hg_ hnew_; (first | rw [← Ny123.out] at ho29 | (simp only [Int.reduceToNat] at ho29; rw [← Ny123.out] at ho29)); have HO125 := Aside0.mk (Kd.R_lower (Kd.R_new' ho29 (Kd.R_lt (zR HO_3.out))) (below_size zB)); replace HO_3 := Aside0.mk (Kd.R_elder' (zR HO_3.out) (Kd.R_base ho29) hb); replace HB := zX hb; clear hb ho29; have q30 : (x5_3 : Int) ≤ ((x3_1.length : Int) : Int) := zA; obtain ⟨i030, hi030, _, hsz30, _⟩ := info_parts info43; have hroom30 : x3_1.length ≤ co9 := (Kd.R_reads' HO_3.out).2.1; have hC30 : Kd.C k43 _ (some ad121) x3_1.length x3_1 := (Kd.R_reads' HO_3.out).2.2; have q030 : (0 : Int) ≤ (x5_3 : Int) := zA; have hcut30 := cut_from (P := Try.prog) 24 43 .i64 Try.underlying24 hi030 2 hsz30 (some ad121) x3_1.length co9 x5_3 q030 q30; have hr30 := Kd.C_drop (m := (x5_3 : Int).toNat) (c := co9) hC30 (by omega) hroom30; obtain ⟨A30, hA30⟩ : ∃ A1, A1 = (if co9 = (x5_3 : Int).toNat then (some ad121) else ((some ad121) : Option Addr).map (·.add ((x5_3 : Int).toNat * 2))) := ⟨_, rfl⟩; obtain ⟨c30, hc30⟩ : ∃ c1, c1 = co9 - (x5_3 : Int).toNat := ⟨_, rfl⟩; have hy30 : y126.length = x3_1.length - (x5_3 : Int).toNat := (by rw [Ny126.out, List.length_drop] <;> omega); rw [show (x3_1).drop (x5_3 : Int).toNat = y126 from Ny126.out.symm] at hr30; replace hr30 : Kd.C k43 _ A30 y126.length y126 := (by rw [hA30]; exact hr30); rw [← hy30, ← hA30, ← hc30] at hcut30; have HR129 := Aside0.mk hr30; have HC129 := Aside0.mk (show y126.length ≤ c30 from by rw [hy30, hc30]; exact Nat.sub_le_sub_right hroom30 _); clear hr30 hC30 hroom30 hi030 hsz30 hc30; have KY30 := Aside0.mk hy30; have KA30 := Aside0.mk hA30; clear hy30 hA30; have KL30 := Aside0.mk (show (x5_3 : Int).toNat ≤ x3_1.length from by omega); replace q30 := eq_true q30) | ((with_reducible refine gate_builtin (b := .append) (xs := #[.tmp 36, .tmp 39]) rfl ?_); at_builtin; refine Kd.R_append_rows k43 (w0 := w) w.heap.size rfl (.tmp 36) (.tmp 39) 24 43 (.agg #[(.int .i64 0), (.int .i64 0)]) 16 rfl Try.underlying24 info43 rfl (by decide) (by omega) v124 y123 y126 _ _ _ (fun k_ => some k_ ≠ (.slice (some ad121) x3_1.length co9 : Value).ownBlock) (fun _ => False) rfl rfl ?aO ?aR (fun _ _ h => h) (fun _ h => h.elim) ?aF ?aB ?aS ?aL ?_; (case aR => repeat (first | exact (by repeat (first | (with_reducible exact HR129.out) | (with_reducible refine Kd.C_alloc ?_ _) | (with_reducible refine Kd.C_drewN ?_ _) | (with_reducible refine Kd.C_drew ?_) | exact HR129.out)) | (with_reducible refine Kd.C_alloc ?_ _) | (with_reducible refine Kd.C_drewN ?_ _) | (with_reducible refine Kd.C_drew ?_))); (case aB => exact zB); (case aF => exact (fun k_ hk => Kd.fresh' (Kd.R_lt (zR HO_3.out)) k_ hk)); (case aO => exact (by (with_reducible repeat (first | apply Kd.R_alloc | apply Kd.R_drewN | apply Kd.R_drew)); exact Kd.R_mono HO125.out (fun _ hk => hk.2))); (case aS => exact (below_size zB)); (case aL => have := LMc22.out; omega); intro v131 w31 ho hb hg hat; rw [← Ny130.out] at ho; have n0_ := Aside0.mk (Kd.R_after (ok := (fun _ => True)) (zR HO_3.out) hg hat); have n1_ := Aside0.mk (hb); have n2_ := Aside0.mk ((show Kd.C k43 w31 A30 y126.length y126 from by rw [Ny126.out, KA30.out]; exact Kd.C_drop (m := (x5_3 : Int).toNat) (c := co9) ((Kd.R_reads' (Kd.R_after (ok := (fun _ => True)) (zR HO_3.out) hg hat)).2.2) KL30.out ((Kd.R_reads' (Kd.R_after (ok := (fun _ => True)) (zR HO_3.out) hg hat)).2.1))); have n3_ := Aside0.mk (ho); clear HO_3; clear HB; clear HR129; clear HO125; have HO_3 := n0_; have HB := n1_; have HR129 := n2_; have HO132 := n3_; clear n0_ n1_ n2_ n3_; clear ho hb hg hat))
            replace HO_3 := Aside0.mk (Kd.R_drew HO_3.out)
            replace HO132 := Aside0.mk (Kd.R_drew HO132.out)
            replace HR129 := Aside0.mk (Kd.C_drew HR129.out)
            replace HB := Aside0.mk (below_drew1 HB.out)
            have q33 : (x5_3 : Int) ≤ ((x3_1.length : Int) : Int) := zA
            obtain ⟨i033, hi033, _, hsz33, _⟩ := info_parts info43
            have hcut33 := cut_to (P := Try.prog) 24 43 .i64 Try.underlying24 hi033 (some ad121) x3_1.length co9 x5_3 (zA) q33 (Kd.R_reads' HO_3.out).2.1
            have hr33 := Kd.R_take (m := (x5_3 : Int).toNat) HO_3.out (by omega)
            have hy33 : y133.length = (x5_3 : Int).toNat := (by rw [Ny133.out, List.length_take]; omega)
            rw [← Ny133.out] at hr33
            rw [← hy33] at hr33 hcut33
            clear hy33 hi033 hsz33 HO_3
            have HO135 := Aside0.mk hr33
            clear hr33
            replace q33 := eq_true q33
            have p136 : 0 ≤ (x4_1 : Int) := zA
            have q136 : x4_1 < (l0.length : Int) := zA
            obtain ⟨ad136, e136, hx136_0, hx136_1⟩ := at_T43 HR0.out x4_1 p136 q136
            have hw136_1 := hx136_1
            have hw136_0 := hx136_0
            obtain rfl : ad120 = ad136 := (by injection e136)
            replace hx136_0 := (HB.out.cell (World.block_lt_of_cell? w _ hx136_0)).trans hx136_0
            replace hx136_1 := (HB.out.cell (World.block_lt_of_cell? w _ hx136_1)).trans hx136_1
            replace p136 := eq_true p136
            replace q136 := eq_true q136
            refine start_ (n := 12) (S := fun w' => w'.cell? (ad120.add ((x4_1).toNat * 2)) = some (.int .i64 ((rd_T43 l0 x4_1).f0)) ∧ w'.cell? ⟨(ad120.add ((x4_1).toNat * 2)).block, (ad120.add ((x4_1).toNat * 2)).off + 1, none⟩ = some (.int .i64 ((rd_T43 l0 x4_1).f1))) (ds := []) #[false, false, false, false, false, false, false, false, false, false, false, false] (by kernel_rfl) rfl rfl ⟨((HB.out.cell (World.block_lt_of_cell? w _ hw136_0)).trans hw136_0), ((HB.out.cell (World.block_lt_of_cell? w _ hw136_1)).trans hw136_1)⟩ (fun hHeld => ?_); refine with_tabW spec_SortPoints.tab9 spec_SortPoints.bits9 (fun HT_ HW_ => ?_)
            generalize w31.drew = w32 at HO_3 HO132 HR129 HB HO135 hx136_0 hx136_1 hHeld ⊢
            refine zP 0 (some 41) rfl rfl ?_
            refine zP 1 (some 42) rfl rfl ?_
            refine zP 2 (some 43) rfl rfl ?_
            refine zP 3 (some 44) rfl rfl ?_
            refine zP 4 (some 45) rfl rfl ?_
            refine zP 5 (some 46) rfl rfl ?_
            refine zP 9 (some 50) rfl rfl ?_
            refine zY2 6 (some 47) rfl rfl hHeld ?_
            refine zU 7 (some 48) rfl rfl (fun K hK => ?_)
            refine value_ (w1 := ?_) (v := ?_) (by rfl) rfl ?_ ?_
            rotate_left 2
            ·go_simp
             constructor
             ·rfl
             rfl
            refine hK.out _ _ ⟨(World.cell?_alloc_lt _ _ _ (World.block_lt_of_cell? _ _ (((HB.out.cell (World.block_lt_of_cell? w _ hw136_0)).trans hw136_0)))).trans (((HB.out.cell (World.block_lt_of_cell? w _ hw136_0)).trans hw136_0)), (World.cell?_alloc_lt _ _ _ (World.block_lt_of_cell? _ _ (((HB.out.cell (World.block_lt_of_cell? w _ hw136_1)).trans hw136_1)))).trans (((HB.out.cell (World.block_lt_of_cell? w _ hw136_1)).trans hw136_1))⟩ (fun hHeld => ?_)
            clear hK K
            refine zN ?_
            refine zU 8 (some 49) rfl rfl (fun K hK => ?_)
            refine Kd.R_append_step k43 (w0 := w) w.heap.size (by rfl) (.tmp 43) (.tmp 48) 24 43 (.agg #[(.int .i64 0), (.int .i64 0)]) 16 rfl Try.underlying24 info43 rfl (by decide) (by omega) (.slice (some ad121) y133.length co9) y133 (⟨(rd_T43 l0 x4_1).f0, (rd_T43 l0 x4_1).f1⟩ : S43) [.int .i64 ((rd_T43 l0 x4_1).f0), .int .i64 ((rd_T43 l0 x4_1).f1)] (fun k_ => some k_ ≠ (v131 : Value).ownBlock) (fun _ => False) rfl rfl ?aP (fun _ hk => hk.elim) ?aF ?aO ?aB ?aS ?aL ?_
            (case aP => exact k43_mkM _ _ _ (⟨(rd_T43 l0 x4_1).f0, (rd_T43 l0 x4_1).f1⟩ : S43))
            (case aB => exact zB)
            (case aF => exact (fun k_ hk => Kd.fresh' (Kd.R_lt (zR HO132.out)) k_ hk))
            (case aO => exact (by (with_reducible repeat (first | apply Kd.R_alloc | apply Kd.R_drewN | apply Kd.R_drew)); exact Kd.R_mono HO135.out (fun _ hk => hk.2)))
            (case aS => exact (below_size zB))
            (case aL => have := LMc24.out; omega)
            intro v138 w34 ho hb hg hat
            rw [← Ny137.out] at ho
            have n0_ := Aside0.mk (Kd.R_after (ok := (fun _ => True)) (by (with_reducible repeat (first | apply Kd.R_alloc | apply Kd.R_drewN | apply Kd.R_drew)); exact Kd.R_mono HO132.out (fun _ hk => ⟨trivial, by first | exact hk | exact fun e_ => hk (e_.trans (ownB_len _ _ _ _ _))⟩)) hg hat)
            have n1_ := Aside0.mk (hb)
            have n2_ := Aside0.mk (ho)
            clear HO132
            clear HB
            clear HO135
            have HO132 := n0_
            have HB := n1_
            have HO139 := n2_
            clear n0_ n1_ n2_
            clear ho hb hg hat
            obtain ⟨Ao36, co36, eo36⟩ := Kd.R_slice HO132.out
            (first | subst eo36 | (injection eo36 with f1_ f2_ f3_; have f4_ := f1_.symm; have f5_ := f3_.symm; clear f1_ f2_ f3_; subst f4_; subst f5_))
            refine hK.out _ _ ⟨((HB.out.cell (World.block_lt_of_cell? w _ hw136_0)).trans hw136_0), ((HB.out.cell (World.block_lt_of_cell? w _ hw136_1)).trans hw136_1)⟩ (fun hHeld => ?_)
            clear hK K
            refine zN ?_
            refine zU 10 (some 51) rfl rfl (fun K hK => ?_)
            refine Kd.R_append_rows_step k43 (w0 := w) w.heap.size (by rfl) (.tmp 49) (.tmp 50) 24 43 (.agg #[(.int .i64 0), (.int .i64 0)]) 16 rfl Try.underlying24 info43 rfl (by decide) (by omega) v138 y137 y130 _ _ _ (fun k_ => some k_ ≠ (.slice Ao36 y130.length co36 : Value).ownBlock) (fun _ => False) rfl rfl ?aO ?aR (fun _ _ h => h) (fun _ h => h.elim) ?aF ?aB ?aS ?aL ?_
            (case aR => repeat (first | exact (Kd.R_reads' HO132.out).2.2 | (with_reducible refine Kd.C_alloc ?_ _) | (with_reducible refine Kd.C_drewN ?_ _) | (with_reducible refine Kd.C_drew ?_)))
            (case aB => exact zB)
            (case aF => exact (fun k_ hk => Kd.fresh' (Kd.R_lt (zR HO132.out)) k_ hk))
            (case aO => exact (zR HO139.out))
            (case aS => exact (below_size zB))
            (case aL => have := LMc25.out; omega)
            intro v141 w35 ho hb hg hat
            rw [← Ny140.out] at ho
            have n0_ := Aside0.mk (Kd.R_after (ok := (fun _ => True)) (zR HO132.out) hg hat)
            have n1_ := Aside0.mk (hb)
            have n2_ := Aside0.mk (ho)
            clear HO132
            clear HB
            clear HO139
            have HO132 := n0_
            have HB := n1_
            have HO142 := n2_
            clear n0_ n1_ n2_
            clear ho hb hg hat
            refine hK.out _ _ ⟨((HB.out.cell (World.block_lt_of_cell? w _ hw136_0)).trans hw136_0), ((HB.out.cell (World.block_lt_of_cell? w _ hw136_1)).trans hw136_1)⟩ (fun hHeld => ?_)
            clear hK K
            refine zN ?_
            refine zP 11 (some 3) rfl rfl ?_
            refine done_ (done_of HT_.out (by kernel_rfl)) ?_
            try go_wp2
            go_roundg k3
            case measure => have := HK1.out; have := HJ3.out; have := HK3.out; omega
            case rel => exact ⟨(y140), (wrap64 (x4_1 + 1)), zF, H', ⟨by have := HK1.out; have := HJ3.out; have := HK3.out; omega⟩, ⟨by (with_reducible repeat (first | apply Kd.R_alloc | apply Kd.R_drewN | apply Kd.R_drew)); exact Kd.R_mono HO142.out (fun _ hk => trivial)⟩, ⟨zB⟩⟩
           rw [if_neg c25] at H
           exact absurd H (by simp)
          rw [if_neg c24] at H
          exact absurd H (by simp)
         rw [if_neg c22] at H
         exact absurd H (by simp)
        rw [if_neg c21] at H
        exact absurd H (by simp)
       rw [if_neg c20] at H
       exact absurd H (by simp)
      rw [if_neg c15] at H
      exact absurd H (by simp)
     rw [if_neg c14] at H
     exact absurd H (by simp)
    rw [if_neg c12] at H
    exact absurd H (by simp)
   rw [if_neg c11] at H
   exact absurd H (by simp)
  rw [if_neg c10] at H
  have c10b0 : decide (0 < x5_3) = false := decide_eq_false c10
  clear c10
  obtain ⟨y143, hy143⟩ : ∃ y_ : List (S43), y_ = (([] : List (S43))) := ⟨_, rfl⟩
  replace H : (if 0 ≤ x5_3 then (if x5_3 ≤ (x3_1.length : Int) then ((some (x3_1.drop (x5_3 : Int).toNat : List (S43))).bind fun y146 => (if y143.length + y146.length < 8796093022208 then ((some (y143 ++ y146 : List (S43))).bind fun y150 => ((some (x3_1.take (x5_3 : Int).toNat : List (S43))).bind fun y153 => (if 0 ≤ x4_1 then (if x4_1 < (l0.length : Int) then (if y153.length < 8796093022208 then ((some (y153 ++ [(⟨(rd_T43 l0 x4_1).f0, (rd_T43 l0 x4_1).f1⟩ : S43)] : List (S43))).bind fun y157 => (if y157.length + y150.length < 8796093022208 then (spec_SortPoints.l0 k3 l0 (y157 ++ y150) (wrap64 (x4_1 + 1))) else (none))) else (none)) else (none)) else (none)))) else (none))) else (none)) else (none)) = some r := by first | (rw [hy143]; with_reducible exact H) | (have H2_ := (Option.bind_some _ _).symm.trans H; rw [hy143]; with_reducible exact H2_) | (have H2_ := (Option.bind_some _ _).symm.trans H; with_reducible exact H2_) | with_reducible exact H | (rw [hy143]; exact H) | exact H
  have Ny143 := Aside0.mk hy143
  clear hy143
  by_cases c37 : 0 ≤ x5_3
  ·rw [if_pos c37] at H
   have c37b0 := eq_true c37
   have c37b1 := decide_eq_true c37
   clear c37
   by_cases c38 : x5_3 ≤ (x3_1.length : Int)
   ·rw [if_pos c38] at H
    have c38b0 := eq_true c38
    have c38b1 := decide_eq_true c38
    clear c38
    obtain ⟨y146, hy146⟩ : ∃ y_ : List (S43), y_ = (x3_1.drop (x5_3 : Int).toNat) := ⟨_, rfl⟩
    replace H : (if y143.length + y146.length < 8796093022208 then ((some (y143 ++ y146 : List (S43))).bind fun y150 => ((some (x3_1.take (x5_3 : Int).toNat : List (S43))).bind fun y153 => (if 0 ≤ x4_1 then (if x4_1 < (l0.length : Int) then (if y153.length < 8796093022208 then ((some (y153 ++ [(⟨(rd_T43 l0 x4_1).f0, (rd_T43 l0 x4_1).f1⟩ : S43)] : List (S43))).bind fun y157 => (if y157.length + y150.length < 8796093022208 then (spec_SortPoints.l0 k3 l0 (y157 ++ y150) (wrap64 (x4_1 + 1))) else (none))) else (none)) else (none)) else (none)))) else (none)) = some r := by first | (rw [hy146]; with_reducible exact H) | (have H2_ := (Option.bind_some _ _).symm.trans H; rw [hy146]; with_reducible exact H2_) | (have H2_ := (Option.bind_some _ _).symm.trans H; with_reducible exact H2_) | with_reducible exact H | (rw [hy146]; exact H) | exact H
    have Ny146 := Aside0.mk hy146
    clear hy146
    by_cases c39 : y143.length + y146.length < 8796093022208
    ·rw [if_pos c39] at H
     have LMc39 := Aside0.mk c39
     clear c39
     obtain ⟨y150, hy150⟩ : ∃ y_ : List (S43), y_ = (y143 ++ y146) := ⟨_, rfl⟩
     replace H : ((some (x3_1.take (x5_3 : Int).toNat : List (S43))).bind fun y153 => (if 0 ≤ x4_1 then (if x4_1 < (l0.length : Int) then (if y153.length < 8796093022208 then ((some (y153 ++ [(⟨(rd_T43 l0 x4_1).f0, (rd_T43 l0 x4_1).f1⟩ : S43)] : List (S43))).bind fun y157 => (if y157.length + y150.length < 8796093022208 then (spec_SortPoints.l0 k3 l0 (y157 ++ y150) (wrap64 (x4_1 + 1))) else (none))) else (none)) else (none)) else (none))) = some r := by first | (rw [hy150]; with_reducible exact H) | (have H2_ := (Option.bind_some _ _).symm.trans H; rw [hy150]; with_reducible exact H2_) | (have H2_ := (Option.bind_some _ _).symm.trans H; with_reducible exact H2_) | with_reducible exact H | (rw [hy150]; exact H) | exact H
     have Ny150 := Aside0.mk hy150
     clear hy150
     have c40b0 := eq_true (zA : x5_3 ≤ (x3_1.length : Int))
     obtain ⟨y153, hy153⟩ : ∃ y_ : List (S43), y_ = (x3_1.take (x5_3 : Int).toNat) := ⟨_, rfl⟩
     replace H : (if 0 ≤ x4_1 then (if x4_1 < (l0.length : Int) then (if y153.length < 8796093022208 then ((some (y153 ++ [(⟨(rd_T43 l0 x4_1).f0, (rd_T43 l0 x4_1).f1⟩ : S43)] : List (S43))).bind fun y157 => (if y157.length + y150.length < 8796093022208 then (spec_SortPoints.l0 k3 l0 (y157 ++ y150) (wrap64 (x4_1 + 1))) else (none))) else (none)) else (none)) else (none)) = some r := by first | (rw [hy153]; with_reducible exact H) | (have H2_ := (Option.bind_some _ _).symm.trans H; rw [hy153]; with_reducible exact H2_) | (have H2_ := (Option.bind_some _ _).symm.trans H; with_reducible exact H2_) | with_reducible exact H | (rw [hy153]; exact H) | exact H
     have Ny153 := Aside0.mk hy153
     clear hy153
     by_cases c41 : 0 ≤ x4_1
     ·rw [if_pos c41] at H
      have c41b0 := decide_eq_true c41
      clear c41
      by_cases c42 : x4_1 < (l0.length : Int)
      ·rw [if_pos c42] at H
       have c42b0 := decide_eq_true c42
       clear c42
       by_cases c43 : y153.length < 8796093022208
       ·rw [if_pos c43] at H
        have LMc43 := Aside0.mk c43
        clear c43
        obtain ⟨y157, hy157⟩ : ∃ y_ : List (S43), y_ = (y153 ++ [(⟨(rd_T43 l0 x4_1).f0, (rd_T43 l0 x4_1).f1⟩ : S43)]) := ⟨_, rfl⟩
        replace H : (if y157.length + y150.length < 8796093022208 then (spec_SortPoints.l0 k3 l0 (y157 ++ y150) (wrap64 (x4_1 + 1))) else (none)) = some r := by first | (rw [hy157]; with_reducible exact H) | (have H2_ := (Option.bind_some _ _).symm.trans H; rw [hy157]; with_reducible exact H2_) | (have H2_ := (Option.bind_some _ _).symm.trans H; with_reducible exact H2_) | with_reducible exact H | (rw [hy157]; exact H) | exact H
        have Ny157 := Aside0.mk hy157
        clear hy157
        by_cases c44 : y157.length + y150.length < 8796093022208
        ·rw [if_pos c44] at H
         have LMc44 := Aside0.mk c44
         clear c44
         obtain ⟨y160, hy160⟩ : ∃ y_ : List (S43), y_ = (y157 ++ y150) := ⟨_, rfl⟩
         replace H : (spec_SortPoints.l0 k3 l0 y160 (wrap64 (x4_1 + 1))) = some r := by first | (rw [hy160]; with_reducible exact H) | (have H2_ := (Option.bind_some _ _).symm.trans H; rw [hy160]; with_reducible exact H2_) | (have H2_ := (Option.bind_some _ _).symm.trans H; with_reducible exact H2_) | with_reducible exact H | (rw [hy160]; exact H) | exact H
         have Ny160 := Aside0.mk hy160
         clear hy160
         have H' := Aside0.mk H; clear H
         try go_wp2
         replace HO_3 := Aside0.mk (Kd.R_drew HO_3.out)
         replace HB := Aside0.mk (below_drew1 HB.out)
         refine start_ (n := 14) (S := fun w' => True) (ds := []) #[false, false, false, false, false, false, false, false, false, false, false, false, false, false] (by kernel_rfl) rfl rfl trivial (fun hHeld => ?_); refine with_tabW spec_SortPoints.tab6 spec_SortPoints.bits6 (fun HT_ HW_ => ?_)
         generalize wr.drew = w45 at HO_3 HB hHeld ⊢
         refine zP 0 (some 20) rfl rfl ?_
         refine zP 1 (some 21) rfl rfl ?_
         refine zP 2 (some 22) rfl rfl ?_
         refine pure_ (i := 3) (N := some 23) (v := undef) (a' := ?_) #[true, true, true, true, false, false, false, false, false, false, false, false, false, false] rfl rfl (any_of HT_.out (by kernel_rfl)) (fun _ _ _ h => h) (Or.inr ⟨by rfl, rfl⟩) ?_ ?_
         rotate_left
         ·simp only [Act.put, List.setIfInBounds_toArray, List.set_cons_zero, List.set_cons_succ, i64_w, i32_w]
          rfl
         refine pure_ (i := 4) (N := some 24) (v := undef) (a' := ?_) #[true, true, true, true, true, false, false, false, false, false, false, false, false, false] rfl rfl (any_of HT_.out (by kernel_rfl)) (fun _ _ _ h => h) (Or.inr ⟨by rfl, rfl⟩) ?_ ?_
         rotate_left
         ·simp only [Act.put, List.setIfInBounds_toArray, List.set_cons_zero, List.set_cons_succ, i64_w, i32_w]
          rfl
         refine pure_ (i := 5) (N := some 25) (v := undef) (a' := ?_) #[true, true, true, true, true, true, false, false, false, false, false, false, false, false] rfl rfl (any_of HT_.out (by kernel_rfl)) (fun _ _ _ h => h) (Or.inr ⟨by rfl, rfl⟩) ?_ ?_
         rotate_left
         ·simp only [Act.put, List.setIfInBounds_toArray, List.set_cons_zero, List.set_cons_succ, i64_w, i32_w]
          rfl
         refine pure_ (i := 6) (N := some 26) (v := undef) (a' := ?_) #[true, true, true, true, true, true, true, false, false, false, false, false, false, false] rfl rfl (any_of HT_.out (by kernel_rfl)) (fun _ _ _ h => h) (Or.inr ⟨by rfl, rfl⟩) ?_ ?_
         rotate_left
         ·simp only [Act.put, List.setIfInBounds_toArray, List.set_cons_zero, List.set_cons_succ, i64_w, i32_w]
          rfl
         refine pure_ (i := 7) (N := some 27) (v := undef) (a' := ?_) #[true, true, true, true, true, true, true, true, false, false, false, false, false, false] rfl rfl (any_of HT_.out (by kernel_rfl)) (fun _ _ _ h => h) (Or.inr ⟨by rfl, rfl⟩) ?_ ?_
         rotate_left
         ·simp only [Act.put, List.setIfInBounds_toArray, List.set_cons_zero, List.set_cons_succ, i64_w, i32_w]
          rfl
         refine pure_ (i := 8) (N := some 28) (v := undef) (a' := ?_) #[true, true, true, true, true, true, true, true, true, false, false, false, false, false] rfl rfl (any_of HT_.out (by kernel_rfl)) (fun _ _ _ h => h) (Or.inr ⟨by rfl, rfl⟩) ?_ ?_
         rotate_left
         ·simp only [Act.put, List.setIfInBounds_toArray, List.set_cons_zero, List.set_cons_succ, i64_w, i32_w]
          rfl
         refine pure_ (i := 9) (N := some 29) (v := undef) (a' := ?_) #[true, true, true, true, true, true, true, true, true, true, false, false, false, false] rfl rfl (any_of HT_.out (by kernel_rfl)) (fun _ _ _ h => h) (Or.inr ⟨by rfl, rfl⟩) ?_ ?_
         rotate_left
         ·simp only [Act.put, List.setIfInBounds_toArray, List.set_cons_zero, List.set_cons_succ, i64_w, i32_w]
          rfl
         refine pure_ (i := 10) (N := some 30) (v := undef) (a' := ?_) #[true, true, true, true, true, true, true, true, true, true, true, false, false, false] rfl rfl (any_of HT_.out (by kernel_rfl)) (fun _ _ _ h => h) (Or.inr ⟨by rfl, rfl⟩) ?_ ?_
         rotate_left
         ·simp only [Act.put, List.setIfInBounds_toArray, List.set_cons_zero, List.set_cons_succ, i64_w, i32_w]
          rfl
         refine pure_ (i := 11) (N := some 31) (v := undef) (a' := ?_) #[true, true, true, true, true, true, true, true, true, true, true, true, false, false] rfl rfl (any_of HT_.out (by kernel_rfl)) (fun _ _ _ h => h) (Or.inr ⟨by rfl, rfl⟩) ?_ ?_
         rotate_left
         ·simp only [Act.put, List.setIfInBounds_toArray, List.set_cons_zero, List.set_cons_succ, i64_w, i32_w]
          rfl
         refine pure_ (i := 12) (N := some 32) (v := undef) (a' := ?_) #[true, true, true, true, true, true, true, true, true, true, true, true, true, false] rfl rfl (any_of HT_.out (by kernel_rfl)) (fun _ _ _ h => h) (Or.inr ⟨by rfl, rfl⟩) ?_ ?_
         rotate_left
         ·simp only [Act.put, List.setIfInBounds_toArray, List.set_cons_zero, List.set_cons_succ, i64_w, i32_w]
          rfl
         refine zP 13 (some 33) rfl rfl ?_
         refine done_ (done_of HT_.out (by kernel_rfl)) ?_
         try go_wp2_with (first | ((with_reducible refine gate_dst (N := 36) rfl ?_); refine Kd.R_lit k43 _ 43 ?hg (N := 36) ?hd (xs := ([] : List (S43))) (inner := []) (ok := fun _ => True) (okp := fun _ => True) ?hr ?hp (fun _ hk => hk) trivial (Below.refl _ _) (Nat.le_refl _) (by simp) ?_; (case hd => rfl); (case hg => rfl); (case hr => first | (go_simp; done) | (go_simp; rfl)); (case hp => exact (Reps.none _ _)); intro v144 w46 ho47 hb hg_ hnew_; clear hg_ hnew_; (first | rw [← Ny143.out] at ho47 | (simp only [Int.reduceToNat] at ho47; rw [← Ny143.out] at ho47)); have HO145 := Aside0.mk (Kd.R_lower (Kd.R_new' ho47 (Kd.R_lt (zR HO_3.out))) (below_size zB)); replace HO_3 := Aside0.mk (Kd.R_elder' (zR HO_3.out) (Kd.R_base ho47) hb); replace HB := zX hb; clear hb ho47; have q48 : (x5_3 : Int) ≤ ((x3_1.length : Int) : Int) := zA; obtain ⟨i048, hi048, _, hsz48, _⟩ := info_parts info43; have hroom48 : x3_1.length ≤ co9 := (Kd.R_reads' HO_3.out).2.1; have hC48 : Kd.C k43 _ Ao9 x3_1.length x3_1 := (Kd.R_reads' HO_3.out).2.2; have q048 : (0 : Int) ≤ (x5_3 : Int) := zA; have hcut48 := cut_from (P := Try.prog) 24 43 .i64 Try.underlying24 hi048 2 hsz48 Ao9 x3_1.length co9 x5_3 q048 q48; have hr48 := Kd.C_drop (m := (x5_3 : Int).toNat) (c := co9) hC48 (by omega) hroom48; obtain ⟨A48, hA48⟩ : ∃ A1, A1 = (if co9 = (x5_3 : Int).toNat then Ao9 else (Ao9 : Option Addr).map (·.add ((x5_3 : Int).toNat * 2))) := ⟨_, rfl⟩; obtain ⟨c48, hc48⟩ : ∃ c1, c1 = co9 - (x5_3 : Int).toNat := ⟨_, rfl⟩; have hy48 : y146.length = x3_1.length - (x5_3 : Int).toNat := (by rw [Ny146.out, List.length_drop] <;> omega); rw [show (x3_1).drop (x5_3 : Int).toNat = y146 from Ny146.out.symm] at hr48; replace hr48 : Kd.C k43 _ A48 y146.length y146 := (by rw [hA48]; exact hr48); rw [← hy48, ← hA48, ← hc48] at hcut48; have HR149 := Aside0.mk hr48; have HC149 := Aside0.mk (show y146.length ≤ c48 from by rw [hy48, hc48]; exact Nat.sub_le_sub_right hroom48 _); clear hr48 hC48 hroom48 hi048 hsz48 hc48; have KY48 := Aside0.mk hy48; have KA48 := Aside0.mk hA48; clear hy48 hA48; have KL48 := Aside0.mk (show (x5_3 : Int).toNat ≤ x3_1.length from by omega); replace q48 := eq_true q48) | ((with_reducible refine gate_builtin (b := .append) (xs := #[.tmp 36, .tmp 39]) rfl ?_); at_builtin; refine Kd.R_append_rows k43 (w0 := w) w.heap.size rfl (.tmp 36) (.tmp 39) 24 43 (.agg #[(.int .i64 0), (.int .i64 0)]) 16 rfl Try.underlying24 info43 rfl (by decide) (by omega) v144 y143 y146 _ _ _ (fun k_ => some k_ ≠ (.slice Ao9 x3_1.length co9 : Value).ownBlock) (fun _ => False) rfl rfl ?aO ?aR (fun _ _ h => h) (fun _ h => h.elim) ?aF ?aB ?aS ?aL ?_; (case aR => repeat (first | exact (by repeat (first | (with_reducible exact HR149.out) | (with_reducible refine Kd.C_alloc ?_ _) | (with_reducible refine Kd.C_drewN ?_ _) | (with_reducible refine Kd.C_drew ?_) | exact HR149.out)) | (with_reducible refine Kd.C_alloc ?_ _) | (with_reducible refine Kd.C_drewN ?_ _) | (with_reducible refine Kd.C_drew ?_))); (case aB => exact zB); (case aF => exact (fun k_ hk => Kd.fresh' (Kd.R_lt (zR HO_3.out)) k_ hk)); (case aO => exact (by (with_reducible repeat (first | apply Kd.R_alloc | apply Kd.R_drewN | apply Kd.R_drew)); exact Kd.R_mono HO145.out (fun _ hk => hk.2))); (case aS => exact (below_size zB)); (case aL => have := LMc39.out; omega); intro v151 w49 ho hb hg hat; rw [← Ny150.out] at ho; have n0_ := Aside0.mk (Kd.R_after (ok := (fun _ => True)) (zR HO_3.out) hg hat); have n1_ := Aside0.mk (hb); have n2_ := Aside0.mk ((show Kd.C k43 w49 A48 y146.length y146 from by rw [Ny146.out, KA48.out]; exact Kd.C_drop (m := (x5_3 : Int).toNat) (c := co9) ((Kd.R_reads' (Kd.R_after (ok := (fun _ => True)) (zR HO_3.out) hg hat)).2.2) KL48.out ((Kd.R_reads' (Kd.R_after (ok := (fun _ => True)) (zR HO_3.out) hg hat)).2.1))); have n3_ := Aside0.mk (ho); clear HO_3; clear HB; clear HR149; clear HO145; have HO_3 := n0_; have HB := n1_; have HR149 := n2_; have HO152 := n3_; clear n0_ n1_ n2_ n3_; clear ho hb hg hat))
         replace HO_3 := Aside0.mk (Kd.R_drew HO_3.out)
         replace HO152 := Aside0.mk (Kd.R_drew HO152.out)
         replace HR149 := Aside0.mk (Kd.C_drew HR149.out)
         replace HB := Aside0.mk (below_drew1 HB.out)
         have q51 : (x5_3 : Int) ≤ ((x3_1.length : Int) : Int) := zA
         obtain ⟨i051, hi051, _, hsz51, _⟩ := info_parts info43
         have hcut51 := cut_to (P := Try.prog) 24 43 .i64 Try.underlying24 hi051 Ao9 x3_1.length co9 x5_3 (zA) q51 (Kd.R_reads' HO_3.out).2.1
         have hr51 := Kd.R_take (m := (x5_3 : Int).toNat) HO_3.out (by omega)
         have hy51 : y153.length = (x5_3 : Int).toNat := (by rw [Ny153.out, List.length_take]; omega)
         rw [← Ny153.out] at hr51
         rw [← hy51] at hr51 hcut51
         clear hy51 hi051 hsz51 HO_3
         have HO155 := Aside0.mk hr51
         clear hr51
         replace q51 := eq_true q51
         have p156 : 0 ≤ (x4_1 : Int) := zA
         have q156 : x4_1 < (l0.length : Int) := zA
         obtain ⟨ad156, e156, hx156_0, hx156_1⟩ := at_T43 HR0.out x4_1 p156 q156
         have hw156_1 := hx156_1
         have hw156_0 := hx156_0
         cases e156
         replace hx156_0 := (HB.out.cell (World.block_lt_of_cell? w _ hx156_0)).trans hx156_0
         replace hx156_1 := (HB.out.cell (World.block_lt_of_cell? w _ hx156_1)).trans hx156_1
         replace p156 := eq_true p156
         replace q156 := eq_true q156
         refine start_ (n := 12) (S := fun w' => w'.cell? (ad156.add ((x4_1).toNat * 2)) = some (.int .i64 ((rd_T43 l0 x4_1).f0)) ∧ w'.cell? ⟨(ad156.add ((x4_1).toNat * 2)).block, (ad156.add ((x4_1).toNat * 2)).off + 1, none⟩ = some (.int .i64 ((rd_T43 l0 x4_1).f1))) (ds := []) #[false, false, false, false, false, false, false, false, false, false, false, false] (by kernel_rfl) rfl rfl ⟨((HB.out.cell (World.block_lt_of_cell? w _ hw156_0)).trans hw156_0), ((HB.out.cell (World.block_lt_of_cell? w _ hw156_1)).trans hw156_1)⟩ (fun hHeld => ?_); refine with_tabW spec_SortPoints.tab9 spec_SortPoints.bits9 (fun HT_ HW_ => ?_)
         generalize w49.drew = w50 at HO_3 HO152 HR149 HB HO155 hx156_0 hx156_1 hHeld ⊢
         refine zP 0 (some 41) rfl rfl ?_
         refine zP 1 (some 42) rfl rfl ?_
         refine zP 2 (some 43) rfl rfl ?_
         refine zP 3 (some 44) rfl rfl ?_
         refine zP 4 (some 45) rfl rfl ?_
         refine zP 5 (some 46) rfl rfl ?_
         refine zP 9 (some 50) rfl rfl ?_
         refine zY2 6 (some 47) rfl rfl hHeld ?_
         refine zU 7 (some 48) rfl rfl (fun K hK => ?_)
         refine value_ (w1 := ?_) (v := ?_) (by rfl) rfl ?_ ?_
         rotate_left 2
         ·go_simp
          constructor
          ·rfl
          rfl
         refine hK.out _ _ ⟨(World.cell?_alloc_lt _ _ _ (World.block_lt_of_cell? _ _ (((HB.out.cell (World.block_lt_of_cell? w _ hw156_0)).trans hw156_0)))).trans (((HB.out.cell (World.block_lt_of_cell? w _ hw156_0)).trans hw156_0)), (World.cell?_alloc_lt _ _ _ (World.block_lt_of_cell? _ _ (((HB.out.cell (World.block_lt_of_cell? w _ hw156_1)).trans hw156_1)))).trans (((HB.out.cell (World.block_lt_of_cell? w _ hw156_1)).trans hw156_1))⟩ (fun hHeld => ?_)
         clear hK K
         refine zN ?_
         refine zU 8 (some 49) rfl rfl (fun K hK => ?_)
         refine Kd.R_append_step k43 (w0 := w) w.heap.size (by rfl) (.tmp 43) (.tmp 48) 24 43 (.agg #[(.int .i64 0), (.int .i64 0)]) 16 rfl Try.underlying24 info43 rfl (by decide) (by omega) (.slice Ao9 y153.length co9) y153 (⟨(rd_T43 l0 x4_1).f0, (rd_T43 l0 x4_1).f1⟩ : S43) [.int .i64 ((rd_T43 l0 x4_1).f0), .int .i64 ((rd_T43 l0 x4_1).f1)] (fun k_ => some k_ ≠ (v151 : Value).ownBlock) (fun _ => False) rfl rfl ?aP (fun _ hk => hk.elim) ?aF ?aO ?aB ?aS ?aL ?_
         (case aP => exact k43_mkM _ _ _ (⟨(rd_T43 l0 x4_1).f0, (rd_T43 l0 x4_1).f1⟩ : S43))
         (case aB => exact zB)
         (case aF => exact (fun k_ hk => Kd.fresh' (Kd.R_lt (zR HO152.out)) k_ hk))
         (case aO => exact (by (with_reducible repeat (first | apply Kd.R_alloc | apply Kd.R_drewN | apply Kd.R_drew)); exact Kd.R_mono HO155.out (fun _ hk => hk.2)))
         (case aS => exact (below_size zB))
         (case aL => have := LMc43.out; omega)
         intro v158 w52 ho hb hg hat
         rw [← Ny157.out] at ho
         have n0_ := Aside0.mk (Kd.R_after (ok := (fun _ => True)) (by (with_reducible repeat (first | apply Kd.R_alloc | apply Kd.R_drewN | apply Kd.R_drew)); exact Kd.R_mono HO152.out (fun _ hk => ⟨trivial, by first | exact hk | exact fun e_ => hk (e_.trans (ownB_len _ _ _ _ _))⟩)) hg hat)
         have n1_ := Aside0.mk (hb)
         have n2_ := Aside0.mk (ho)
         clear HO152
         clear HB
         clear HO155
         have HO152 := n0_
         have HB := n1_
         have HO159 := n2_
         clear n0_ n1_ n2_
         clear ho hb hg hat
         obtain ⟨Ao54, co54, eo54⟩ := Kd.R_slice HO152.out
         (first | subst eo54 | (injection eo54 with f1_ f2_ f3_; have f4_ := f1_.symm; have f5_ := f3_.symm; clear f1_ f2_ f3_; subst f4_; subst f5_))
         refine hK.out _ _ ⟨((HB.out.cell (World.block_lt_of_cell? w _ hw156_0)).trans hw156_0), ((HB.out.cell (World.block_lt_of_cell? w _ hw156_1)).trans hw156_1)⟩ (fun hHeld => ?_)
         clear hK K
         refine zN ?_
         refine zU 10 (some 51) rfl rfl (fun K hK => ?_)
         refine Kd.R_append_rows_step k43 (w0 := w) w.heap.size (by rfl) (.tmp 49) (.tmp 50) 24 43 (.agg #[(.int .i64 0), (.int .i64 0)]) 16 rfl Try.underlying24 info43 rfl (by decide) (by omega) v158 y157 y150 _ _ _ (fun k_ => some k_ ≠ (.slice Ao54 y150.length co54 : Value).ownBlock) (fun _ => False) rfl rfl ?aO ?aR (fun _ _ h => h) (fun _ h => h.elim) ?aF ?aB ?aS ?aL ?_
         (case aR => repeat (first | exact (Kd.R_reads' HO152.out).2.2 | (with_reducible refine Kd.C_alloc ?_ _) | (with_reducible refine Kd.C_drewN ?_ _) | (with_reducible refine Kd.C_drew ?_)))
         (case aB => exact zB)
         (case aF => exact (fun k_ hk => Kd.fresh' (Kd.R_lt (zR HO152.out)) k_ hk))
         (case aO => exact (zR HO159.out))
         (case aS => exact (below_size zB))
         (case aL => have := LMc44.out; omega)
         intro v161 w53 ho hb hg hat
         rw [← Ny160.out] at ho
         have n0_ := Aside0.mk (Kd.R_after (ok := (fun _ => True)) (zR HO152.out) hg hat)
         have n1_ := Aside0.mk (hb)
         have n2_ := Aside0.mk (ho)
         clear HO152
         clear HB
         clear HO159
         have HO152 := n0_
         have HB := n1_
         have HO162 := n2_
         clear n0_ n1_ n2_
         clear ho hb hg hat
         refine hK.out _ _ ⟨((HB.out.cell (World.block_lt_of_cell? w _ hw156_0)).trans hw156_0), ((HB.out.cell (World.block_lt_of_cell? w _ hw156_1)).trans hw156_1)⟩ (fun hHeld => ?_)
         clear hK K
         refine zN ?_
         refine zP 11 (some 3) rfl rfl ?_
         refine done_ (done_of HT_.out (by kernel_rfl)) ?_
         try go_wp2
         go_roundg k3
         case measure => have := HK1.out; have := HJ3.out; have := HK3.out; omega
         case rel => exact ⟨(y160), (wrap64 (x4_1 + 1)), zF, H', ⟨by have := HK1.out; have := HJ3.out; have := HK3.out; omega⟩, ⟨by (with_reducible repeat (first | apply Kd.R_alloc | apply Kd.R_drewN | apply Kd.R_drew)); exact Kd.R_mono HO162.out (fun _ hk => trivial)⟩, ⟨zB⟩⟩
        rw [if_neg c44] at H
        exact absurd H (by simp)
       rw [if_neg c43] at H
       exact absurd H (by simp)
      rw [if_neg c42] at H
      exact absurd H (by simp)
     rw [if_neg c41] at H
     exact absurd H (by simp)
    rw [if_neg c39] at H
    exact absurd H (by simp)
   rw [if_neg c38] at H
   exact absurd H (by simp)
  rw [if_neg c37] at H
  exact absurd H (by simp)
 replace c8 := Bool.eq_false_iff.mpr c8
 subst c8
 replace H := (if_neg zFf).symm.trans H
 obtain rfl := Option.some.inj H
 go_wp2
 go_ret
 exact ⟨_, zE, zR HO_3.out, zB⟩
/-! ### laws_toPoint: function 24 -/
def laws_toPoint.f (a0_0 : Int) (a0_1 : Int) : Option (Int × Int) := some (a0_0, a0_1)
set_option maxHeartbeats 8000000 in
set_option maxRecDepth 100000 in
theorem laws_toPoint.calls (a0_0 : Int) (a0_1 : Int) (r1 : Int) (r2 : Int) (w : World) (h : laws_toPoint.f a0_0 a0_1 = some (r1, r2)) :
  Calls Try.prog 24 #[.agg #[.int .i64 a0_0, .int .i64 a0_1]] w fun e w' => e = .returned (.agg #[.int .i64 r1, .int .i64 r2]) ∧ Below w.heap.size w w' := by
 have hu45 := Try.underlying45
 have hu43 := Try.underlying43
 have HB := Aside0.mk (Below.refl w.heap.size w)
 have H : (some (a0_0, a0_1)) = some (r1, r2) := h
 clear h
 simp only [Option.some.injEq, Prod.mk.injEq] at H
 obtain ⟨rfl, rfl⟩ := H
 go_enter Try.func24, Try.ntmps24
 go_wp2_with (first | ((with_reducible refine gate_dst (N := 1) rfl ?_); refine zBx (N := 1) #[.int .i64 a0_0, .int .i64 a0_1] 45 ?_; intro gb163 hg w2 hbox hb; have BK163 := Aside0.mk (hbox); have GW163 := zS hg; have GE163 := zS hg; replace HB := zX hb; clear hb hbox hg) | ((with_reducible refine gate_dst (N := 2) rfl ?_); refine zBx (N := 2) #[.int .i64 0, .int .i64 0] 43 ?_; intro gb164 hg w3 hbox hb; have BK164 := Aside0.mk (hbox); have GW164 := zSg hg (zG GE163.out); have GE164 := zSg hg (zG GE163.out); have NB163_164 := zL hg BK163.out; have NB164_163 := zLg hg BK163.out; replace BK163 := zV BK163.out hb; replace HB := zX1 GE163.out hb; clear hb hbox hg) | ((with_reducible refine gate_dst (N := 3) rfl ?_); refine zBx (N := 3) #[.int .i64 0, .int .i64 0] 43 ?_; intro gb165 hg w4 hbox hb; have BK165 := Aside0.mk (hbox); have GW165 := zSg hg (zG2 GE163.out GE164.out); have GE165 := zSg hg (zG2 GE163.out GE164.out); have NB163_165 := zL hg BK163.out; have NB165_163 := zLg hg BK163.out; replace BK163 := zV BK163.out hb; have NB164_165 := zL hg BK164.out; have NB165_164 := zLg hg BK164.out; replace BK164 := zV BK164.out hb; replace HB := Aside0.mk (below_step (zG2 GE163.out GE164.out) hb); clear hb hbox hg; have hnb5 := NB163_164.out; have hnc5 := NB164_163.out; have hnb6 := NB163_165.out; have hnc6 := NB165_163.out; obtain ⟨hcz7_0, hcz7_1, hfz7_0, hfz7_1⟩ := zq2 BK163.out; have hnb8 := NB165_164.out; have hnc8 := NB164_165.out; obtain ⟨hcz9_0, hcz9_1, hfz9_0, hfz9_1⟩ := zq2 BK165.out; obtain ⟨hcz10_0, hcz10_1, hfz10_0, hfz10_1⟩ := zq2 BK164.out))
 refine bodyPost_ret (results_cell_row rfl _ _ gb164 43 #[.int .i64 a0_0, .int .i64 a0_1] (0, 0) _ rfl (zk2 BK164.out NB164_165.out NB164_165.out) Try.underlying43 rfl (by kernel_rfl)) rfl ?_
 exact ⟨zE, zG3 GE163.out GE164.out GE165.out⟩
/-! ### laws_toPointS: function 8 -/
def laws_toPointS.l0 : Nat → List (S45) → List (S43) → Int → Option ((List (S43)))
 | 0, _, _, _ => none
 | k + 1, x0, x3, x4 => if x4 < (x0.length : Int) then (if 0 ≤ x4 then ((laws_toPoint.f ((rd_T45 x0 x4).f0) ((rd_T45 x0 x4).f1)).bind fun bt170 => (if x4 < (x3.length : Int) then (laws_toPointS.l0 k x0 (x3.set (x4 : Int).toNat (⟨bt170.1, bt170.2⟩ : S43)) (wrap64 (x4 + 1))) else (none))) else (none)) else (some x3)
def laws_toPointS.f (k : Nat) (l0 : List (S45)) : Option ((List (S43))) := if 0 ≤ (l0.length : Int) then (if ((l0.length : Int) : Int).toNat ≤ 17592186044416 then (laws_toPointS.l0 k l0 (List.replicate ((l0.length : Int) : Int).toNat z43) 0) else (none)) else (none)
set_option maxHeartbeats 8000000 in
set_option maxRecDepth 100000 in
theorem laws_toPointS.calls (k : Nat) (A0 : Option Addr) (c0 : Nat) (l0 : List (S45)) (r : List (S43)) (w : World) (hr0 : Kd.C k45 w A0 l0.length l0) (hc0 : l0.length ≤ c0) (h : laws_toPointS.f k l0 = some r) :
  Calls Try.prog 8 #[.slice A0 l0.length c0] w fun e w' => ∃ v0_ : Value, e = .returned (v0_) ∧ Kd.R k43 43 w' w.heap.size (fun _ => True) v0_ r ∧ Below w.heap.size w w' := by
 have hu45 := Try.underlying45
 have hu43 := Try.underlying43
 have HR0 := Aside0.mk hr0
 have HC0 := Aside0.mk hc0
 clear hr0 hc0
 have HB := Aside0.mk (Below.refl w.heap.size w)
 have H : (if 0 ≤ (l0.length : Int) then (if ((l0.length : Int) : Int).toNat ≤ 17592186044416 then (laws_toPointS.l0 k l0 (List.replicate ((l0.length : Int) : Int).toNat z43) 0) else (none)) else (none)) = some r := h
 clear h
 by_cases c2 : 0 ≤ (l0.length : Int)
 ·rw [if_pos c2] at H
  have c2b0 := eq_true c2
  have c2b1 := decide_eq_true c2
  clear c2
  by_cases c3 : ((l0.length : Int) : Int).toNat ≤ 17592186044416
  ·rw [if_pos c3] at H
   have c3b0 := eq_true c3
   have c3b1 := decide_eq_true c3
   clear c3
   obtain ⟨y166, hy166⟩ : ∃ y_ : List (S43), y_ = (List.replicate ((l0.length : Int) : Int).toNat z43) := ⟨_, rfl⟩
   replace H : (laws_toPointS.l0 k l0 y166 0) = some r := by first | (rw [hy166]; with_reducible exact H) | (have H2_ := (Option.bind_some _ _).symm.trans H; rw [hy166]; with_reducible exact H2_) | (have H2_ := (Option.bind_some _ _).symm.trans H; with_reducible exact H2_) | with_reducible exact H | (rw [hy166]; exact H) | exact H
   have Ny166 := Aside0.mk hy166
   clear hy166
   have H' := Aside0.mk H; clear H
   go_enter Try.func8, Try.ntmps8
   go_wp2_with (first | ((with_reducible refine gate_dst (N := 7) rfl ?_); refine Kd.R_make k43 _ 43 rfl (N := 7) rfl 24 _ _ rfl (l0.length : Int) rfl rfl Try.underlying24 (.agg #[(.int .i64 0), (.int .i64 0)]) 16 info43 rfl (by decide) (by omega) z43 (ok := fun _ => True) (okp := fun _ => True) (k43_mkM _ _ _ z43 ) (fun _ hk => hk) trivial (zA) (Nat.le_trans (Nat.mul_le_mul_right _ (zA : (l0.length : Int).toNat ≤ 17592186044416)) (by omega)) (Below.refl _ _) (Nat.le_refl _) ?_; intro v167 w4 ho5 hb hg_ hnew_; clear hg_ hnew_; (first | rw [← Ny166.out] at ho5 | (simp only [Int.reduceToNat] at ho5; rw [← Ny166.out] at ho5)); have HO168 := Aside0.mk (Kd.R_lower ho5 (below_size zB)); replace HB := zX hb; clear hb ho5))
   go_loopg [4] k (fun kq v4 w' => ∃ (x3_1 : List (S43)) (x4_1 : Int), v4 = .int .i64 x4_1 ∧ Aside0 (laws_toPointS.l0 kq l0 x3_1 x4_1 = some r) ∧ Aside0 (kq ≤ k) ∧ Aside0 (Kd.R k43 43 w' w.heap.size (fun _ => True) v167 x3_1) ∧ Aside0 (Below w.heap.size w w'))
   case atStart => exact ⟨(y166), (0), zF, H', ⟨Nat.le_refl _⟩, ⟨zR HO168.out⟩, ⟨zB⟩⟩
   case round =>
   clear H'
   try clear c2
   try clear c2b0
   try clear c2b1
   try clear c3
   try clear c3b0
   try clear c3b1
   obtain ⟨x3_1, x4_1, rfl, HA, HK1, HO_3, HB⟩ := hrel
   cases gk with
   | zero => exact absurd HA.out (by simp [laws_toPointS.l0])
   | succ k1 =>
   have H := HA.out
   clear HA
   simp only [laws_toPointS.l0] at H
   by_cases c6 : x4_1 < (l0.length : Int)
   ·rw [if_pos c6] at H
    have c6b0 := decide_eq_true c6
    clear c6
    by_cases c7 : 0 ≤ x4_1
    ·rw [if_pos c7] at H
     have c7b0 := decide_eq_true c7
     clear c7
     obtain ⟨⟨t170, t171⟩, A8, H⟩ := zO H
     dsimp only at H
     by_cases c9 : x4_1 < (x3_1.length : Int)
     ·rw [if_pos c9] at H
      have c9b0 := decide_eq_true c9
      clear c9
      obtain ⟨y172, hy172⟩ : ∃ y_ : List (S43), y_ = (x3_1.set (x4_1 : Int).toNat (⟨t170, t171⟩ : S43)) := ⟨_, rfl⟩
      replace H : (laws_toPointS.l0 k1 l0 y172 (wrap64 (x4_1 + 1))) = some r := by first | (rw [hy172]; with_reducible exact H) | (have H2_ := (Option.bind_some _ _).symm.trans H; rw [hy172]; with_reducible exact H2_) | (have H2_ := (Option.bind_some _ _).symm.trans H; with_reducible exact H2_) | with_reducible exact H | (rw [hy172]; exact H) | exact H
      have Ny172 := Aside0.mk hy172
      clear hy172
      have H' := Aside0.mk H; clear H
      have p169 : 0 ≤ (x4_1 : Int) := zA
      have q169 : x4_1 < (l0.length : Int) := zA
      obtain ⟨ad169, e169, hx169_0, hx169_1⟩ := at_T45 HR0.out x4_1 p169 q169
      cases e169
      replace hx169_0 := (HB.out.cell (World.block_lt_of_cell? w _ hx169_0)).trans hx169_0
      replace hx169_1 := (HB.out.cell (World.block_lt_of_cell? w _ hx169_1)).trans hx169_1
      replace p169 := eq_true p169
      replace q169 := eq_true q169
      go_wp2_with (first | ((with_reducible refine gate_callee (f := 24) rfl ?_); refine zD (some 20) Try.func24 #[.agg #[.int .i64 ((rd_T45 l0 x4_1).f0), .int .i64 ((rd_T45 l0 x4_1).f1)]] ?_; (with_reducible refine (laws_toPoint.calls ((rd_T45 l0 x4_1).f0) ((rd_T45 l0 x4_1).f1) t170 t171 _ A8.out).mono ?_); rintro e w11 ⟨rfl, hb⟩; refine ⟨_, rfl, ?_⟩; replace HO_3 := zW HO_3.out hb; replace HB := zX hb; (try clear hb); have p10 : 0 ≤ (x4_1 : Int) := zA; have q10 : (x4_1 : Int) < ((x3_1.length : Int) : Int) := zA; obtain ⟨go10, co10, eo10, gb10, gl10, cl10, HG10⟩ := Kd.R_form HO_3.out (by omega); (first | cases eo10 | (injection eo10 with ea_ en_ ec_; (first | subst ea_ | (injection ea_ with ea_; subst ea_)); subst ec_; clear en_)); have GB10 := Aside0.mk gb10; have GG10 := Aside0.mk HG10; clear gb10 gl10 HG10; obtain ⟨ce10, hcl10, hM10, hcc10, hfr10⟩ := Kd.R_elem HO_3.out z43 (x4_1 : Int) p10 q10; obtain rfl := k43_openM hM10; have hx10_0 : w11.cell? ⟨go10, (x4_1 : Int).toNat * 2, none⟩ = some (.int .i64 ((rd_T43 x3_1 x4_1).f0)) := hcc10 0 _ rfl; have hx10_1 : w11.cell? ⟨go10, (x4_1 : Int).toNat * 2 + 1, none⟩ = some (.int .i64 ((rd_T43 x3_1 x4_1).f1)) := hcc10 1 _ rfl; have hf10_0 : w11.frozen? ⟨go10, (x4_1 : Int).toNat * 2, none⟩ = false := hfr10 0; have hf10_1 : w11.frozen? ⟨go10, (x4_1 : Int).toNat * 2 + 1, none⟩ = false := hfr10 1; clear hcl10 hcc10 hfr10 hM10; replace p10 := eq_true p10; replace q10 := eq_true q10; have HX12 := Aside0.mk (show Kd.R k43 43 w11 w.heap.size (fun _ => True) (.slice (some ⟨go10, 0, none⟩) x3_1.length co10) x3_1 from (zR HO_3.out)); obtain ⟨ce12, hcl12, hM12, hcc12, hfr12⟩ := Kd.R_elem HX12.out z43 (x4_1 : Int) (zA) (by have h_ : (x4_1 : Int) < ((x3_1.length : Int) : Int) := zA; first | exact h_ | (have e_ := (Kd.R_reads' HO_3.out).1; omega) | simpa using h_); obtain rfl := k43_openM hM12; have HP12 := Kd.R_seg HX12.out (x4_1 : Int) (zA) (by have h_ : (x4_1 : Int) < ((x3_1.length : Int) : Int) := zA; first | exact h_ | (have e_ := (Kd.R_reads' HO_3.out).1; omega) | simpa using h_) (seg := [.int .i64 t170, .int .i64 t171]) (j := 0) hcl12 hcc12 (show 2 ≤ 2 from by decide) (x' := (⟨t170, t171⟩ : S43)) (k43_mkM _ _ _ (⟨t170, t171⟩ : S43) ) (fun _ hk => hk); have hx12_0 := hcc12 0 _ rfl; (try simp only [show (k43).sz = 2 from rfl, Nat.mul_one, Nat.add_zero] at hx12_0); have hf12_0 := hfr12 0; (try simp only [show (k43).sz = 2 from rfl, Nat.mul_one, Nat.add_zero] at hf12_0); have hx12_1 := hcc12 1 _ rfl; (try simp only [show (k43).sz = 2 from rfl, Nat.mul_one, Nat.add_zero] at hx12_1); have hf12_1 := hfr12 1; (try simp only [show (k43).sz = 2 from rfl, Nat.mul_one, Nat.add_zero] at hf12_1); clear hcl12 hcc12 hfr12 hM12) | ((with_reducible refine gate_store (t := 43) (p := 21) rfl ?_); refine store_event (t := 43) (p := 21) (v := ?vo_w13) (w1 := ((w11.setCell ⟨go10, (x4_1 : Int).toNat * 2, none⟩ (.int .i64 t170)).setCell ⟨go10, (x4_1 : Int).toNat * 2 + 1, none⟩ (.int .i64 t171))) ?hg ?ho ?hn ?hr ?_; (case ho => rfl); (case hg => rfl); (case hn => rfl); (case hr => first | (go_simp; done) | (go_simp; rfl)); intro w13 hw; have hg : w11.grownBy w13 (some go10) := (by rw [hw]; exact HP12.2); have hp_ : Kd.R k43 43 w13 w.heap.size (fun _ => True) (.slice (some ⟨go10, 0, none⟩) x3_1.length co10) y172 := (by rw [hw, Ny172.out]; exact HP12.1); clear HP12; replace HO_3 := Aside0.mk (hp_); replace HB := Aside0.mk ((by rw [hw]; exact below_set (below_set (HB.out) GB10.out) GB10.out : Below w.heap.size w w13)); clear hg hw hp_))
      go_roundg k1
      case measure => have := HK1.out; omega
      case rel => exact ⟨(y172), (wrap64 (x4_1 + 1)), zF, H', ⟨by have := HK1.out; omega⟩, ⟨zR HO_3.out⟩, ⟨zB⟩⟩
     rw [if_neg c9] at H
     exact absurd H (by simp)
    rw [if_neg c7] at H
    exact absurd H (by simp)
   rw [if_neg c6] at H
   have c6b0 := decide_eq_false c6
   clear c6
   obtain rfl := Option.some.inj H
   go_wp2
   go_ret
   exact ⟨_, zE, zR HO_3.out, zB⟩
  rw [if_neg c3] at H
  exact absurd H (by simp)
 rw [if_neg c2] at H
 exact absurd H (by simp)
end Go.Proofs.Ythhgcdfdjlijjaa.PX
