/- A part of proofs about signs and points: what some functions answer, and that their calls answer so. No condition. -/
import Derived.Test.YtckkfjdkaimmhaaProg
import Derived.BigFrame
import Derived.Laws.Cover3
import Derived.Laws.IdiomStrings
import Derived.LoopTactic
import Derived.Test.YtckkfjdkaimmhaaV1
import Derived.Test.YtckkfjdkaimmhaaBkagmrh1
set_option linter.unusedVariables false
set_option linter.unusedSimpArgs false
namespace Go.Proofs.Ytckkfjdkaimmhaa.G
open Go.RowKit Go.Proofs.YtckkfjdkaimmhaaW.PrintWords Go.Proofs.YtckkfjdkaimmhaaW.PrintLast Go.Proofs.YtckkfjdkaimmhaaW.PrintMore Go.Proofs.Ytckkfjdkaimmhaa.PX Go.Proofs.Ytckkfjdkaimmhaa.M
set_option linter.unusedVariables false
set_option linter.unusedSimpArgs false
def matOk (n : Int) (t : ByteArray) : Bool := areOk n t && (brkA n t).isEmpty
def impl_IsMatroid.f (n : Int) (t : ByteArray) : Option Bool := if t.size ≤ 9223372036854775807 then some (matOk n t) else none
theorem both_at {α β : Type} {f : Nat → Option α} {g : Nat → Option β} {a : α} {b : β} (h1 : Ev f a) (h2 : Ev g b) : ∃ k, f k = some a ∧ g k = some b := by
 obtain ⟨K1, e1⟩ := h1
 obtain ⟨K2, e2⟩ := h2
 exact ⟨K1 + K2, e1 _ (by omega), e2 _ (by omega)⟩
theorem goesW_ {P : Program} {ops : Array Oper} {Q : Exit → Act → World → Prop} {rest : List Oper} {oi : Oper} {a : Act} {w : World} (N : Option Tmp) (hd : oi.dst = N) (hw : Region.wanted oi (yielded ops a.tmps) = true) {f : FuncId} {fn : Func} {az : Array Operand} {ts : Array TypeId} (hf : P.funcs[f]? = some fn) (hname : (fn.name == "runtime.NumGoroutine") = false) (hb : fn.body.isSome = true) (args : Array Value)
  (hop : oi.op = .call { callee := .value (.func f), args := az, argTypes := ts }) (hargs : az.map a.eval = args)
  (h : Calls P f args w fun e w' => ∃ v, e = .returned v ∧ wpList P ops Q rest (a.put N v) w') : wpList P ops Q (oi :: rest) a w := by
 refine BigFrame.wpList_want hw fun K hK => ?_
 have he := enters_ hf hname hb args w
 have hrun : (execOp a.eval oi).run P w = .ok (.enter f args) w := by
  unfold execOp
  simp [hop, resolve, Deferred.ofValue, invoke, Act.eval, hargs, he]
 unfold Oper.wp
 rw [hrun, Oper.upon_enter]
 refine h.mono fun e w'' hh => ?_
 obtain ⟨v, rfl, hk⟩ := hh
 subst hd
 exact hK _ _ hk
set_option maxHeartbeats 8000000 in
set_option maxRecDepth 100000 in
theorem impl_IsMatroid.calls (a0_0 : Int) (a0_1 : ByteArray) (r : Bool) (w : World) (h : impl_IsMatroid.f a0_0 a0_1 = some r) :
  Calls Try.prog 21 #[.agg #[.int .i64 a0_0, .string a0_1]] w fun e w' => e = .returned (.bool r) ∧ Below w.heap.size w w' := by
 unfold impl_IsMatroid.f at h
 by_cases hs : a0_1.size ≤ 9223372036854775807
 ·rw [if_pos hs] at h
  obtain ⟨k, h1, h2⟩ := both_at (impl_are a0_0 a0_1 hs) (impl_break a0_0 a0_1 hs)
  obtain rfl := Option.some.inj h
  clear h hs
  unfold matOk
  generalize areOk a0_0 a0_1 = b at h1 ⊢
  generalize brkA a0_0 a0_1 = l at h2 ⊢
  have A2 := Aside0.mk h1
  have A6 := Aside0.mk h2
  clear h1 h2
  have hu26 := Try.underlying25
  have q38 : ∀ (w : World) (a : Option Addr) (l c : Nat), (binOp .eql 27 (.slice a l c) (.slice none 0 0)).run Try.prog w = .ok (.bool a.isNone) w := fun w a l c => by
   simp [binOp, run_equal_slice_nil w 27 3 a l c Try.underlying27]
  have HB := Aside0.mk (Below.refl w.heap.size w)
  cases b with
  | false =>
   go_enter Try.func21, Try.ntmps21
   go_wp2_with (first | ((with_reducible refine gate_dst (N := 1) rfl ?_); refine zBx (N := 1) #[.int .i64 a0_0, .string a0_1] 25 ?_; intro gb hg w7 hbox hb; have BK := Aside0.mk hbox; replace HB := zX hb; clear hb hbox hg; have hcz0 : w7.cell? ⟨gb, 0, none⟩ = some (.int .i64 a0_0) := (blk_cell BK.out 0).trans rfl; have hcz1 : w7.cell? ⟨gb, 1, none⟩ = some (.string a0_1) := (blk_cell BK.out 1).trans rfl; have hfz0 := blk_frozen BK.out 0; have hfz1 := blk_frozen BK.out 1) | ((with_reducible refine gate_callee (f := 82) rfl ?_); refine goesL_ (some 4) rfl rfl Try.func82 (by kernel_rfl) rfl #[.agg #[.int .i64 a0_0, .string a0_1]] rfl (by (try simp only [List.map_toArray, List.map_cons, List.map_nil]); first | done | rfl) ?_; (with_reducible refine (impl_AreSigns.calls k a0_0 a0_1 false _ A2.out).mono ?_); rintro e w9 ⟨rfl, hb⟩; refine ⟨_, rfl, ?_⟩; have n1_ := zX hb; clear HB; have HB := n1_; clear n1_; (try clear hb)))
   go_ret
   exact ⟨rfl, zB⟩
  | true =>
  cases l with
  | nil =>
   go_enter Try.func21, Try.ntmps21
   go_wp2_with (first | ((with_reducible refine gate_dst (N := 1) rfl ?_); refine zBx (N := 1) #[.int .i64 a0_0, .string a0_1] 25 ?_; intro gb hg w7 hbox hb; have BK := Aside0.mk hbox; replace HB := zX hb; clear hb hbox hg; have hcz0 : w7.cell? ⟨gb, 0, none⟩ = some (.int .i64 a0_0) := (blk_cell BK.out 0).trans rfl; have hcz1 : w7.cell? ⟨gb, 1, none⟩ = some (.string a0_1) := (blk_cell BK.out 1).trans rfl; have hfz0 := blk_frozen BK.out 0; have hfz1 := blk_frozen BK.out 1) | ((with_reducible refine gate_callee (f := 82) rfl ?_); refine goesL_ (some 4) rfl rfl Try.func82 (by kernel_rfl) rfl #[.agg #[.int .i64 a0_0, .string a0_1]] rfl (by (try simp only [List.map_toArray, List.map_cons, List.map_nil]); first | done | rfl) ?_; (with_reducible refine (impl_AreSigns.calls k a0_0 a0_1 true _ A2.out).mono ?_); rintro e w9 ⟨rfl, hb⟩; refine ⟨_, rfl, ?_⟩; replace BK := zV BK.out hb; replace HB := zX hb; (try clear hb); have hdz0 : w9.cell? ⟨gb, 0, none⟩ = some (.int .i64 a0_0) := (blk_cell BK.out 0).trans rfl; have hdz1 : w9.cell? ⟨gb, 1, none⟩ = some (.string a0_1) := (blk_cell BK.out 1).trans rfl; have hfy0 := blk_frozen BK.out 0; have hfy1 := blk_frozen BK.out 1) | ((with_reducible refine gate_callee (f := 9) rfl ?_); refine goesW_ (some 7) rfl rfl Try.func9 (by kernel_rfl) rfl #[.agg #[.int .i64 a0_0, .string a0_1]] rfl (by (try simp only [List.map_toArray, List.map_cons, List.map_nil]); first | done | rfl) ?_; (with_reducible refine (impl_FirstBreak.callsN k a0_0 a0_1 [] _ A6.out).mono ?_); rintro e w11 ⟨v1, rfl, ⟨ho0, hn0⟩, hb⟩; refine ⟨_, rfl, ?_⟩; have n1_ := zX hb; clear HB; have HB := n1_; clear n1_; (try clear hb); obtain rfl := hn0 rfl; clear ho0))
   go_ret
   exact ⟨rfl, zB⟩
  | cons x_ xs_ =>
  go_enter Try.func21, Try.ntmps21
  go_wp2_with (first | ((with_reducible refine gate_dst (N := 1) rfl ?_); refine zBx (N := 1) #[.int .i64 a0_0, .string a0_1] 25 ?_; intro gb hg w7 hbox hb; have BK := Aside0.mk hbox; replace HB := zX hb; clear hb hbox hg; have hcz0 : w7.cell? ⟨gb, 0, none⟩ = some (.int .i64 a0_0) := (blk_cell BK.out 0).trans rfl; have hcz1 : w7.cell? ⟨gb, 1, none⟩ = some (.string a0_1) := (blk_cell BK.out 1).trans rfl; have hfz0 := blk_frozen BK.out 0; have hfz1 := blk_frozen BK.out 1) | ((with_reducible refine gate_callee (f := 82) rfl ?_); refine goesL_ (some 4) rfl rfl Try.func82 (by kernel_rfl) rfl #[.agg #[.int .i64 a0_0, .string a0_1]] rfl (by (try simp only [List.map_toArray, List.map_cons, List.map_nil]); first | done | rfl) ?_; (with_reducible refine (impl_AreSigns.calls k a0_0 a0_1 true _ A2.out).mono ?_); rintro e w9 ⟨rfl, hb⟩; refine ⟨_, rfl, ?_⟩; replace BK := zV BK.out hb; replace HB := zX hb; (try clear hb); have hdz0 : w9.cell? ⟨gb, 0, none⟩ = some (.int .i64 a0_0) := (blk_cell BK.out 0).trans rfl; have hdz1 : w9.cell? ⟨gb, 1, none⟩ = some (.string a0_1) := (blk_cell BK.out 1).trans rfl; have hfy0 := blk_frozen BK.out 0; have hfy1 := blk_frozen BK.out 1) | ((with_reducible refine gate_callee (f := 9) rfl ?_); refine goesW_ (some 7) rfl rfl Try.func9 (by kernel_rfl) rfl #[.agg #[.int .i64 a0_0, .string a0_1]] rfl (by (try simp only [List.map_toArray, List.map_cons, List.map_nil]); first | done | rfl) ?_; (with_reducible refine (impl_FirstBreak.callsN k a0_0 a0_1 (x_ :: xs_) _ A6.out).mono ?_); rintro e w11 ⟨v1, rfl, ⟨ho0, hn0⟩, hb⟩; refine ⟨_, rfl, ?_⟩; have n1_ := zX hb; clear HB; have HB := n1_; clear n1_; (try clear hb); obtain ⟨Ao_, co_, rfl⟩ := Kd.R_slice ho0; obtain ⟨ad_, ea_, _⟩ := Kd.at_int (Kd.R_reads' ho0).2.2 0 (by omega) (by simp only [List.length_cons]; omega); cases ea_; clear hn0 ho0))
  go_ret
  exact ⟨rfl, zB⟩
 rw [if_neg hs] at h
 cases h
end Go.Proofs.Ytckkfjdkaimmhaa.G
namespace Go.Proofs.Ytckkfjdkaimmhaa.G
open Go.RowKit Go.Proofs.YtckkfjdkaimmhaaW.PrintWords Go.Proofs.YtckkfjdkaimmhaaW.PrintLast Go.Proofs.YtckkfjdkaimmhaaW.PrintMore
set_option linter.unusedVariables false
set_option linter.unusedSimpArgs false
def oppB (c : UInt8) : UInt8 := if c = 43 then 45 else if c = 45 then 43 else c
def oppL (l : List UInt8) : List UInt8 := l.map oppB
def impl_opposite.f (t : ByteArray) : Option ByteArray := if t.size ≤ 1000 then some ⟨(oppL t.data.toList).toArray⟩ else none
def oppRow (l : List UInt8) (m i : Nat) : List Value := ((oppL (l.take i) ++ l.drop i).map fun c => Value.int .u8 (c.toNat : Int)) ++ List.replicate m (.int .u8 0)
theorem oppRow_length (l : List UInt8) (m i : Nat) (h : i ≤ l.length) : (oppRow l m i).length = l.length + m := by
 simp [oppRow, oppL]; omega
theorem oppRow_cut (l : List UInt8) (m i : Nat) (h : i < l.length) :
  oppRow l m i = ((oppL (l.take i)).map fun c => Value.int .u8 (c.toNat : Int)) ++ (Value.int .u8 (l[i].toNat : Int) :: ((l.drop (i + 1)).map (fun c => Value.int .u8 (c.toNat : Int)) ++ List.replicate m (.int .u8 0))) := by
 unfold oppRow
 rw [List.drop_eq_getElem_cons h]
 simp only [List.map_append, List.map_cons, List.append_assoc, List.cons_append]
theorem oppRow_cut' (l : List UInt8) (m i : Nat) (h : i < l.length) :
  oppRow l m (i + 1) = ((oppL (l.take i)).map fun c => Value.int .u8 (c.toNat : Int)) ++ (Value.int .u8 ((oppB l[i]).toNat : Int) :: ((l.drop (i + 1)).map (fun c => Value.int .u8 (c.toNat : Int)) ++ List.replicate m (.int .u8 0))) := by
 unfold oppRow oppL
 rw [List.take_succ_eq_append_getElem h]
 simp only [List.map_append, List.map_cons, List.map_nil, List.append_assoc, List.cons_append, List.nil_append]
theorem oppRow_pre (l : List UInt8) (i : Nat) (h : i < l.length) : ((oppL (l.take i)).map fun c => Value.int .u8 (c.toNat : Int)).length = i := by
 simp [oppL]; omega
theorem oppRow_get (l : List UInt8) (m i : Nat) (h : i < l.length) : (oppRow l m i)[i]? = some (.int .u8 (l[i].toNat : Int)) := by
 rw [oppRow_cut l m i h, List.getElem?_append_right (by rw [oppRow_pre l i h]; exact Nat.le_refl _), oppRow_pre l i h, Nat.sub_self]
 rfl
theorem oppRow_set (l : List UInt8) (m i : Nat) (h : i < l.length) : (oppRow l m i).set i (.int .u8 ((oppB l[i]).toNat : Int)) = oppRow l m (i + 1) := by
 rw [oppRow_cut l m i h, oppRow_cut' l m i h, List.set_append_right _ _ (by rw [oppRow_pre l i h]; exact Nat.le_refl _), oppRow_pre l i h, Nat.sub_self]
 rfl
theorem oppRow_same (l : List UInt8) (m i : Nat) (h : i < l.length) (hb : oppB l[i] = l[i]) : oppRow l m i = oppRow l m (i + 1) := by
 rw [oppRow_cut l m i h, oppRow_cut' l m i h, hb]
theorem oppRow_end (l : List UInt8) (m j : Nat) (h : j < (oppL l).length) : (oppRow l m l.length)[j]? = some (.int .u8 ((oppL l)[j].toNat : Int)) := by
 unfold oppRow
 rw [List.take_length, List.drop_length, List.append_nil, List.getElem?_append_left (by simpa using h), List.getElem?_map, List.getElem?_eq_getElem h]
 rfl
def Obj8 (l : List UInt8) (m i T : Nat) : Obj := .cells (oppRow l m i).toArray T (l.length + m, l.length + m + 1)
theorem obj8_cell {w : World} {g T m i j : Nat} {l : List UInt8} (h : w.heap[g]? = some (Obj8 l m i T)) : w.cell? ⟨g, j, none⟩ = (oppRow l m i)[j]? := by
 unfold World.cell?
 simp only [h, Obj8]
 simp
theorem obj8_frozen {w : World} {g T m i j : Nat} {l : List UInt8} (h : w.heap[g]? = some (Obj8 l m i T)) (hj : j < l.length) : w.frozen? ⟨g, j, none⟩ = false := by
 unfold World.frozen?
 simp only [h, Obj8]
 simp; omega
theorem obj8_set {w : World} {g T m i : Nat} {l : List UInt8} (h : w.heap[g]? = some (Obj8 l m i T)) (hj : i < l.length) {b : UInt8} (hb : oppB l[i] = b) : (w.setCell ⟨g, i, none⟩ (.int .u8 (b.toNat : Int))).heap[g]? = some (Obj8 l m (i + 1) T) := by
 subst hb
 simp only [World.setCell, Array.getElem?_modify, h, Obj8]
 simp [← oppRow_set l m i hj]
theorem opp_conv (w : World) (l : List UInt8) (src dst e : Nat) (hs : Try.prog.underlying src = some .string) (hd : Try.prog.underlying dst = some (.slice e)) (he : Try.prog.underlying e = some (.int .u8)) :
  ∃ c, (convert src dst (.string ⟨⟨l⟩⟩)).run Try.prog w = .ok (.slice (some ⟨w.heap.size, 0, none⟩) l.length c) (w.drew.alloc (Obj8 l (c - l.length) 0 e)) := by
 refine ⟨grownCap w l.length 0 e, ?_⟩
 have h := run_bytes_of_string w src dst e ⟨⟨l⟩⟩ hs hd he
 have e1 : bytesRow ⟨⟨l⟩⟩ (grownCap w l.length 0 e) = (oppRow l (grownCap w l.length 0 e - l.length) 0).toArray := by
  apply Array.toList_inj.1
  simp [bytesRow, oppRow, oppL, ByteArray.size]
 have e2 : (ByteArray.mk ⟨l⟩).size = l.length := rfl
 rw [e2, e1] at h
 rw [h]
 unfold Obj8
 simp [oppRow_length]
set_option maxHeartbeats 2000000 in
set_option maxRecDepth 100000 in
theorem impl_opposite.calls (a0 : ByteArray) (r : ByteArray) (w : World) (h : impl_opposite.f a0 = some r) :
  Calls Try.prog 147 #[.string a0] w fun e w' => e = .returned (.string r) ∧ Below w.heap.size w w' := by
 unfold impl_opposite.f at h
 by_cases hs : a0.size ≤ 1000
 ·rw [if_pos hs] at h
  obtain rfl := Option.some.inj h
  clear h
  obtain ⟨⟨l⟩⟩ := a0
  have hl : l.length ≤ 1000 := hs
  clear hs
  have hu := Try.underlying22
  obtain ⟨c, hconv⟩ := opp_conv w l 9 22 5 Try.underlying9 Try.underlying22 Try.underlying5
  have HB0 := Aside0.mk (Below.refl w.heap.size w)
  go_enter Try.func147, Try.ntmps147
  go_wp2
  clear hconv
  go_loopg [10] l.length (fun kq v10 w' => ∃ i : Nat, v10 = .int .i64 i ∧ Aside0 (i + kq = l.length) ∧ Aside0 (w'.heap[w.heap.size]? = some (Obj8 l (c - l.length) i 5)) ∧ Aside0 (Below w.heap.size w w'))
  case atStart => exact ⟨0, rfl, ⟨by omega⟩, ⟨blk_new _ _⟩, ⟨below_alloc (below_drew HB0.out) _⟩⟩
  case round =>
  obtain ⟨i, rfl, hi, hO, HB⟩ := hrel
  by_cases hlt : i < l.length
  ·obtain ⟨k1, rfl⟩ : ∃ k1, gk = k1 + 1 := ⟨gk - 1, by have := hi.out; omega⟩
   have hcell := obj8_cell (j := i) hO.out
   rw [oppRow_get l _ i hlt] at hcell
   have hfr := obj8_frozen hO.out hlt
   have hg : Aside0 (w.heap.size ≤ w.heap.size) := ⟨Nat.le_refl _⟩
   have hbb : Aside0 (∀ b, oppB l[i] = b → (wr.setCell ⟨w.heap.size, i, none⟩ (.int .u8 (b.toNat : Int))).heap[w.heap.size]? = some (Obj8 l (c - l.length) (i + 1) 5)) := ⟨fun b hb => obj8_set hO.out hlt hb⟩
   have hsame : Aside0 (oppB l[i] = l[i] → oppRow l (c - l.length) i = oppRow l (c - l.length) (i + 1)) := ⟨oppRow_same l _ i hlt⟩
   generalize l[i] = b at hcell hbb hsame
   by_cases h43 : b = 43
   ·subst h43
    have hcell : wr.cell? ⟨w.heap.size, i, none⟩ = some (.int .u8 43) := hcell
    have hst := Aside0.mk (show (wr.setCell ⟨w.heap.size, i, none⟩ (.int .u8 45)).heap[w.heap.size]? = _ from hbb.out 45 rfl)
    clear hbb hsame
    go_wp2
    go_roundg k1
    case measure => omega
    case rel => exact ⟨i + 1, by go_num, ⟨by have := hi.out; omega⟩, hst, ⟨below_set HB.out hg.out⟩⟩
   by_cases h45 : b = 45
   ·subst h45
    have hcell : wr.cell? ⟨w.heap.size, i, none⟩ = some (.int .u8 45) := hcell
    have hst := Aside0.mk (show (wr.setCell ⟨w.heap.size, i, none⟩ (.int .u8 43)).heap[w.heap.size]? = _ from hbb.out 43 rfl)
    clear hbb hsame h43
    go_wp2
    go_roundg k1
    case measure => omega
    case rel => exact ⟨i + 1, by go_num, ⟨by have := hi.out; omega⟩, hst, ⟨below_set HB.out hg.out⟩⟩
   have hn1 : ((b.toNat : Int) == 43) = false := by
    apply beq_eq_false_iff_ne.2; intro e; apply h43; apply UInt8.toNat_inj.1; show b.toNat = 43; omega
   have hn2 : ((b.toNat : Int) == 45) = false := by
    apply beq_eq_false_iff_ne.2; intro e; apply h45; apply UInt8.toNat_inj.1; show b.toNat = 45; omega
   have hst : Aside0 (wr.heap[w.heap.size]? = some (Obj8 l (c - l.length) (i + 1) 5)) := ⟨by
    have e := hsame.out (by unfold oppB; rw [if_neg h43, if_neg h45])
    have := hO.out
    unfold Obj8 at this ⊢
    rw [← e]; exact this⟩
   clear hbb hsame h43 h45
   go_wp2
   go_roundg k1
   case measure => omega
   case rel => exact ⟨i + 1, by go_num, ⟨by have := hi.out; omega⟩, hst, HB⟩
  have hil : i = l.length := by have := hi.out; omega
  have hback : (convert 22 9 (.slice (some ⟨w.heap.size, 0, none⟩) l.length c)).run Try.prog wr = .ok (.string ⟨(oppL l).toArray⟩) wr := by
   have hlen : (oppL l).length = l.length := by simp [oppL]
   have := run_convert_bytes_back wr 22 9 5 ⟨w.heap.size, 0, none⟩ c (oppL l) Try.underlying22 Try.underlying5 Try.underlying9 (fun j hj => by
    rw [add_plain, obj8_cell (j := j) hO.out, hil]
    exact oppRow_end l _ j hj)
   rw [hlen] at this
   exact this
  have hilt : decide ((i : Int) < (l.length : Int)) = false := decide_eq_false (by omega)
  clear hil
  go_wp2
  go_ret
  exact ⟨rfl, HB.out⟩
 rw [if_neg hs] at h
 cases h
end Go.Proofs.Ytckkfjdkaimmhaa.G
namespace Go.Proofs.Ytckkfjdkaimmhaa.PX
open Go.RowKit Go.Proofs.Ytckkfjdkaimmhaa.G Go.Proofs.YtckkfjdkaimmhaaW.PrintWords Go.Proofs.YtckkfjdkaimmhaaW.PrintLast Go.Proofs.YtckkfjdkaimmhaaW.PrintMore
attribute [local go_sem] max2_int min2_int max_two min_two max_three min_three max_four min_four   -- for this text's walks alone
set_option linter.unusedVariables false
set_option linter.unusedSimpArgs false
def IsS110 (w0 W : World) (g : Nat) (f0 : List Int) (f1 : Int) (f2 : Int) : Prop := ∃ A0 c0, W.heap[g]? = some (.cells #[.slice A0 f0.length c0, .int .i64 f1, .int .i64 f2] 110 (0, 0)) ∧ w0.heap.size ≤ g ∧ Kd.C (Kd.int .u8) w0 A0 f0.length f0
theorem IsS110.grown {w0 W : World} {g : Nat} {f0 : List Int} {f1 : Int} {f2 : Int} {W1 : World} {row : Option Nat} (h : IsS110 w0 W g f0 f1 f2) (hw : W.grownBy W1 row) (hne : some g ≠ row) : IsS110 w0 W1 g f0 f1 f2 := by
 obtain ⟨A0, c0, hb, hg, hr0⟩ := h
 exact ⟨A0, c0, blk_grown hb hw hne, hg, hr0⟩
theorem IsS110.below {w0 W : World} {g : Nat} {f0 : List Int} {f1 : Int} {f2 : Int} {W1 : World} (h : IsS110 w0 W g f0 f1 f2) (hw : Below W.heap.size W W1) : IsS110 w0 W1 g f0 f1 f2 := h.grown (grown_of_below hw none) (by simp)
theorem IsS110.alloc {w0 W : World} {g : Nat} {f0 : List Int} {f1 : Int} {f2 : Int} (h : IsS110 w0 W g f0 f1 f2) (o : Obj) : IsS110 w0 (W.alloc o) g f0 f1 f2 := h.below (below_alloc (Below.refl _ _) o)
theorem IsS110.drewN {w0 W : World} {g : Nat} {f0 : List Int} {f1 : Int} {f2 : Int} (h : IsS110 w0 W g f0 f1 f2) (m : Nat) : IsS110 w0 (W.drewN m) g f0 f1 f2 := h
theorem IsS110.drew {w0 W : World} {g : Nat} {f0 : List Int} {f1 : Int} {f2 : Int} (h : IsS110 w0 W g f0 f1 f2) : IsS110 w0 W.drew g f0 f1 f2 := h
theorem IsS110.apart {w0 W : World} {g : Nat} {f0 : List Int} {f1 : Int} {f2 : Int} {α : Type} {d : Kd α} {e : Nat} {base : Nat} {ok : Nat → Prop} {v : Value} {xs : List α} (h : IsS110 w0 W g f0 f1 f2) (ho : d.R e W base ok v xs) (ht : ∀ q, q ∈ e :: d.E → q ≠ 110) : d.R e W base (fun k => ok k ∧ k ≠ g) v xs := by
 obtain ⟨A0, c0, hb, hg, hr0⟩ := h
 exact Kd.R_types ho hb ht
theorem IsS110.own_ne {w0 W : World} {g : Nat} {f0 : List Int} {f1 : Int} {f2 : Int} {α : Type} {d : Kd α} {e : Nat} {base : Nat} {ok : Nat → Prop} {v : Value} {xs : List α} (h : IsS110 w0 W g f0 f1 f2) (ho : d.R e W base ok v xs) (ht : e ≠ 110) : some g ≠ v.ownBlock := by
 obtain ⟨A0, c0, hb, hg, hr0⟩ := h
 exact Kd.R_ne ho hb ht
theorem IsS110.lt {w0 W : World} {g : Nat} {f0 : List Int} {f1 : Int} {f2 : Int} (h : IsS110 w0 W g f0 f1 f2) : g < W.heap.size := by
 obtain ⟨A0, c0, hb, hg, hr0⟩ := h
 exact blk_lt hb
theorem IsS110.ge {w0 W : World} {g : Nat} {f0 : List Int} {f1 : Int} {f2 : Int} (h : IsS110 w0 W g f0 f1 f2) : w0.heap.size ≤ g := by
 obtain ⟨A0, c0, hb, hg, hr0⟩ := h
 exact hg
theorem IsS110.ne_blk {w0 W : World} {g : Nat} {f0 : List Int} {f1 : Int} {f2 : Int} {a : Nat} {cs : Array Value} {t : TypeId} {fr : Nat × Nat} (h : IsS110 w0 W g f0 f1 f2) (hb2 : W.heap[a]? = some (.cells cs t fr)) (ht : t ≠ 110) : g ≠ a := by
 obtain ⟨A0, c0, hb, hg, hr0⟩ := h
 rintro rfl
 rw [hb] at hb2
 injection hb2 with hb2
 injection hb2 with _ ht2
 exact ht ht2.symm
theorem IsS110.far {w0 W : World} {g : Nat} {f0 : List Int} {f1 : Int} {f2 : Int} {p : Addr} (h : IsS110 w0 W g f0 f1 f2) (hne : g ≠ p.block) (u : Value) : IsS110 w0 (W.setCell p u) g f0 f1 f2 := by
 obtain ⟨A0, c0, hb, hg, hr0⟩ := h
 exact ⟨A0, c0, blk_far hb hne u, hg, hr0⟩
theorem cellS110_0 {W : World} {g : Nat} {A0 : Option Addr} {c0 : Nat} {f0 : List Int} {f1 : Int} {f2 : Int} (h : W.heap[g]? = some (.cells #[.slice A0 f0.length c0, .int .i64 f1, .int .i64 f2] 110 (0, 0))) : W.cell? ⟨g, 0, none⟩ = some (.slice A0 f0.length c0) := (blk_cell h 0).trans rfl
theorem cellS110_1 {W : World} {g : Nat} {A0 : Option Addr} {c0 : Nat} {f0 : List Int} {f1 : Int} {f2 : Int} (h : W.heap[g]? = some (.cells #[.slice A0 f0.length c0, .int .i64 f1, .int .i64 f2] 110 (0, 0))) : W.cell? ⟨g, 1, none⟩ = some (.int .i64 f1) := (blk_cell h 1).trans rfl
theorem IsS110.set_1 {w0 W : World} {g : Nat} {f0 : List Int} {f1 : Int} {f2 : Int} (h : IsS110 w0 W g f0 f1 f2) (x : Int) : IsS110 w0 (W.setCell ⟨g, 1, none⟩ (.int .i64 x)) g f0 x f2 := by
 obtain ⟨A0, c0, hb, hg, hr0⟩ := h
 exact ⟨A0, c0, by simpa using blk_set hb 1 (.int .i64 x), hg, hr0⟩
theorem cellS110_2 {W : World} {g : Nat} {A0 : Option Addr} {c0 : Nat} {f0 : List Int} {f1 : Int} {f2 : Int} (h : W.heap[g]? = some (.cells #[.slice A0 f0.length c0, .int .i64 f1, .int .i64 f2] 110 (0, 0))) : W.cell? ⟨g, 2, none⟩ = some (.int .i64 f2) := (blk_cell h 2).trans rfl
theorem IsS110.set_2 {w0 W : World} {g : Nat} {f0 : List Int} {f1 : Int} {f2 : Int} (h : IsS110 w0 W g f0 f1 f2) (x : Int) : IsS110 w0 (W.setCell ⟨g, 2, none⟩ (.int .i64 x)) g f0 f1 x := by
 obtain ⟨A0, c0, hb, hg, hr0⟩ := h
 exact ⟨A0, c0, by simpa using blk_set hb 2 (.int .i64 x), hg, hr0⟩
/-! ### spec_l1Byte: function 151 -/
def spec_l1Byte.f (s0_0 : List Int) (s0_1 : Int) (s0_2 : Int) : Option (Int × Int × Int) := if s0_1 < (s0_0.length : Int) then (if 0 ≤ s0_1 then (some (Go.bits .and .i64 (wrap64 ((Go.bits .and .i64 (Go.bits .xor .i64 ((wrap64 ((wrap64 (s0_2 * 6364136223846793005)) + 1442695040888963407)) / 8589934592) ((wrap64 ((wrap64 (s0_2 * 6364136223846793005)) + 1442695040888963407)) / 35184372088832)) 255) + (wrap64 (rd s0_0 s0_1)))) 255, wrap64 (s0_1 + 1), wrap64 ((wrap64 (s0_2 * 6364136223846793005)) + 1442695040888963407))) else (none)) else (some (Go.bits .and .i64 (Go.bits .xor .i64 ((wrap64 ((wrap64 (s0_2 * 6364136223846793005)) + 1442695040888963407)) / 8589934592) ((wrap64 ((wrap64 (s0_2 * 6364136223846793005)) + 1442695040888963407)) / 35184372088832)) 255, s0_1, wrap64 ((wrap64 (s0_2 * 6364136223846793005)) + 1442695040888963407)))
theorem zl10_0 {p q : Prop} (g : p) (h : p → q := by intro zg_; repeat (first | (with_reducible first | exact zg_ | apply IsS110.alloc | apply IsS110.drewN | apply IsS110.drew | apply IsS110.set_1 | apply IsS110.set_2) | exact zg_)) : q := h g
theorem zl10_1 {p q : Prop} (g : p) (h : p → q := by intro zg_; repeat (first | (with_reducible first | exact zg_ | apply KeepBut.set_ | apply keep_drewN | apply keep_drew | apply keep_alloc) | exact zg_)) : q := h g
set_option maxHeartbeats 8000000 in
set_option maxRecDepth 100000 in
theorem spec_l1Byte.calls (g : Nat) (s0_0 : List Int) (s0_1 : Int) (s0_2 : Int) (r1 : Int) (r2 : Int) (r3 : Int) (w0 w : World) (hI : IsS110 w0 w g s0_0 s0_1 s0_2) (hB : Below w0.heap.size w0 w) (h : spec_l1Byte.f s0_0 s0_1 s0_2 = some (r1, r2, r3)) :
  Calls Try.prog 151 #[.pointer (some ⟨g, 0, none⟩)] w fun e w' => e = .returned (.int .i64 r1) ∧ IsS110 w0 w' g s0_0 r2 r3 ∧ Below w0.heap.size w0 w' ∧ KeepBut w w' g none := by
 have HI0 := Aside0.mk hI
 have HK := Aside0.mk (KeepBut.refl w g none)
 have HL := Aside0.mk hB.size
 clear hI
 have HW0 := Aside0.mk hB.size
 have HB := Aside0.mk hB
 clear hB
 have H : (if s0_1 < (s0_0.length : Int) then (if 0 ≤ s0_1 then (some (Go.bits .and .i64 (wrap64 ((Go.bits .and .i64 (Go.bits .xor .i64 ((wrap64 ((wrap64 (s0_2 * 6364136223846793005)) + 1442695040888963407)) / 8589934592) ((wrap64 ((wrap64 (s0_2 * 6364136223846793005)) + 1442695040888963407)) / 35184372088832)) 255) + (wrap64 (rd s0_0 s0_1)))) 255, wrap64 (s0_1 + 1), wrap64 ((wrap64 (s0_2 * 6364136223846793005)) + 1442695040888963407))) else (none)) else (some (Go.bits .and .i64 (Go.bits .xor .i64 ((wrap64 ((wrap64 (s0_2 * 6364136223846793005)) + 1442695040888963407)) / 8589934592) ((wrap64 ((wrap64 (s0_2 * 6364136223846793005)) + 1442695040888963407)) / 35184372088832)) 255, s0_1, wrap64 ((wrap64 (s0_2 * 6364136223846793005)) + 1442695040888963407)))) = some (r1, r2, r3) := h
 clear h
 by_cases c2 : s0_1 < (s0_0.length : Int)
 ·rw [if_pos c2] at H
  have c2b0 := decide_eq_true c2
  clear c2
  by_cases c3 : 0 ≤ s0_1
  ·rw [if_pos c3] at H
   have c3b0 := decide_eq_true c3
   clear c3
   simp only [Option.some.injEq, Prod.mk.injEq] at H
   obtain ⟨rfl, rfl, rfl⟩ := H
   obtain ⟨ASz4_0, cSz4_0, HGz4, hgz4, HSz4_0⟩ := HI0.out
   have hcz4_0 := cellS110_0 HGz4
   have hcz4_1 := cellS110_1 HGz4
   have hcz4_2 := cellS110_2 HGz4
   have hfz4_1 := blk_frozen HGz4 1
   have hfz4_2 := blk_frozen HGz4 2
   clear HGz4 hgz4
   have p112 : 0 ≤ (s0_1 : Int) := zA
   have q112 : s0_1 < (s0_0.length : Int) := zA
   obtain ⟨ad112, e112, hx112_0⟩ := Kd.at_int HSz4_0 s0_1 p112 q112
   cases e112
   have hn112_0 : ad112.block ≠ g := Nat.ne_of_lt (Nat.lt_of_lt_of_le (by have := World.block_lt_of_cell? _ _ hx112_0; first | rwa [add_block] at this | exact this) (IsS110.ge HI0.out))
   replace hx112_0 := pw_cell_below HB.out hx112_0
   replace hx112_0 := (cell_far (p := ⟨g, 2, none⟩) (by first | (rw [add_block]; exact hn112_0) | (show (Addr.add _ _).block ≠ _; rw [add_block]; exact hn112_0) | exact hn112_0) (.int .i64 (wrap64 ((wrap64 (s0_2 * 6364136223846793005)) + 1442695040888963407)))).trans hx112_0
   (try have hy112_0 := fun (n_ : Nat) => (show (((w.drewN n_).setCell ⟨g, 2, none⟩ (.int .i64 (wrap64 ((wrap64 (s0_2 * 6364136223846793005)) + 1442695040888963407))))).cell? _ = some _ from hx112_0))
   clear hn112_0
   replace p112 := eq_true p112
   replace q112 := eq_true q112
   go_enter Try.func151, Try.ntmps151
   go_wp2
   repeat (go_quiet (fail); try go_wp2)
   go_ret
   exact ⟨zE, (zl10_0 HI0.out), zG (IsS110.ge HI0.out), (zl10_1 HK.out)⟩
  rw [if_neg c3] at H
  exact absurd H (by simp)
 rw [if_neg c2] at H
 have c2b0 := decide_eq_false c2
 clear c2
 simp only [Option.some.injEq, Prod.mk.injEq] at H
 obtain ⟨rfl, rfl, rfl⟩ := H
 obtain ⟨ASz5_0, cSz5_0, HGz5, hgz5, HSz5_0⟩ := HI0.out
 have hcz5_0 := cellS110_0 HGz5
 have hcz5_1 := cellS110_1 HGz5
 have hcz5_2 := cellS110_2 HGz5
 have hfz5_1 := blk_frozen HGz5 1
 have hfz5_2 := blk_frozen HGz5 2
 clear HGz5 hgz5
 go_enter Try.func151, Try.ntmps151
 go_wp2
 repeat (go_quiet (fail); try go_wp2)
 go_ret
 exact ⟨zE, (zl10_0 HI0.out), zG (IsS110.ge HI0.out), (zl10_1 HK.out)⟩
/-! ### spec_l1New: function 81 -/
def spec_l1New.l0 : Nat → List Int → Int → Int → Option (List Int × Int × Int)
 | 0, _, _, _ => none
 | k + 1, x0, x3, x4 => if x4 < (x0.length : Int) then (if x4 < 4000 then (if 0 ≤ x4 then (spec_l1New.l0 k x0 (Go.bits .and .i64 (wrap64 ((wrap64 ((wrap64 (x3 * 131)) + (wrap64 (rd x0 x4)))) + 7)) 1073741823) (wrap64 (x4 + 1))) else (none)) else (some (x0, 0, x3))) else (some (x0, 0, x3))
def spec_l1New.f (k : Nat) (l0 : List Int) : Option (List Int × Int × Int) := spec_l1New.l0 k l0 (wrap64 (26583 + (l0.length : Int))) 0
theorem zl23_0 {p q : Prop} (g : p) (h : p → q := by intro zg_; repeat (first | (with_reducible first | exact zg_ | apply below_alloc | apply pw_below_drewN | apply below_drew1) | exact zg_)) : q := h g
theorem zl23_1 {p q p0 : Prop} (g : p) (g0 : p0) (h : p → p0 → q := by intro zg_ z0_; repeat (first | (with_reducible first | exact zg_ | apply below_alloc | apply pw_below_drewN | apply below_drew1 | refine below_set ?_ z0_) | exact zg_)) : q := h g g0
set_option maxHeartbeats 8000000 in
set_option maxRecDepth 100000 in
theorem spec_l1New.calls (k : Nat) (A0 : Option Addr) (c0 : Nat) (l0 : List Int) (r1 : List Int) (r2 : Int) (r3 : Int) (w0 w : World) (hB : Below w0.heap.size w0 w) (hr0 : Kd.C (Kd.int .u8) w0 A0 l0.length l0) (hc0 : l0.length ≤ c0) (h : spec_l1New.f k l0 = some (r1, r2, r3)) :
  Calls Try.prog 81 #[.slice A0 l0.length c0] w fun e w' => ∃ g_ : Nat, e = .returned (.pointer (some ⟨g_, 0, none⟩)) ∧ IsS110 w0 w' g_ r1 r2 r3 ∧ Below w0.heap.size w0 w' ∧ Below w.heap.size w w' := by
 have hu110 := Try.underlying110
 have HR0 := Aside0.mk hr0
 have HC0 := Aside0.mk hc0
 clear hr0 hc0
 have HBW := Aside0.mk (Below.refl w.heap.size w)
 have HW0 := Aside0.mk hB.size
 have HB := Aside0.mk hB
 clear hB
 have H : (spec_l1New.l0 k l0 (wrap64 (26583 + (l0.length : Int))) 0) = some (r1, r2, r3) := h
 clear h
 have H' := Aside0.mk H; clear H
 go_enter Try.func81, Try.ntmps81
 go_wp2
 go_loopg [3, 4] k (fun kq v3 v4 w' => ∃ (x3_1 : Int) (x4_1 : Int), v3 = .int .i64 x3_1 ∧ v4 = .int .i64 x4_1 ∧ Aside0 (spec_l1New.l0 kq l0 x3_1 x4_1 = some (r1, r2, r3)) ∧ Aside0 (kq ≤ k) ∧ Aside0 (Below w0.heap.size w0 w') ∧ Aside0 (Below w.heap.size w w'))
 case atStart => exact ⟨(wrap64 (26583 + (l0.length : Int))), (0), zF, zF, H', ⟨Nat.le_refl _⟩, ⟨zB⟩, ⟨(zl23_0 HBW.out)⟩⟩
 case round =>
 clear H'
 obtain ⟨x3_1, x4_1, rfl, rfl, HA, HK1, HB, HBW⟩ := hrel
 cases gk with
 | zero => exact absurd HA.out (by simp [spec_l1New.l0])
 | succ k1 =>
 have H := HA.out
 clear HA
 simp only [spec_l1New.l0] at H
 by_cases c2 : x4_1 < (l0.length : Int)
 ·rw [if_pos c2] at H
  have c2b0 := decide_eq_true c2
  clear c2
  by_cases c3 : x4_1 < 4000
  ·rw [if_pos c3] at H
   have c3b0 := decide_eq_true c3
   clear c3
   by_cases c4 : 0 ≤ x4_1
   ·rw [if_pos c4] at H
    have c4b0 := decide_eq_true c4
    clear c4
    have H' := Aside0.mk H; clear H
    have p242 : 0 ≤ (x4_1 : Int) := zA
    have q242 : x4_1 < (l0.length : Int) := zA
    obtain ⟨ad242, e242, hx242_0⟩ := Kd.at_int HR0.out x4_1 p242 q242
    cases e242
    replace hx242_0 := pw_cell_below HB.out hx242_0
    replace p242 := eq_true p242
    replace q242 := eq_true q242
    go_wp2
    go_roundg k1
    case measure => have := HK1.out; omega
    case rel => exact ⟨(Go.bits .and .i64 (wrap64 ((wrap64 ((wrap64 (x3_1 * 131)) + (wrap64 (rd l0 x4_1)))) + 7)) 1073741823), (wrap64 (x4_1 + 1)), zF, zF, H', ⟨by have := HK1.out; omega⟩, ⟨zB⟩, ⟨(zl23_0 HBW.out)⟩⟩
   rw [if_neg c4] at H
   exact absurd H (by simp)
  rw [if_neg c3] at H
  have c3b0 := decide_eq_false c3
  clear c3
  simp only [Option.some.injEq, Prod.mk.injEq] at H
  obtain ⟨rfl, rfl, rfl⟩ := H
  go_wp2_with (first | ((with_reducible refine gate_dst (N := 31) rfl ?_); refine zBx (N := 31) #[.slice A0 l0.length c0, .int .i64 0, .int .i64 x3_1] 110 ?_; intro gb243 hg w5 hbox hb; have BK243 := Aside0.mk (hbox); have GW243 := Aside0.mk ((by rw [hg]; exact (below_size (zl23_0 HBW.out)) : w.heap.size ≤ gb243)); have GE243 := Aside0.mk ((Nat.le_trans HW0.out (by rw [hg]; exact (below_size (zl23_0 HBW.out)) : w.heap.size ≤ gb243) : w0.heap.size ≤ gb243)); replace HBW := Aside0.mk (below_step HBW.out hb); replace HB := zX hb; clear hb hbox hg))
  go_ret
  exact ⟨_, rfl, (show IsS110 w0 _ gb243 l0 0 x3_1 from ⟨_, _, zK BK243.out, GE243.out, HR0.out⟩), zG GE243.out, (zl23_1 HBW.out GW243.out)⟩
 rw [if_neg c2] at H
 have c2b0 := decide_eq_false c2
 clear c2
 simp only [Option.some.injEq, Prod.mk.injEq] at H
 obtain ⟨rfl, rfl, rfl⟩ := H
 go_wp2_with (first | ((with_reducible refine gate_dst (N := 31) rfl ?_); refine zBx (N := 31) #[.slice A0 l0.length c0, .int .i64 0, .int .i64 x3_1] 110 ?_; intro gb244 hg w6 hbox hb; have BK244 := Aside0.mk (hbox); have GW244 := Aside0.mk ((by rw [hg]; exact (below_size (zl23_0 HBW.out)) : w.heap.size ≤ gb244)); have GE244 := Aside0.mk ((Nat.le_trans HW0.out (by rw [hg]; exact (below_size (zl23_0 HBW.out)) : w.heap.size ≤ gb244) : w0.heap.size ≤ gb244)); replace HBW := Aside0.mk (below_step HBW.out hb); replace HB := zX hb; clear hb hbox hg))
 go_ret
 exact ⟨_, rfl, (show IsS110 w0 _ gb244 l0 0 x3_1 from ⟨_, _, zK BK244.out, GE244.out, HR0.out⟩), zG GE244.out, (zl23_1 HBW.out GW244.out)⟩
/-! ### spec_l1Below: function 125 -/
def spec_l1Below.f (s0_0 : List Int) (s0_1 : Int) (s0_2 : Int) (a1 : Int) : Option (Int × Int × Int) := if a1 ≤ 0 then (some (0, s0_1, s0_2)) else (if a1 ≤ 256 then ((spec_l1Byte.f s0_0 s0_1 s0_2).bind fun bt113 => (if a1 = 0 then (none) else (some (Int.tmod bt113.1 a1, bt113.2.1, bt113.2.2)))) else ((spec_l1Byte.f s0_0 s0_1 s0_2).bind fun bt116 => ((spec_l1Byte.f s0_0 bt116.2.1 bt116.2.2).bind fun bt119 => ((spec_l1Byte.f s0_0 bt119.2.1 bt119.2.2).bind fun bt122 => ((spec_l1Byte.f s0_0 bt122.2.1 bt122.2.2).bind fun bt125 => (if a1 = 0 then (none) else (some (Int.tmod (wrap64 ((wrap64 ((wrap64 ((wrap64 (bt116.1 * 16777216)) + (wrap64 (bt119.1 * 65536)))) + (wrap64 (bt122.1 * 256)))) + bt125.1)) a1, bt125.2.1, bt125.2.2))))))))
theorem zl11_0 {p q : Prop} (g : p) (h : p → q := by intro zg_; repeat (first | (with_reducible first | exact zg_ | apply IsS110.alloc | apply IsS110.drewN | apply IsS110.drew | apply IsS110.set_1 | apply IsS110.set_2) | exact zg_)) : q := h g
theorem zl11_1 {p q : Prop} (g : p) (h : p → q := by intro zg_; repeat (first | (with_reducible first | exact zg_ | apply KeepBut.set_ | apply keep_drewN | apply keep_drew | apply keep_alloc) | exact zg_)) : q := h g
theorem zl11_2 {p q p0 : Prop} (g : p) (g0 : p0) (h : p → p0 → q := by intro zg_ z0_; repeat (first | (with_reducible first | exact zg_ | apply below_alloc | apply pw_below_drewN | apply below_drew1 | refine below_set ?_ z0_) | exact zg_)) : q := h g g0
set_option maxHeartbeats 8000000 in
set_option maxRecDepth 100000 in
theorem spec_l1Below.calls (g : Nat) (s0_0 : List Int) (s0_1 : Int) (s0_2 : Int) (a1 : Int) (r1 : Int) (r2 : Int) (r3 : Int) (w0 w : World) (hI : IsS110 w0 w g s0_0 s0_1 s0_2) (hB : Below w0.heap.size w0 w) (h : spec_l1Below.f s0_0 s0_1 s0_2 a1 = some (r1, r2, r3)) :
  Calls Try.prog 125 #[.pointer (some ⟨g, 0, none⟩), .int .i64 a1] w fun e w' => e = .returned (.int .i64 r1) ∧ IsS110 w0 w' g s0_0 r2 r3 ∧ Below w0.heap.size w0 w' ∧ KeepBut w w' g none := by
 have HI0 := Aside0.mk hI
 have HK := Aside0.mk (KeepBut.refl w g none)
 have HL := Aside0.mk hB.size
 clear hI
 have HW0 := Aside0.mk hB.size
 have HB := Aside0.mk hB
 clear hB
 have H : (if a1 ≤ 0 then (some (0, s0_1, s0_2)) else (if a1 ≤ 256 then ((spec_l1Byte.f s0_0 s0_1 s0_2).bind fun bt113 => (if a1 = 0 then (none) else (some (Int.tmod bt113.1 a1, bt113.2.1, bt113.2.2)))) else ((spec_l1Byte.f s0_0 s0_1 s0_2).bind fun bt116 => ((spec_l1Byte.f s0_0 bt116.2.1 bt116.2.2).bind fun bt119 => ((spec_l1Byte.f s0_0 bt119.2.1 bt119.2.2).bind fun bt122 => ((spec_l1Byte.f s0_0 bt122.2.1 bt122.2.2).bind fun bt125 => (if a1 = 0 then (none) else (some (Int.tmod (wrap64 ((wrap64 ((wrap64 ((wrap64 (bt116.1 * 16777216)) + (wrap64 (bt119.1 * 65536)))) + (wrap64 (bt122.1 * 256)))) + bt125.1)) a1, bt125.2.1, bt125.2.2))))))))) = some (r1, r2, r3) := h
 clear h
 by_cases c3 : a1 ≤ 0
 ·rw [if_pos c3] at H
  have c3b0 := decide_eq_true c3
  clear c3
  simp only [Option.some.injEq, Prod.mk.injEq] at H
  obtain ⟨rfl, rfl, rfl⟩ := H
  go_enter Try.func125, Try.ntmps125
  go_wp2
  go_ret
  exact ⟨zE, (zl11_0 HI0.out), zG (IsS110.ge HI0.out), (zl11_1 HK.out)⟩
 rw [if_neg c3] at H
 have c3b0 := decide_eq_false c3
 clear c3
 by_cases c4 : a1 ≤ 256
 ·rw [if_pos c4] at H
  have c4b0 := decide_eq_true c4
  clear c4
  obtain ⟨⟨t113, t114, t115⟩, A5, H⟩ := zO H
  dsimp only at H
  by_cases c6 : a1 = 0
  ·rw [if_pos c6] at H
   exact absurd H (by simp)
  rw [if_neg c6] at H
  have c6b0 := beq_eq_false_iff_ne.mpr c6
  have c6b1 := bne_iff_ne.mpr c6
  simp only [Option.some.injEq, Prod.mk.injEq] at H
  obtain ⟨rfl, rfl, rfl⟩ := H
  go_enter Try.func125, Try.ntmps125
  go_wp2_with (first | ((with_reducible refine gate_callee (f := 151) rfl ?_); refine zD (some 14) Try.func151 #[.pointer (some ⟨g, 0, none⟩)] ?_; (with_reducible refine (spec_l1Byte.calls g s0_0 s0_1 s0_2 t113 t114 t115 w0 _ ?side1 ?side2 A5.out).mono ?_); (case side1 => exact (zl11_0 HI0.out)); (case side2 => exact (zl11_2 HB.out (IsS110.ge HI0.out))); rintro e w7 ⟨rfl, hi, hb, hk⟩; refine ⟨_, rfl, ?_⟩; replace HK := Aside0.mk (KeepBut.trans (zl11_1 HK.out) hk (.inl rfl)); replace HI0 := Aside0.mk (hi); replace HB := Aside0.mk (hb); (try clear hb); (try clear hk); (try clear hi)))
  go_ret
  exact ⟨zE, (zl11_0 HI0.out), zG (IsS110.ge HI0.out), (zl11_1 HK.out)⟩
 rw [if_neg c4] at H
 have c4b0 := decide_eq_false c4
 clear c4
 obtain ⟨⟨t116, t117, t118⟩, A8, H⟩ := zO H
 dsimp only at H
 obtain ⟨⟨t119, t120, t121⟩, A9, H⟩ := zO H
 dsimp only at H
 obtain ⟨⟨t122, t123, t124⟩, A10, H⟩ := zO H
 dsimp only at H
 obtain ⟨⟨t125, t126, t127⟩, A11, H⟩ := zO H
 dsimp only at H
 by_cases c12 : a1 = 0
 ·rw [if_pos c12] at H
  exact absurd H (by simp)
 rw [if_neg c12] at H
 have c12b0 := beq_eq_false_iff_ne.mpr c12
 have c12b1 := bne_iff_ne.mpr c12
 simp only [Option.some.injEq, Prod.mk.injEq] at H
 obtain ⟨rfl, rfl, rfl⟩ := H
 go_enter Try.func125, Try.ntmps125
 go_wp2_with (first | ((with_reducible refine gate_callee (f := 151) rfl ?_); refine zD (some 18) Try.func151 #[.pointer (some ⟨g, 0, none⟩)] ?_; (with_reducible refine (spec_l1Byte.calls g s0_0 s0_1 s0_2 t116 t117 t118 w0 _ ?side1 ?side2 A8.out).mono ?_); (case side1 => exact (zl11_0 HI0.out)); (case side2 => exact (zl11_2 HB.out (IsS110.ge HI0.out))); rintro e w13 ⟨rfl, hi, hb, hk⟩; refine ⟨_, rfl, ?_⟩; replace HK := Aside0.mk (KeepBut.trans (zl11_1 HK.out) hk (.inl rfl)); replace HI0 := Aside0.mk (hi); replace HB := Aside0.mk (hb); (try clear hb); (try clear hk); (try clear hi)) | ((with_reducible refine gate_callee (f := 151) rfl ?_); refine zD (some 20) Try.func151 #[.pointer (some ⟨g, 0, none⟩)] ?_; (with_reducible refine (spec_l1Byte.calls g s0_0 t117 t118 t119 t120 t121 w0 _ ?side1 ?side2 A9.out).mono ?_); (case side1 => exact (zl11_0 HI0.out)); (case side2 => exact (zl11_2 HB.out (IsS110.ge HI0.out))); rintro e w14 ⟨rfl, hi, hb, hk⟩; refine ⟨_, rfl, ?_⟩; replace HK := Aside0.mk (KeepBut.trans (zl11_1 HK.out) hk (.inl rfl)); replace HI0 := Aside0.mk (hi); replace HB := Aside0.mk (hb); (try clear hb); (try clear hk); (try clear hi)) | ((with_reducible refine gate_callee (f := 151) rfl ?_); refine zD (some 22) Try.func151 #[.pointer (some ⟨g, 0, none⟩)] ?_; (with_reducible refine (spec_l1Byte.calls g s0_0 t120 t121 t122 t123 t124 w0 _ ?side1 ?side2 A10.out).mono ?_); (case side1 => exact (zl11_0 HI0.out)); (case side2 => exact (zl11_2 HB.out (IsS110.ge HI0.out))); rintro e w15 ⟨rfl, hi, hb, hk⟩; refine ⟨_, rfl, ?_⟩; replace HK := Aside0.mk (KeepBut.trans (zl11_1 HK.out) hk (.inl rfl)); replace HI0 := Aside0.mk (hi); replace HB := Aside0.mk (hb); (try clear hb); (try clear hk); (try clear hi)) | ((with_reducible refine gate_callee (f := 151) rfl ?_); refine zD (some 24) Try.func151 #[.pointer (some ⟨g, 0, none⟩)] ?_; (with_reducible refine (spec_l1Byte.calls g s0_0 t123 t124 t125 t126 t127 w0 _ ?side1 ?side2 A11.out).mono ?_); (case side1 => exact (zl11_0 HI0.out)); (case side2 => exact (zl11_2 HB.out (IsS110.ge HI0.out))); rintro e w16 ⟨rfl, hi, hb, hk⟩; refine ⟨_, rfl, ?_⟩; replace HK := Aside0.mk (KeepBut.trans (zl11_1 HK.out) hk (.inl rfl)); replace HI0 := Aside0.mk (hi); replace HB := Aside0.mk (hb); (try clear hb); (try clear hk); (try clear hi)))
 go_ret
 exact ⟨zE, (zl11_0 HI0.out), zG (IsS110.ge HI0.out), (zl11_1 HK.out)⟩
/-! ### spec_l1Once: function 127 -/
def spec_l1Once.f (s0_0 : List Int) (s0_1 : Int) (s0_2 : Int) (a1 : Int) : Option (Bool × Int × Int) := (spec_l1Below.f s0_0 s0_1 s0_2 a1).bind fun bt128 => (some ((bt128.1 == 0), bt128.2.1, bt128.2.2))
theorem zl12_0 {p q : Prop} (g : p) (h : p → q := by intro zg_; repeat (first | (with_reducible first | exact zg_ | apply IsS110.alloc | apply IsS110.drewN | apply IsS110.drew | apply IsS110.set_1 | apply IsS110.set_2) | exact zg_)) : q := h g
theorem zl12_1 {p q p0 : Prop} (g : p) (g0 : p0) (h : p → p0 → q := by intro zg_ z0_; repeat (first | (with_reducible first | exact zg_ | apply below_alloc | apply pw_below_drewN | apply below_drew1 | refine below_set ?_ z0_) | exact zg_)) : q := h g g0
theorem zl12_2 {p q : Prop} (g : p) (h : p → q := by intro zg_; repeat (first | (with_reducible first | exact zg_ | apply KeepBut.set_ | apply keep_drewN | apply keep_drew | apply keep_alloc) | exact zg_)) : q := h g
set_option maxHeartbeats 8000000 in
set_option maxRecDepth 100000 in
theorem spec_l1Once.calls (g : Nat) (s0_0 : List Int) (s0_1 : Int) (s0_2 : Int) (a1 : Int) (r1 : Bool) (r2 : Int) (r3 : Int) (w0 w : World) (hI : IsS110 w0 w g s0_0 s0_1 s0_2) (hB : Below w0.heap.size w0 w) (h : spec_l1Once.f s0_0 s0_1 s0_2 a1 = some (r1, r2, r3)) :
  Calls Try.prog 127 #[.pointer (some ⟨g, 0, none⟩), .int .i64 a1] w fun e w' => e = .returned (.bool r1) ∧ IsS110 w0 w' g s0_0 r2 r3 ∧ Below w0.heap.size w0 w' ∧ KeepBut w w' g none := by
 have HI0 := Aside0.mk hI
 have HK := Aside0.mk (KeepBut.refl w g none)
 have HL := Aside0.mk hB.size
 clear hI
 have HW0 := Aside0.mk hB.size
 have HB := Aside0.mk hB
 clear hB
 have H : ((spec_l1Below.f s0_0 s0_1 s0_2 a1).bind fun bt128 => (some ((bt128.1 == 0), bt128.2.1, bt128.2.2))) = some (r1, r2, r3) := h
 clear h
 obtain ⟨⟨t128, t129, t130⟩, A3, H⟩ := zO H
 replace H : (some ((t128 == 0), t129, t130)) = some (r1, r2, r3) := H
 simp only [Option.some.injEq, Prod.mk.injEq] at H
 obtain ⟨rfl, rfl, rfl⟩ := H
 go_enter Try.func127, Try.ntmps127
 go_wp2_with (first | ((with_reducible refine gate_callee (f := 125) rfl ?_); refine zD (some 7) Try.func125 #[.pointer (some ⟨g, 0, none⟩), .int .i64 a1] ?_; (with_reducible refine (spec_l1Below.calls g s0_0 s0_1 s0_2 a1 t128 t129 t130 w0 _ ?side1 ?side2 A3.out).mono ?_); (case side1 => exact (zl12_0 HI0.out)); (case side2 => exact (zl12_1 HB.out (IsS110.ge HI0.out))); rintro e w4 ⟨rfl, hi, hb, hk⟩; refine ⟨_, rfl, ?_⟩; replace HK := Aside0.mk (KeepBut.trans (zl12_2 HK.out) hk (.inl rfl)); replace HI0 := Aside0.mk (hi); replace HB := Aside0.mk (hb); (try clear hb); (try clear hk); (try clear hi)))
 go_ret
 exact ⟨zE, (zl12_0 HI0.out), zG (IsS110.ge HI0.out), (zl12_2 HK.out)⟩
/-! ### spec_l2Area: function 103 -/
def spec_l2Area.f (a0_0 : Int) (a0_1 : Int) (a1_0 : Int) (a1_1 : Int) (a2_0 : Int) (a2_1 : Int) : Option (Int) := some (wrap64 ((wrap64 ((wrap64 (a1_0 - a0_0)) * (wrap64 (a2_1 - a0_1)))) - (wrap64 ((wrap64 (a1_1 - a0_1)) * (wrap64 (a2_0 - a0_0))))))
set_option maxHeartbeats 8000000 in
set_option maxRecDepth 100000 in
theorem spec_l2Area.calls (a0_0 : Int) (a0_1 : Int) (a1_0 : Int) (a1_1 : Int) (a2_0 : Int) (a2_1 : Int) (r : Int) (w : World) (h : spec_l2Area.f a0_0 a0_1 a1_0 a1_1 a2_0 a2_1 = some r) :
  Calls Try.prog 103 #[.agg #[.int .i64 a0_0, .int .i64 a0_1], .agg #[.int .i64 a1_0, .int .i64 a1_1], .agg #[.int .i64 a2_0, .int .i64 a2_1]] w fun e w' => e = .returned (.int .i64 r) ∧ Below w.heap.size w w' := by
 have hu83 := Try.underlying83
 have HB := Aside0.mk (Below.refl w.heap.size w)
 have H : (some (wrap64 ((wrap64 ((wrap64 (a1_0 - a0_0)) * (wrap64 (a2_1 - a0_1)))) - (wrap64 ((wrap64 (a1_1 - a0_1)) * (wrap64 (a2_0 - a0_0))))))) = some r := h
 clear h
 obtain rfl := Option.some.inj H
 go_enter Try.func103, Try.ntmps103
 go_wp2_with (first | ((with_reducible refine gate_dst (N := 3) rfl ?_); refine zBx (N := 3) #[.int .i64 a0_0, .int .i64 a0_1] 83 ?_; intro gb135 hg w4 hbox hb; have BK135 := Aside0.mk (hbox); have GW135 := zS hg; have GE135 := zS hg; replace HB := zX hb; clear hb hbox hg) | ((with_reducible refine gate_dst (N := 4) rfl ?_); refine zBx (N := 4) #[.int .i64 a1_0, .int .i64 a1_1] 83 ?_; intro gb136 hg w5 hbox hb; have BK136 := Aside0.mk (hbox); have GW136 := zSg hg (zG GE135.out); have GE136 := zSg hg (zG GE135.out); have NB135_136 := zL hg BK135.out; have NB136_135 := zLg hg BK135.out; replace BK135 := zV BK135.out hb; replace HB := zX1 GE135.out hb; clear hb hbox hg) | ((with_reducible refine gate_dst (N := 5) rfl ?_); refine zBx (N := 5) #[.int .i64 a2_0, .int .i64 a2_1] 83 ?_; intro gb137 hg w6 hbox hb; have BK137 := Aside0.mk (hbox); have GW137 := zSg hg (zG2 GE135.out GE136.out); have GE137 := zSg hg (zG2 GE135.out GE136.out); have NB135_137 := zL hg BK135.out; have NB137_135 := zLg hg BK135.out; replace BK135 := zV BK135.out hb; have NB136_137 := zL hg BK136.out; have NB137_136 := zLg hg BK136.out; replace BK136 := zV BK136.out hb; replace HB := Aside0.mk (below_step (zG2 GE135.out GE136.out) hb); clear hb hbox hg; have hnb7 := NB136_135.out; have hnc7 := NB135_136.out; have hnb8 := NB136_137.out; have hnc8 := NB137_136.out; obtain ⟨hcz9_0, hcz9_1, hfz9_0, hfz9_1⟩ := zq2 BK136.out; have hnb10 := NB135_137.out; have hnc10 := NB137_135.out; obtain ⟨hcz11_0, hcz11_1, hfz11_0, hfz11_1⟩ := zq2 BK135.out; obtain ⟨hcz12_0, hcz12_1, hfz12_0, hfz12_1⟩ := zq2 BK137.out))
 go_ret
 exact ⟨zE, zG3 GE135.out GE136.out GE137.out⟩
/-! ### spec_l2Fits: function 149 -/
def spec_l2Fits.f (a0_0 : Int) (a0_1 : Int) (a1 : Int) : Option (Bool) := (spec_l1In.f a0_0 (wrap64 (-a1)) a1).bind fun t139 => (if t139 = true then ((spec_l1In.f a0_1 (wrap64 (-a1)) a1).bind fun t140 => (some t140)) else (some false))
set_option maxHeartbeats 8000000 in
set_option maxRecDepth 100000 in
theorem spec_l2Fits.calls (a0_0 : Int) (a0_1 : Int) (a1 : Int) (r : Bool) (w : World) (h : spec_l2Fits.f a0_0 a0_1 a1 = some r) :
  Calls Try.prog 149 #[.agg #[.int .i64 a0_0, .int .i64 a0_1], .int .i64 a1] w fun e w' => e = .returned (.bool r) ∧ Below w.heap.size w w' := by
 have hu83 := Try.underlying83
 have HB := Aside0.mk (Below.refl w.heap.size w)
 have H : ((spec_l1In.f a0_0 (wrap64 (-a1)) a1).bind fun t139 => (if t139 = true then ((spec_l1In.f a0_1 (wrap64 (-a1)) a1).bind fun t140 => (some t140)) else (some false))) = some r := h
 clear h
 obtain ⟨t139, A3, H⟩ := zO H
 by_cases c4 : t139 = true
 ·subst c4
  replace H := (if_pos rfl).symm.trans H
  obtain ⟨t140, A5, H⟩ := zO H
  obtain rfl := Option.some.inj H
  go_enter Try.func149, Try.ntmps149
  go_wp2_with (first | ((with_reducible refine gate_dst (N := 2) rfl ?_); refine zBx (N := 2) #[.int .i64 a0_0, .int .i64 a0_1] 83 ?_; intro gb138 hg w6 hbox hb; have BK138 := Aside0.mk (hbox); have GW138 := zS hg; have GE138 := zS hg; replace HB := zX hb; clear hb hbox hg; obtain ⟨hcz7_0, hcz7_1, hfz7_0, hfz7_1⟩ := zq2 BK138.out) | ((with_reducible refine gate_callee (f := 89) rfl ?_); refine zD (some 10) Try.func89 #[.int .i64 a0_0, .int .i64 (wrap64 (-a1)), .int .i64 a1] ?_; (with_reducible refine (spec_l1In.calls a0_0 (wrap64 (-a1)) a1 true _ A3.out).mono ?_); rintro e w' ⟨rfl, ⟨nd, rfl⟩⟩; refine ⟨_, rfl, ?_⟩) | (go_at_call 89; (with_reducible refine (spec_l1In.calls a0_1 (wrap64 (-a1)) a1 t140 _ A5.out).mono ?_); rintro e w' ⟨rfl, ⟨nd, rfl⟩⟩))
  go_ret
  exact ⟨zE, zG GE138.out⟩
 replace c4 := Bool.eq_false_iff.mpr c4
 subst c4
 replace H := (if_neg zFf).symm.trans H
 obtain rfl := Option.some.inj H
 go_enter Try.func149, Try.ntmps149
 go_wp2_with (first | ((with_reducible refine gate_dst (N := 2) rfl ?_); refine zBx (N := 2) #[.int .i64 a0_0, .int .i64 a0_1] 83 ?_; intro gb138 hg w8 hbox hb; have BK138 := Aside0.mk (hbox); have GW138 := zS hg; have GE138 := zS hg; replace HB := zX hb; clear hb hbox hg; obtain ⟨hcz9_0, hcz9_1, hfz9_0, hfz9_1⟩ := zq2 BK138.out) | ((with_reducible refine gate_callee (f := 89) rfl ?_); refine zD (some 10) Try.func89 #[.int .i64 a0_0, .int .i64 (wrap64 (-a1)), .int .i64 a1] ?_; (with_reducible refine (spec_l1In.calls a0_0 (wrap64 (-a1)) a1 false _ A3.out).mono ?_); rintro e w' ⟨rfl, ⟨nd, rfl⟩⟩; refine ⟨_, rfl, ?_⟩))
 go_ret
 exact ⟨zE, zG GE138.out⟩
/-! ### spec_ArePoints: function 101 -/
mutual
def spec_ArePoints.l0 : Nat → List (S83) → Int → Option (Bool)
 | 0, _, _ => none
 | k + 1, x0, x3 => if x3 < (x0.length : Int) then (if 0 ≤ x3 then ((spec_l2Fits.f ((rd_T83 x0 x3).f0) ((rd_T83 x0 x3).f1) 50).bind fun t143 => (if t143 = true then (spec_ArePoints.l1 k x0 x3 0) else (some false))) else (none)) else (some true)
def spec_ArePoints.l1 : Nat → List (S83) → Int → Int → Option (Bool)
 | 0, _, _, _ => none
 | k + 1, x0, x3, x4 => if x4 < x3 then (spec_ArePoints.l2 k x0 x3 x4 0) else (spec_ArePoints.l0 k x0 (wrap64 (x3 + 1)))
def spec_ArePoints.l2 : Nat → List (S83) → Int → Int → Int → Option (Bool)
 | 0, _, _, _, _ => none
 | k + 1, x0, x3, x4, x5 => if x5 < x4 then (if 0 ≤ x5 then (if x5 < (x0.length : Int) then (if 0 ≤ x4 then (if x4 < (x0.length : Int) then (if 0 ≤ x3 then (if x3 < (x0.length : Int) then ((spec_l2Area.f ((rd_T83 x0 x5).f0) ((rd_T83 x0 x5).f1) ((rd_T83 x0 x4).f0) ((rd_T83 x0 x4).f1) ((rd_T83 x0 x3).f0) ((rd_T83 x0 x3).f1)).bind fun t147 => (if t147 = 0 then (some false) else (spec_ArePoints.l2 k x0 x3 x4 (wrap64 (x5 + 1))))) else (none)) else (none)) else (none)) else (none)) else (none)) else (none)) else (spec_ArePoints.l1 k x0 x3 (wrap64 (x4 + 1)))
end
def spec_ArePoints.f (k : Nat) (l0 : List (S83)) : Option (Bool) := (spec_l1In.f (l0.length : Int) 3 7).bind fun t141 => (if t141 = true then (spec_ArePoints.l0 k l0 0) else (some false))
def spec_ArePoints.T14 : Bool × List (List Nat × List Nat) := (true, [([], []), ([], []), ([0, 1], [0, 1]), ([2], [2]), ([], []), ([], []), ([4, 5], [4, 5]), ([6], [6]), ([], []), ([], []), ([8, 9], [8, 9]), ([10], [10]), ([3, 7, 11], [3, 7, 11]), ([12], [12])])
def spec_ArePoints.B14 : List Nat := [0, 0, 3, 7, 0, 0, 48, 112, 0, 0, 768, 1792, 4095, 8191]
theorem spec_ArePoints.tab14 : rtab .any (opsOf Try.f101 14) = spec_ArePoints.T14 := by kernel_rfl
theorem spec_ArePoints.bits14 : waitsOk spec_ArePoints.T14.2 spec_ArePoints.B14 = true := by kernel_rfl
set_option maxHeartbeats 8000000 in
set_option maxRecDepth 100000 in
theorem spec_ArePoints.calls (k : Nat) (A0 : Option Addr) (c0 : Nat) (l0 : List (S83)) (r : Bool) (w : World) (hr0 : Kd.C k83 w A0 l0.length l0) (hc0 : l0.length ≤ c0) (h : spec_ArePoints.f k l0 = some r) :
  Calls Try.prog 101 #[.slice A0 l0.length c0] w fun e w' => e = .returned (.bool r) ∧ Below w.heap.size w w' := by
 have hu83 := Try.underlying83
 have HR0 := Aside0.mk hr0
 have HC0 := Aside0.mk hc0
 clear hr0 hc0
 have HB := Aside0.mk (Below.refl w.heap.size w)
 have H : ((spec_l1In.f (l0.length : Int) 3 7).bind fun t141 => (if t141 = true then (spec_ArePoints.l0 k l0 0) else (some false))) = some r := h
 clear h
 obtain ⟨t141, A2, H⟩ := zO H
 by_cases c3 : t141 = true
 ·subst c3
  replace H := (if_pos rfl).symm.trans H
  have H' := Aside0.mk H; clear H
  go_enter Try.func101, Try.ntmps101
  go_wp2_with (first | ((with_reducible refine gate_callee (f := 89) rfl ?_); refine zD (some 8) Try.func89 #[.int .i64 (l0.length : Int), .int .i64 3, .int .i64 7] ?_; (with_reducible refine (spec_l1In.calls (l0.length : Int) 3 7 true _ A2.out).mono ?_); rintro e w' ⟨rfl, ⟨nd, rfl⟩⟩; refine ⟨_, rfl, ?_⟩))
  go_loopg [3] k (fun kq v3 w' => ∃ (x3_1 : Int), v3 = .int .i64 x3_1 ∧ Aside0 (spec_ArePoints.l0 kq l0 x3_1 = some r) ∧ Aside0 (kq ≤ k) ∧ Aside0 (Below w.heap.size w w'))
  case atStart => exact ⟨(0), zF, H', ⟨Nat.le_refl _⟩, ⟨zB⟩⟩
  case round =>
  clear H'
  try clear c3
  obtain ⟨x3_1, rfl, HA, HK1, HB⟩ := hrel
  cases gk with
  | zero => exact absurd HA.out (by simp [spec_ArePoints.l0])
  | succ k1 =>
  have H := HA.out
  clear HA
  simp only [spec_ArePoints.l0] at H
  by_cases c4 : x3_1 < (l0.length : Int)
  ·rw [if_pos c4] at H
   have c4b0 := decide_eq_true c4
   clear c4
   by_cases c5 : 0 ≤ x3_1
   ·rw [if_pos c5] at H
    have c5b0 := decide_eq_true c5
    clear c5
    obtain ⟨t143, A6, H⟩ := zO H
    by_cases c7 : t143 = true
    ·subst c7
     replace H := (if_pos rfl).symm.trans H
     have H' := Aside0.mk H; clear H
     have p142 : 0 ≤ (x3_1 : Int) := zA
     have q142 : x3_1 < (l0.length : Int) := zA
     obtain ⟨ad142, e142, hx142_0, hx142_1⟩ := at_T83 HR0.out x3_1 p142 q142
     cases e142
     replace hx142_0 := (HB.out.cell (World.block_lt_of_cell? w _ hx142_0)).trans hx142_0
     replace hx142_1 := (HB.out.cell (World.block_lt_of_cell? w _ hx142_1)).trans hx142_1
     replace p142 := eq_true p142
     replace q142 := eq_true q142
     go_wp2_with (first | ((with_reducible refine gate_callee (f := 149) rfl ?_); refine zD (some 20) Try.func149 #[.agg #[.int .i64 ((rd_T83 l0 x3_1).f0), .int .i64 ((rd_T83 l0 x3_1).f1)], .int .i64 50] ?_; (with_reducible refine (spec_l2Fits.calls ((rd_T83 l0 x3_1).f0) ((rd_T83 l0 x3_1).f1) 50 true _ A6.out).mono ?_); rintro e w8 ⟨rfl, hb⟩; refine ⟨_, rfl, ?_⟩; replace HB := zX hb; (try clear hb)))
     go_loopg [4] k1 (fun kq v4 w' => ∃ (x4_2 : Int), v4 = .int .i64 x4_2 ∧ Aside0 (spec_ArePoints.l1 kq l0 x3_1 x4_2 = some r) ∧ Aside0 (kq ≤ k1) ∧ Aside0 (Below w.heap.size w w'))
     case atStart => exact ⟨(0), zF, H', ⟨Nat.le_refl _⟩, ⟨zB⟩⟩
     case round =>
     clear H'
     try clear c3
     try clear c4
     try clear c4b0
     try clear c5
     try clear c5b0
     try clear c7
     try clear hx142_0
     try clear hx142_1
     try clear p142
     try clear q142
     obtain ⟨x4_2, rfl, HA, HK2, HB⟩ := hrel
     cases gk with
     | zero => exact absurd HA.out (by simp [spec_ArePoints.l1])
     | succ k2 =>
     have H := HA.out
     clear HA
     simp only [spec_ArePoints.l1] at H
     by_cases c9 : x4_2 < x3_1
     ·rw [if_pos c9] at H
      have c9b0 := decide_eq_true c9
      clear c9
      have H' := Aside0.mk H; clear H
      go_wp2
      go_loopg [5] k2 (fun kq v5 w' => ∃ (x5_3 : Int), v5 = .int .i64 x5_3 ∧ Aside0 (spec_ArePoints.l2 kq l0 x3_1 x4_2 x5_3 = some r) ∧ Aside0 (kq ≤ k2) ∧ Aside0 (Below w.heap.size w w'))
      case atStart => exact ⟨(0), zF, H', ⟨Nat.le_refl _⟩, ⟨zB⟩⟩
      case round =>
      clear H'
      try clear c3
      try clear c4
      try clear c4b0
      try clear c5
      try clear c5b0
      try clear c7
      try clear c9
      try clear c9b0
      try clear hx142_0
      try clear hx142_1
      try clear p142
      try clear q142
      obtain ⟨x5_3, rfl, HA, HK3, HB⟩ := hrel
      cases gk with
      | zero => exact absurd HA.out (by simp [spec_ArePoints.l2])
      | succ k3 =>
      have H := HA.out
      clear HA
      simp only [spec_ArePoints.l2] at H
      by_cases c10 : x5_3 < x4_2
      ·rw [if_pos c10] at H
       have c10b0 := decide_eq_true c10
       clear c10
       by_cases c11 : 0 ≤ x5_3
       ·rw [if_pos c11] at H
        have c11b0 := decide_eq_true c11
        clear c11
        by_cases c12 : x5_3 < (l0.length : Int)
        ·rw [if_pos c12] at H
         have c12b0 := decide_eq_true c12
         clear c12
         by_cases c13 : 0 ≤ x4_2
         ·rw [if_pos c13] at H
          have c13b0 := decide_eq_true c13
          clear c13
          by_cases c14 : x4_2 < (l0.length : Int)
          ·rw [if_pos c14] at H
           have c14b0 := decide_eq_true c14
           clear c14
           by_cases c15 : 0 ≤ x3_1
           ·rw [if_pos c15] at H
            have c15b0 := decide_eq_true c15
            clear c15
            by_cases c16 : x3_1 < (l0.length : Int)
            ·rw [if_pos c16] at H
             have c16b0 := decide_eq_true c16
             clear c16
             obtain ⟨t147, A17, H⟩ := zO H
             by_cases c18 : t147 = 0
             ·rw [if_pos c18] at H
              have c18b0 := beq_iff_eq.mpr c18
              have c18b1 := bne_eq_false_iff_eq.mpr c18
              clear c18
              obtain rfl := Option.some.inj H
              try go_wp2
              replace HB := Aside0.mk (below_drew1 HB.out)
              have p144 : 0 ≤ (x5_3 : Int) := zA
              have q144 : x5_3 < (l0.length : Int) := zA
              obtain ⟨ad144, e144, hx144_0, hx144_1⟩ := at_T83 HR0.out x5_3 p144 q144
              have hw144_1 := hx144_1
              have hw144_0 := hx144_0
              obtain rfl : ad142 = ad144 := (by injection e144)
              replace hx144_0 := (HB.out.cell (World.block_lt_of_cell? w _ hx144_0)).trans hx144_0
              replace hx144_1 := (HB.out.cell (World.block_lt_of_cell? w _ hx144_1)).trans hx144_1
              replace p144 := eq_true p144
              replace q144 := eq_true q144
              have p145 : 0 ≤ (x4_2 : Int) := zA
              have q145 : x4_2 < (l0.length : Int) := zA
              obtain ⟨ad145, e145, hx145_0, hx145_1⟩ := at_T83 HR0.out x4_2 p145 q145
              have hw145_1 := hx145_1
              have hw145_0 := hx145_0
              obtain rfl : ad142 = ad145 := (by injection e145)
              replace hx145_0 := (HB.out.cell (World.block_lt_of_cell? w _ hx145_0)).trans hx145_0
              replace hx145_1 := (HB.out.cell (World.block_lt_of_cell? w _ hx145_1)).trans hx145_1
              replace p145 := eq_true p145
              replace q145 := eq_true q145
              have p146 : 0 ≤ (x3_1 : Int) := zA
              have q146 : x3_1 < (l0.length : Int) := zA
              obtain ⟨ad146, e146, hx146_0, hx146_1⟩ := at_T83 HR0.out x3_1 p146 q146
              have hw146_1 := hx146_1
              have hw146_0 := hx146_0
              obtain rfl : ad142 = ad146 := (by injection e146)
              replace hx146_0 := (HB.out.cell (World.block_lt_of_cell? w _ hx146_0)).trans hx146_0
              replace hx146_1 := (HB.out.cell (World.block_lt_of_cell? w _ hx146_1)).trans hx146_1
              replace p146 := eq_true p146
              replace q146 := eq_true q146
              refine start_ (n := 14) (S := fun w' => w'.cell? (ad142.add ((x5_3).toNat * 2)) = some (.int .i64 ((rd_T83 l0 x5_3).f0)) ∧ w'.cell? ⟨(ad142.add ((x5_3).toNat * 2)).block, (ad142.add ((x5_3).toNat * 2)).off + 1, none⟩ = some (.int .i64 ((rd_T83 l0 x5_3).f1)) ∧ w'.cell? (ad142.add ((x4_2).toNat * 2)) = some (.int .i64 ((rd_T83 l0 x4_2).f0)) ∧ w'.cell? ⟨(ad142.add ((x4_2).toNat * 2)).block, (ad142.add ((x4_2).toNat * 2)).off + 1, none⟩ = some (.int .i64 ((rd_T83 l0 x4_2).f1)) ∧ w'.cell? (ad142.add ((x3_1).toNat * 2)) = some (.int .i64 ((rd_T83 l0 x3_1).f0)) ∧ w'.cell? ⟨(ad142.add ((x3_1).toNat * 2)).block, (ad142.add ((x3_1).toNat * 2)).off + 1, none⟩ = some (.int .i64 ((rd_T83 l0 x3_1).f1))) (ds := []) #[false, false, false, false, false, false, false, false, false, false, false, false, false, false] (by kernel_rfl) rfl rfl ⟨((HB.out.cell (World.block_lt_of_cell? w _ hw144_0)).trans hw144_0), ((HB.out.cell (World.block_lt_of_cell? w _ hw144_1)).trans hw144_1), ((HB.out.cell (World.block_lt_of_cell? w _ hw145_0)).trans hw145_0), ((HB.out.cell (World.block_lt_of_cell? w _ hw145_1)).trans hw145_1), ((HB.out.cell (World.block_lt_of_cell? w _ hw146_0)).trans hw146_0), ((HB.out.cell (World.block_lt_of_cell? w _ hw146_1)).trans hw146_1)⟩ (fun hHeld => ?_); refine with_tabW spec_ArePoints.tab14 spec_ArePoints.bits14 (fun HT_ HW_ => ?_)
              generalize wr.drew = w19 at HB hx144_0 hx144_1 hx145_0 hx145_1 hx146_0 hx146_1 hHeld ⊢
              refine zP 0 (some 32) rfl rfl ?_
              refine zP 1 (some 33) rfl rfl ?_
              refine zP 2 (some 34) rfl rfl ?_
              refine zP 4 (some 36) rfl rfl ?_
              refine zP 5 (some 37) rfl rfl ?_
              refine zP 6 (some 38) rfl rfl ?_
              refine zP 8 (some 40) rfl rfl ?_
              refine zP 9 (some 41) rfl rfl ?_
              refine zP 10 (some 42) rfl rfl ?_
              refine zY6 3 (some 35) rfl rfl hHeld ?_
              refine zY6 7 (some 39) rfl rfl hHeld ?_
              refine zY6 11 (some 43) rfl rfl hHeld ?_
              refine zU 12 (some 44) rfl rfl (fun K hK => ?_)
              refine goes_ Try.func103 (by kernel_rfl) rfl #[.agg #[.int .i64 ((rd_T83 l0 x5_3).f0), .int .i64 ((rd_T83 l0 x5_3).f1)], .agg #[.int .i64 ((rd_T83 l0 x4_2).f0), .int .i64 ((rd_T83 l0 x4_2).f1)], .agg #[.int .i64 ((rd_T83 l0 x3_1).f0), .int .i64 ((rd_T83 l0 x3_1).f1)]] (by rfl) rfl rfl zM ?_
              with_reducible refine (spec_l2Area.calls ((rd_T83 l0 x5_3).f0) ((rd_T83 l0 x5_3).f1) ((rd_T83 l0 x4_2).f0) ((rd_T83 l0 x4_2).f1) ((rd_T83 l0 x3_1).f0) ((rd_T83 l0 x3_1).f1) t147 _ A17.out).mono ?_
              rintro e w20 ⟨rfl, hb⟩
              refine ⟨_, rfl, ?_⟩
              replace HB := zX hb
              (try clear hb)
              refine hK.out _ _ ⟨((HB.out.cell (World.block_lt_of_cell? w _ hw144_0)).trans hw144_0), ((HB.out.cell (World.block_lt_of_cell? w _ hw144_1)).trans hw144_1), ((HB.out.cell (World.block_lt_of_cell? w _ hw145_0)).trans hw145_0), ((HB.out.cell (World.block_lt_of_cell? w _ hw145_1)).trans hw145_1), ((HB.out.cell (World.block_lt_of_cell? w _ hw146_0)).trans hw146_0), ((HB.out.cell (World.block_lt_of_cell? w _ hw146_1)).trans hw146_1)⟩ (fun hHeld => ?_)
              clear hK K
              refine zN ?_
              refine zP 13 (some 45) rfl rfl ?_
              refine done_ (done_of HT_.out (by kernel_rfl)) ?_
              try go_wp2
              go_ret
              exact ⟨zE, zB⟩
             rw [if_neg c18] at H
             have c18b0 := beq_eq_false_iff_ne.mpr c18
             have c18b1 := bne_iff_ne.mpr c18
             have H' := Aside0.mk H; clear H
             try go_wp2
             replace HB := Aside0.mk (below_drew1 HB.out)
             have p144 : 0 ≤ (x5_3 : Int) := zA
             have q144 : x5_3 < (l0.length : Int) := zA
             obtain ⟨ad144, e144, hx144_0, hx144_1⟩ := at_T83 HR0.out x5_3 p144 q144
             have hw144_1 := hx144_1
             have hw144_0 := hx144_0
             obtain rfl : ad142 = ad144 := (by injection e144)
             replace hx144_0 := (HB.out.cell (World.block_lt_of_cell? w _ hx144_0)).trans hx144_0
             replace hx144_1 := (HB.out.cell (World.block_lt_of_cell? w _ hx144_1)).trans hx144_1
             replace p144 := eq_true p144
             replace q144 := eq_true q144
             have p145 : 0 ≤ (x4_2 : Int) := zA
             have q145 : x4_2 < (l0.length : Int) := zA
             obtain ⟨ad145, e145, hx145_0, hx145_1⟩ := at_T83 HR0.out x4_2 p145 q145
             have hw145_1 := hx145_1
             have hw145_0 := hx145_0
             obtain rfl : ad142 = ad145 := (by injection e145)
             replace hx145_0 := (HB.out.cell (World.block_lt_of_cell? w _ hx145_0)).trans hx145_0
             replace hx145_1 := (HB.out.cell (World.block_lt_of_cell? w _ hx145_1)).trans hx145_1
             replace p145 := eq_true p145
             replace q145 := eq_true q145
             have p146 : 0 ≤ (x3_1 : Int) := zA
             have q146 : x3_1 < (l0.length : Int) := zA
             obtain ⟨ad146, e146, hx146_0, hx146_1⟩ := at_T83 HR0.out x3_1 p146 q146
             have hw146_1 := hx146_1
             have hw146_0 := hx146_0
             obtain rfl : ad142 = ad146 := (by injection e146)
             replace hx146_0 := (HB.out.cell (World.block_lt_of_cell? w _ hx146_0)).trans hx146_0
             replace hx146_1 := (HB.out.cell (World.block_lt_of_cell? w _ hx146_1)).trans hx146_1
             replace p146 := eq_true p146
             replace q146 := eq_true q146
             refine start_ (n := 14) (S := fun w' => w'.cell? (ad142.add ((x5_3).toNat * 2)) = some (.int .i64 ((rd_T83 l0 x5_3).f0)) ∧ w'.cell? ⟨(ad142.add ((x5_3).toNat * 2)).block, (ad142.add ((x5_3).toNat * 2)).off + 1, none⟩ = some (.int .i64 ((rd_T83 l0 x5_3).f1)) ∧ w'.cell? (ad142.add ((x4_2).toNat * 2)) = some (.int .i64 ((rd_T83 l0 x4_2).f0)) ∧ w'.cell? ⟨(ad142.add ((x4_2).toNat * 2)).block, (ad142.add ((x4_2).toNat * 2)).off + 1, none⟩ = some (.int .i64 ((rd_T83 l0 x4_2).f1)) ∧ w'.cell? (ad142.add ((x3_1).toNat * 2)) = some (.int .i64 ((rd_T83 l0 x3_1).f0)) ∧ w'.cell? ⟨(ad142.add ((x3_1).toNat * 2)).block, (ad142.add ((x3_1).toNat * 2)).off + 1, none⟩ = some (.int .i64 ((rd_T83 l0 x3_1).f1))) (ds := []) #[false, false, false, false, false, false, false, false, false, false, false, false, false, false] (by kernel_rfl) rfl rfl ⟨((HB.out.cell (World.block_lt_of_cell? w _ hw144_0)).trans hw144_0), ((HB.out.cell (World.block_lt_of_cell? w _ hw144_1)).trans hw144_1), ((HB.out.cell (World.block_lt_of_cell? w _ hw145_0)).trans hw145_0), ((HB.out.cell (World.block_lt_of_cell? w _ hw145_1)).trans hw145_1), ((HB.out.cell (World.block_lt_of_cell? w _ hw146_0)).trans hw146_0), ((HB.out.cell (World.block_lt_of_cell? w _ hw146_1)).trans hw146_1)⟩ (fun hHeld => ?_); refine with_tabW spec_ArePoints.tab14 spec_ArePoints.bits14 (fun HT_ HW_ => ?_)
             generalize wr.drew = w21 at HB hx144_0 hx144_1 hx145_0 hx145_1 hx146_0 hx146_1 hHeld ⊢
             refine zP 0 (some 32) rfl rfl ?_
             refine zP 1 (some 33) rfl rfl ?_
             refine zP 2 (some 34) rfl rfl ?_
             refine zP 4 (some 36) rfl rfl ?_
             refine zP 5 (some 37) rfl rfl ?_
             refine zP 6 (some 38) rfl rfl ?_
             refine zP 8 (some 40) rfl rfl ?_
             refine zP 9 (some 41) rfl rfl ?_
             refine zP 10 (some 42) rfl rfl ?_
             refine zY6 3 (some 35) rfl rfl hHeld ?_
             refine zY6 7 (some 39) rfl rfl hHeld ?_
             refine zY6 11 (some 43) rfl rfl hHeld ?_
             refine zU 12 (some 44) rfl rfl (fun K hK => ?_)
             refine goes_ Try.func103 (by kernel_rfl) rfl #[.agg #[.int .i64 ((rd_T83 l0 x5_3).f0), .int .i64 ((rd_T83 l0 x5_3).f1)], .agg #[.int .i64 ((rd_T83 l0 x4_2).f0), .int .i64 ((rd_T83 l0 x4_2).f1)], .agg #[.int .i64 ((rd_T83 l0 x3_1).f0), .int .i64 ((rd_T83 l0 x3_1).f1)]] (by rfl) rfl rfl zM ?_
             with_reducible refine (spec_l2Area.calls ((rd_T83 l0 x5_3).f0) ((rd_T83 l0 x5_3).f1) ((rd_T83 l0 x4_2).f0) ((rd_T83 l0 x4_2).f1) ((rd_T83 l0 x3_1).f0) ((rd_T83 l0 x3_1).f1) t147 _ A17.out).mono ?_
             rintro e w22 ⟨rfl, hb⟩
             refine ⟨_, rfl, ?_⟩
             replace HB := zX hb
             (try clear hb)
             refine hK.out _ _ ⟨((HB.out.cell (World.block_lt_of_cell? w _ hw144_0)).trans hw144_0), ((HB.out.cell (World.block_lt_of_cell? w _ hw144_1)).trans hw144_1), ((HB.out.cell (World.block_lt_of_cell? w _ hw145_0)).trans hw145_0), ((HB.out.cell (World.block_lt_of_cell? w _ hw145_1)).trans hw145_1), ((HB.out.cell (World.block_lt_of_cell? w _ hw146_0)).trans hw146_0), ((HB.out.cell (World.block_lt_of_cell? w _ hw146_1)).trans hw146_1)⟩ (fun hHeld => ?_)
             clear hK K
             refine zN ?_
             refine zP 13 (some 45) rfl rfl ?_
             refine done_ (done_of HT_.out (by kernel_rfl)) ?_
             try go_wp2
             go_roundg k3
             case measure => have := HK1.out; have := HK2.out; have := HK3.out; omega
             case rel => exact ⟨(wrap64 (x5_3 + 1)), zF, H', ⟨by have := HK1.out; have := HK2.out; have := HK3.out; omega⟩, ⟨zB⟩⟩
            rw [if_neg c16] at H
            exact absurd H (by simp)
           rw [if_neg c15] at H
           exact absurd H (by simp)
          rw [if_neg c14] at H
          exact absurd H (by simp)
         rw [if_neg c13] at H
         exact absurd H (by simp)
        rw [if_neg c12] at H
        exact absurd H (by simp)
       rw [if_neg c11] at H
       exact absurd H (by simp)
      rw [if_neg c10] at H
      have c10b0 := decide_eq_false c10
      clear c10
      have H' := Aside0.mk H; clear H
      go_wp2
      go_roundg k3
      case measure => have := HK1.out; have := HK2.out; have := HK3.out; omega
      case rel => exact ⟨(wrap64 (x4_2 + 1)), zF, H', ⟨by have := HK1.out; have := HK2.out; have := HK3.out; omega⟩, ⟨zB⟩⟩
     rw [if_neg c9] at H
     have c9b0 := decide_eq_false c9
     clear c9
     have H' := Aside0.mk H; clear H
     go_wp2
     go_roundg k2
     case measure => have := HK1.out; have := HK2.out; omega
     case rel => exact ⟨(wrap64 (x3_1 + 1)), zF, H', ⟨by have := HK1.out; have := HK2.out; omega⟩, ⟨zB⟩⟩
    replace c7 := Bool.eq_false_iff.mpr c7
    subst c7
    replace H := (if_neg zFf).symm.trans H
    obtain rfl := Option.some.inj H
    have p142 : 0 ≤ (x3_1 : Int) := zA
    have q142 : x3_1 < (l0.length : Int) := zA
    obtain ⟨ad142, e142, hx142_0, hx142_1⟩ := at_T83 HR0.out x3_1 p142 q142
    cases e142
    replace hx142_0 := (HB.out.cell (World.block_lt_of_cell? w _ hx142_0)).trans hx142_0
    replace hx142_1 := (HB.out.cell (World.block_lt_of_cell? w _ hx142_1)).trans hx142_1
    replace p142 := eq_true p142
    replace q142 := eq_true q142
    go_wp2_with (first | ((with_reducible refine gate_callee (f := 149) rfl ?_); refine zD (some 20) Try.func149 #[.agg #[.int .i64 ((rd_T83 l0 x3_1).f0), .int .i64 ((rd_T83 l0 x3_1).f1)], .int .i64 50] ?_; (with_reducible refine (spec_l2Fits.calls ((rd_T83 l0 x3_1).f0) ((rd_T83 l0 x3_1).f1) 50 false _ A6.out).mono ?_); rintro e w23 ⟨rfl, hb⟩; refine ⟨_, rfl, ?_⟩; replace HB := zX hb; (try clear hb)))
    go_ret
    exact ⟨zE, zB⟩
   rw [if_neg c5] at H
   exact absurd H (by simp)
  rw [if_neg c4] at H
  have c4b0 := decide_eq_false c4
  clear c4
  obtain rfl := Option.some.inj H
  go_wp2
  go_ret
  exact ⟨zE, zB⟩
 replace c3 := Bool.eq_false_iff.mpr c3
 subst c3
 replace H := (if_neg zFf).symm.trans H
 obtain rfl := Option.some.inj H
 go_enter Try.func101, Try.ntmps101
 go_wp2_with (first | ((with_reducible refine gate_callee (f := 89) rfl ?_); refine zD (some 8) Try.func89 #[.int .i64 (l0.length : Int), .int .i64 3, .int .i64 7] ?_; (with_reducible refine (spec_l1In.calls (l0.length : Int) 3 7 false _ A2.out).mono ?_); rintro e w' ⟨rfl, ⟨nd, rfl⟩⟩; refine ⟨_, rfl, ?_⟩))
 go_ret
 exact ⟨zE, zB⟩
/-! ### spec_l3Byte: function 102 -/
def spec_l3Byte.f (a0 : Int) : Option (ByteArray) := if a0 > 0 then (some (⟨#[43]⟩ : ByteArray)) else (some (⟨#[45]⟩ : ByteArray))
set_option maxHeartbeats 8000000 in
set_option maxRecDepth 100000 in
theorem spec_l3Byte.calls (a0 : Int) (r : ByteArray) (w : World) (h : spec_l3Byte.f a0 = some r) :
  Calls Try.prog 102 #[.int .i64 a0] w fun e w' => e = .returned (.string r) ∧ Drawn0 w w' := by
 have H : (if a0 > 0 then (some (⟨#[43]⟩ : ByteArray)) else (some (⟨#[45]⟩ : ByteArray))) = some r := h
 clear h
 by_cases c2 : a0 > 0
 ·rw [if_pos c2] at H
  have c2b0 : decide (0 < a0) = true := decide_eq_true c2
  clear c2
  obtain rfl := Option.some.inj H
  go_enter Try.func102, Try.ntmps102
  go_wp2
  go_ret
  exact ⟨by first | rfl | (simp; done) | (simp [*]; done), by repeat (first | exact Drawn0.refl _ | apply Drawn0.step)⟩
 rw [if_neg c2] at H
 have c2b0 : decide (0 < a0) = false := decide_eq_false c2
 clear c2
 obtain rfl := Option.some.inj H
 go_enter Try.func102, Try.ntmps102
 go_wp2
 go_ret
 exact ⟨by first | rfl | (simp; done) | (simp [*]; done), by repeat (first | exact Drawn0.refl _ | apply Drawn0.step)⟩
/-! ### spec_SignsOf: function 27 -/
mutual
def spec_SignsOf.l0 : Nat → List (S83) → Int → Int → ByteArray → Option (Int × ByteArray × Bool)
 | 0, _, _, _, _ => none
 | k + 1, x0, x5, x151000, x151001 => if x5 < (x0.length : Int) then (spec_SignsOf.l1 k x0 x5 (wrap64 (x5 + 1)) x151000 x151001) else (some (x151000, x151001, true))
def spec_SignsOf.l1 : Nat → List (S83) → Int → Int → Int → ByteArray → Option (Int × ByteArray × Bool)
 | 0, _, _, _, _, _ => none
 | k + 1, x0, x5, x6, x151000, x151001 => if x6 < (x0.length : Int) then (spec_SignsOf.l2 k x0 x5 x6 (wrap64 (x6 + 1)) x151000 x151001) else (spec_SignsOf.l0 k x0 (wrap64 (x5 + 1)) x151000 x151001)
def spec_SignsOf.l2 : Nat → List (S83) → Int → Int → Int → Int → ByteArray → Option (Int × ByteArray × Bool)
 | 0, _, _, _, _, _, _ => none
 | k + 1, x0, x5, x6, x7, x151000, x151001 => if x7 < (x0.length : Int) then (if 0 ≤ x5 then (if x5 < (x0.length : Int) then (if 0 ≤ x6 then (if x6 < (x0.length : Int) then (if 0 ≤ x7 then ((spec_l2Area.f ((rd_T83 x0 x5).f0) ((rd_T83 x0 x5).f1) ((rd_T83 x0 x6).f0) ((rd_T83 x0 x6).f1) ((rd_T83 x0 x7).f0) ((rd_T83 x0 x7).f1)).bind fun t154 => ((spec_l3Byte.f t154).bind fun t155 => (if x151001.size + t155.size ≤ 9223372036854775807 then (spec_SignsOf.l2 k x0 x5 x6 (wrap64 (x7 + 1)) x151000 (x151001 ++ t155)) else (none)))) else (none)) else (none)) else (none)) else (none)) else (none)) else (spec_SignsOf.l1 k x0 x5 (wrap64 (x6 + 1)) x151000 x151001)
end
def spec_SignsOf.f (k : Nat) (l0 : List (S83)) : Option (Int × ByteArray × Bool) := (spec_ArePoints.f k l0).bind fun t149 => (if t149 = true then (spec_SignsOf.l0 k l0 0 (l0.length : Int) (⟨#[]⟩ : ByteArray)) else (some (0, (⟨#[]⟩ : ByteArray), false)))
def spec_SignsOf.T13 : Bool × List (List Nat × List Nat) := (true, [([], []), ([0], [0]), ([], []), ([], []), ([2, 3], [2, 3]), ([4], [4]), ([], []), ([], []), ([6, 7], [6, 7]), ([8], [8]), ([], []), ([], []), ([10, 11], [10, 11]), ([12], [12]), ([5, 9, 13], [5, 9, 13]), ([14, 14], [14]), ([1, 15], [1, 15]), ([0, 1, 2, 3, 4, 5, 6, 7, 8, 9, 10, 11, 12, 13, 14, 15, 16], []), ([17, 16, 15, 0, 1, 2, 3, 4, 5, 6, 7, 8, 9, 10, 11, 12, 13, 14, 15, 16], [16, 17])])
def spec_SignsOf.B13 : List Nat := [0, 1, 0, 0, 12, 28, 0, 0, 192, 448, 0, 0, 3072, 7168, 16380, 32764, 65535, 131071, 262143]
theorem spec_SignsOf.tab13 : rtab .any (opsOf Try.f27 13) = spec_SignsOf.T13 := by kernel_rfl
theorem spec_SignsOf.bits13 : waitsOk spec_SignsOf.T13.2 spec_SignsOf.B13 = true := by kernel_rfl
set_option maxHeartbeats 8000000 in
set_option maxRecDepth 100000 in
theorem spec_SignsOf.calls (k : Nat) (A0 : Option Addr) (c0 : Nat) (l0 : List (S83)) (r1 : Int) (r2 : ByteArray) (r3 : Bool) (w : World) (hr0 : Kd.C k83 w A0 l0.length l0) (hc0 : l0.length ≤ c0) (h : spec_SignsOf.f k l0 = some (r1, r2, r3)) :
  Calls Try.prog 27 #[.slice A0 l0.length c0] w fun e w' => e = .returned (.tuple #[.agg #[.int .i64 r1, .string r2], .bool r3]) ∧ Below w.heap.size w w' := by
 have hu25 := Try.underlying25
 have hu83 := Try.underlying83
 have HR0 := Aside0.mk hr0
 have HC0 := Aside0.mk hc0
 clear hr0 hc0
 have HB := Aside0.mk (Below.refl w.heap.size w)
 have H : ((spec_ArePoints.f k l0).bind fun t149 => (if t149 = true then (spec_SignsOf.l0 k l0 0 (l0.length : Int) (⟨#[]⟩ : ByteArray)) else (some (0, (⟨#[]⟩ : ByteArray), false)))) = some (r1, r2, r3) := h
 clear h
 obtain ⟨t149, A2, H⟩ := zO H
 by_cases c3 : t149 = true
 ·subst c3
  replace H := (if_pos rfl).symm.trans H
  have H' := Aside0.mk H; clear H
  go_enter Try.func27, Try.ntmps27
  go_wp2_with (first | ((with_reducible refine gate_dst (N := 2) rfl ?_); refine zBx (N := 2) #[.int .i64 0, .string (⟨#[]⟩ : ByteArray)] 25 ?_; intro gb148 hg w4 hbox hb; have BK148 := Aside0.mk (hbox); have GW148 := zS hg; have GE148 := zS hg; replace HB := zX hb; clear hb hbox hg) | ((with_reducible refine gate_callee (f := 101) rfl ?_); refine zD (some 9) Try.func101 #[.slice A0 l0.length c0] ?_; (with_reducible refine (spec_ArePoints.calls k _ _ l0 true _ ?side1 ?side2 A2.out).mono ?_); (case side1 => repeat (first | exact (Kd.C_below HR0.out HB.out) | (with_reducible refine Kd.C_alloc ?_ _) | (with_reducible refine Kd.C_drewN ?_ _) | (with_reducible refine Kd.C_drew ?_))); (case side2 => exact HC0.out); rintro e w5 ⟨rfl, hb⟩; refine ⟨_, rfl, ?_⟩; replace BK148 := zV BK148.out hb; replace HB := zX1 GE148.out hb; (try clear hb)) | ((with_reducible refine gate_dst (N := 4) rfl ?_); refine zBx (N := 4) #[.int .i64 0, .string (⟨#[]⟩ : ByteArray)] 25 ?_; intro gb150 hg w6 hbox hb; have BK150 := Aside0.mk (hbox); have GW150 := zSg hg (zG GE148.out); have GE150 := zSg hg (zG GE148.out); have NB148_150 := zL hg BK148.out; have NB150_148 := zLg hg BK148.out; replace BK148 := zV BK148.out hb; replace HB := zX1 GE148.out hb; clear hb hbox hg; have hnb7 := NB150_148.out; have hnc7 := NB148_150.out; obtain ⟨hcz8_0, hcz8_1, hfz8_0, hfz8_1⟩ := zq2 BK150.out))
  go_loopg [5] k (fun kq v5 w' => ∃ (x5_1 : Int) (x151001_1 : ByteArray), v5 = .int .i64 x5_1 ∧ Aside0 (spec_SignsOf.l0 kq l0 x5_1 (l0.length : Int) x151001_1 = some (r1, r2, r3)) ∧ Aside0 (kq ≤ k) ∧ Aside0 (w'.heap[gb148]? = some (.cells #[.int .i64 0, .string (⟨#[]⟩ : ByteArray)] 25 (0, 0))) ∧ Aside0 (w'.heap[gb150]? = some (.cells #[.int .i64 (l0.length : Int), .string x151001_1] 25 (0, 0))) ∧ Aside0 (Below w.heap.size w w'))
  case atStart => exact ⟨(0), ((⟨#[]⟩ : ByteArray)), zF, H', ⟨Nat.le_refl _⟩, ⟨zk2 BK148.out NB148_150.out NB148_150.out⟩, ⟨zk0 BK150.out⟩, ⟨zG2 GE148.out GE150.out⟩⟩
  case round =>
  clear H'
  try clear c3
  try clear hcz8_0
  try clear hcz8_1
  try clear hfz8_0
  try clear hfz8_1
  obtain ⟨x5_1, x151001_1, rfl, HA, HK1, BK148, BK150, HB⟩ := hrel
  cases gk with
  | zero => exact absurd HA.out (by simp [spec_SignsOf.l0])
  | succ k1 =>
  have H := HA.out
  clear HA
  simp only [spec_SignsOf.l0] at H
  by_cases c9 : x5_1 < (l0.length : Int)
  ·rw [if_pos c9] at H
   have c9b0 := decide_eq_true c9
   clear c9
   have H' := Aside0.mk H; clear H
   go_wp2
   go_loopg [6] k1 (fun kq v6 w' => ∃ (x6_2 : Int) (x151001_2 : ByteArray), v6 = .int .i64 x6_2 ∧ Aside0 (spec_SignsOf.l1 kq l0 x5_1 x6_2 (l0.length : Int) x151001_2 = some (r1, r2, r3)) ∧ Aside0 (kq ≤ k1) ∧ Aside0 (w'.heap[gb148]? = some (.cells #[.int .i64 0, .string (⟨#[]⟩ : ByteArray)] 25 (0, 0))) ∧ Aside0 (w'.heap[gb150]? = some (.cells #[.int .i64 (l0.length : Int), .string x151001_2] 25 (0, 0))) ∧ Aside0 (Below w.heap.size w w'))
   case atStart => exact ⟨(wrap64 (x5_1 + 1)), (x151001_1), zF, H', ⟨Nat.le_refl _⟩, ⟨zK BK148.out⟩, ⟨zK BK150.out⟩, ⟨zG2 GE148.out GE150.out⟩⟩
   case round =>
   clear H'
   try clear c3
   try clear c9
   try clear c9b0
   try clear hcz8_0
   try clear hcz8_1
   try clear hfz8_0
   try clear hfz8_1
   obtain ⟨x6_2, x151001_2, rfl, HA, HK2, BK148, BK150, HB⟩ := hrel
   cases gk with
   | zero => exact absurd HA.out (by simp [spec_SignsOf.l1])
   | succ k2 =>
   have H := HA.out
   clear HA
   simp only [spec_SignsOf.l1] at H
   by_cases c10 : x6_2 < (l0.length : Int)
   ·rw [if_pos c10] at H
    have c10b0 := decide_eq_true c10
    clear c10
    have H' := Aside0.mk H; clear H
    go_wp2
    go_loopg [7] k2 (fun kq v7 w' => ∃ (x7_3 : Int) (x151001_3 : ByteArray), v7 = .int .i64 x7_3 ∧ Aside0 (spec_SignsOf.l2 kq l0 x5_1 x6_2 x7_3 (l0.length : Int) x151001_3 = some (r1, r2, r3)) ∧ Aside0 (kq ≤ k2) ∧ Aside0 (w'.heap[gb148]? = some (.cells #[.int .i64 0, .string (⟨#[]⟩ : ByteArray)] 25 (0, 0))) ∧ Aside0 (w'.heap[gb150]? = some (.cells #[.int .i64 (l0.length : Int), .string x151001_3] 25 (0, 0))) ∧ Aside0 (Below w.heap.size w w'))
    case atStart => exact ⟨(wrap64 (x6_2 + 1)), (x151001_2), zF, H', ⟨Nat.le_refl _⟩, ⟨zK BK148.out⟩, ⟨zK BK150.out⟩, ⟨zG2 GE148.out GE150.out⟩⟩
    case round =>
    clear H'
    try clear c3
    try clear c9
    try clear c9b0
    try clear c10
    try clear c10b0
    try clear hcz8_0
    try clear hcz8_1
    try clear hfz8_0
    try clear hfz8_1
    obtain ⟨x7_3, x151001_3, rfl, HA, HK3, BK148, BK150, HB⟩ := hrel
    cases gk with
    | zero => exact absurd HA.out (by simp [spec_SignsOf.l2])
    | succ k3 =>
    have H := HA.out
    clear HA
    simp only [spec_SignsOf.l2] at H
    by_cases c11 : x7_3 < (l0.length : Int)
    ·rw [if_pos c11] at H
     have c11b0 := decide_eq_true c11
     clear c11
     by_cases c12 : 0 ≤ x5_1
     ·rw [if_pos c12] at H
      have c12b0 := decide_eq_true c12
      clear c12
      by_cases c13 : x5_1 < (l0.length : Int)
      ·rw [if_pos c13] at H
       have c13b0 := decide_eq_true c13
       clear c13
       by_cases c14 : 0 ≤ x6_2
       ·rw [if_pos c14] at H
        have c14b0 := decide_eq_true c14
        clear c14
        by_cases c15 : x6_2 < (l0.length : Int)
        ·rw [if_pos c15] at H
         have c15b0 := decide_eq_true c15
         clear c15
         by_cases c16 : 0 ≤ x7_3
         ·rw [if_pos c16] at H
          have c16b0 := decide_eq_true c16
          clear c16
          obtain ⟨t154, A17, H⟩ := zO H
          obtain ⟨t155, A18, H⟩ := zO H
          by_cases c19 : x151001_3.size + t155.size ≤ 9223372036854775807
          ·rw [if_pos c19] at H
           have c19b0 := eq_true c19
           have c19b1 := decide_eq_true c19
           try have c19b2 : (9223372036854775807 < x151001_3.size + t155.size) = False := eq_false (Nat.not_lt.2 c19)
           have H' := Aside0.mk H; clear H
           try go_wp2
           replace BK148 := Aside0.mk (blk_drew BK148.out)
           replace BK150 := Aside0.mk (blk_drew BK150.out)
           replace HB := Aside0.mk (below_drew1 HB.out)
           have p151 : 0 ≤ (x5_1 : Int) := zA
           have q151 : x5_1 < (l0.length : Int) := zA
           obtain ⟨ad151, e151, hx151_0, hx151_1⟩ := at_T83 HR0.out x5_1 p151 q151
           have hw151_1 := hx151_1
           have hw151_0 := hx151_0
           cases e151
           replace hx151_0 := (HB.out.cell (World.block_lt_of_cell? w _ hx151_0)).trans hx151_0
           replace hx151_1 := (HB.out.cell (World.block_lt_of_cell? w _ hx151_1)).trans hx151_1
           replace p151 := eq_true p151
           replace q151 := eq_true q151
           have p152 : 0 ≤ (x6_2 : Int) := zA
           have q152 : x6_2 < (l0.length : Int) := zA
           obtain ⟨ad152, e152, hx152_0, hx152_1⟩ := at_T83 HR0.out x6_2 p152 q152
           have hw152_1 := hx152_1
           have hw152_0 := hx152_0
           obtain rfl : ad151 = ad152 := (by injection e152)
           replace hx152_0 := (HB.out.cell (World.block_lt_of_cell? w _ hx152_0)).trans hx152_0
           replace hx152_1 := (HB.out.cell (World.block_lt_of_cell? w _ hx152_1)).trans hx152_1
           replace p152 := eq_true p152
           replace q152 := eq_true q152
           have p153 : 0 ≤ (x7_3 : Int) := zA
           have q153 : x7_3 < (l0.length : Int) := zA
           obtain ⟨ad153, e153, hx153_0, hx153_1⟩ := at_T83 HR0.out x7_3 p153 q153
           have hw153_1 := hx153_1
           have hw153_0 := hx153_0
           obtain rfl : ad151 = ad153 := (by injection e153)
           replace hx153_0 := (HB.out.cell (World.block_lt_of_cell? w _ hx153_0)).trans hx153_0
           replace hx153_1 := (HB.out.cell (World.block_lt_of_cell? w _ hx153_1)).trans hx153_1
           replace p153 := eq_true p153
           replace q153 := eq_true q153
           refine start_ (n := 19) (S := fun w' => w'.cell? ⟨gb150, 0, none⟩ = some (.int .i64 (l0.length : Int)) ∧ w'.cell? ⟨gb150, 1, none⟩ = some (.string x151001_3) ∧ w'.cell? (ad151.add ((x5_1).toNat * 2)) = some (.int .i64 ((rd_T83 l0 x5_1).f0)) ∧ w'.cell? ⟨(ad151.add ((x5_1).toNat * 2)).block, (ad151.add ((x5_1).toNat * 2)).off + 1, none⟩ = some (.int .i64 ((rd_T83 l0 x5_1).f1)) ∧ w'.cell? (ad151.add ((x6_2).toNat * 2)) = some (.int .i64 ((rd_T83 l0 x6_2).f0)) ∧ w'.cell? ⟨(ad151.add ((x6_2).toNat * 2)).block, (ad151.add ((x6_2).toNat * 2)).off + 1, none⟩ = some (.int .i64 ((rd_T83 l0 x6_2).f1)) ∧ w'.cell? (ad151.add ((x7_3).toNat * 2)) = some (.int .i64 ((rd_T83 l0 x7_3).f0)) ∧ w'.cell? ⟨(ad151.add ((x7_3).toNat * 2)).block, (ad151.add ((x7_3).toNat * 2)).off + 1, none⟩ = some (.int .i64 ((rd_T83 l0 x7_3).f1))) (ds := [18]) #[false, false, false, false, false, false, false, false, false, false, false, false, false, false, false, false, false, false, false] (by kernel_rfl) rfl rfl ⟨(blk_cell BK150.out 0).trans rfl, (blk_cell BK150.out 1).trans rfl, ((HB.out.cell (World.block_lt_of_cell? w _ hw151_0)).trans hw151_0), ((HB.out.cell (World.block_lt_of_cell? w _ hw151_1)).trans hw151_1), ((HB.out.cell (World.block_lt_of_cell? w _ hw152_0)).trans hw152_0), ((HB.out.cell (World.block_lt_of_cell? w _ hw152_1)).trans hw152_1), ((HB.out.cell (World.block_lt_of_cell? w _ hw153_0)).trans hw153_0), ((HB.out.cell (World.block_lt_of_cell? w _ hw153_1)).trans hw153_1)⟩ (fun hHeld => ?_); refine with_tabW spec_SignsOf.tab13 spec_SignsOf.bits13 (fun HT_ HW_ => ?_)
           generalize wr.drew = w20 at BK148 BK150 HB hx151_0 hx151_1 hx152_0 hx152_1 hx153_0 hx153_1 hHeld ⊢
           refine zP 0 (some 37) rfl rfl ?_
           refine zP 2 (some 39) rfl rfl ?_
           refine zP 3 (some 40) rfl rfl ?_
           refine zP 4 (some 41) rfl rfl ?_
           refine zP 6 (some 43) rfl rfl ?_
           refine zP 7 (some 44) rfl rfl ?_
           refine zP 8 (some 45) rfl rfl ?_
           refine zP 10 (some 47) rfl rfl ?_
           refine zP 11 (some 48) rfl rfl ?_
           refine zP 12 (some 49) rfl rfl ?_
           refine zY8 1 (some 38) rfl rfl hHeld ?_
           refine zY8 5 (some 42) rfl rfl hHeld ?_
           refine zY8 9 (some 46) rfl rfl hHeld ?_
           refine zY8 13 (some 50) rfl rfl hHeld ?_
           refine zU 14 (some 51) rfl rfl (fun K hK => ?_)
           refine goes_ Try.func103 (by kernel_rfl) rfl #[.agg #[.int .i64 ((rd_T83 l0 x5_1).f0), .int .i64 ((rd_T83 l0 x5_1).f1)], .agg #[.int .i64 ((rd_T83 l0 x6_2).f0), .int .i64 ((rd_T83 l0 x6_2).f1)], .agg #[.int .i64 ((rd_T83 l0 x7_3).f0), .int .i64 ((rd_T83 l0 x7_3).f1)]] (by rfl) rfl rfl zM ?_
           with_reducible refine (spec_l2Area.calls ((rd_T83 l0 x5_1).f0) ((rd_T83 l0 x5_1).f1) ((rd_T83 l0 x6_2).f0) ((rd_T83 l0 x6_2).f1) ((rd_T83 l0 x7_3).f0) ((rd_T83 l0 x7_3).f1) t154 _ A17.out).mono ?_
           rintro e w21 ⟨rfl, hb⟩
           refine ⟨_, rfl, ?_⟩
           replace BK148 := zV BK148.out hb
           replace BK150 := zV BK150.out hb
           replace HB := Aside0.mk (below_step (zG2 GE148.out GE150.out) hb)
           (try clear hb)
           refine hK.out _ _ ⟨(blk_cell BK150.out 0).trans rfl, (blk_cell BK150.out 1).trans rfl, ((HB.out.cell (World.block_lt_of_cell? w _ hw151_0)).trans hw151_0), ((HB.out.cell (World.block_lt_of_cell? w _ hw151_1)).trans hw151_1), ((HB.out.cell (World.block_lt_of_cell? w _ hw152_0)).trans hw152_0), ((HB.out.cell (World.block_lt_of_cell? w _ hw152_1)).trans hw152_1), ((HB.out.cell (World.block_lt_of_cell? w _ hw153_0)).trans hw153_0), ((HB.out.cell (World.block_lt_of_cell? w _ hw153_1)).trans hw153_1)⟩ (fun hHeld => ?_)
           clear hK K
           refine zN ?_
           refine zU 15 (some 52) rfl rfl (fun K hK => ?_)
           refine goes_ Try.func102 (by kernel_rfl) rfl #[.int .i64 t154] (by rfl) rfl rfl zM ?_
           with_reducible refine (spec_l3Byte.calls t154 t155 _ A18.out).mono ?_
           rintro e w' ⟨rfl, ⟨nd, rfl⟩⟩
           refine ⟨_, rfl, ?_⟩
           refine hK.out _ _ ⟨(blk_cell BK150.out 0).trans rfl, (blk_cell BK150.out 1).trans rfl, ((HB.out.cell (World.block_lt_of_cell? w _ hw151_0)).trans hw151_0), ((HB.out.cell (World.block_lt_of_cell? w _ hw151_1)).trans hw151_1), ((HB.out.cell (World.block_lt_of_cell? w _ hw152_0)).trans hw152_0), ((HB.out.cell (World.block_lt_of_cell? w _ hw152_1)).trans hw152_1), ((HB.out.cell (World.block_lt_of_cell? w _ hw153_0)).trans hw153_0), ((HB.out.cell (World.block_lt_of_cell? w _ hw153_1)).trans hw153_1)⟩ (fun hHeld => ?_)
           clear hK K
           refine zN ?_
           refine zP 16 (some 53) rfl rfl ?_
           refine zP 17 (some 54) rfl rfl ?_
           refine last_ (i := 18) (N := none) #[true, true, true, true, true, true, true, true, true, true, true, true, true, true, true, true, true, true, true] rfl rfl (one_of HT_.out (by kernel_rfl)) (by decide) (fun K hK => ?_)
           have hs22 : w21.cell? ⟨gb150, 1, none⟩ = some (.string x151001_3) := (blk_cell BK150.out 1).trans rfl
           have hfs22 := blk_frozen BK150.out 1
           have hns22_0 := NB148_150.out
           have hms22_0 := NB150_148.out
           refine skip_ (w1 := ?_) (by rfl) rfl ?_ ?_
           rotate_left
           ·go_simp
            rfl
           refine hK.out _ _ ?_
           clear hK K
           refine done_ (done_of HT_.out (by kernel_rfl)) ?_
           try go_wp2
           go_roundg k3
           case measure => have := HK1.out; have := HK2.out; have := HK3.out; omega
           case rel => exact ⟨(wrap64 (x7_3 + 1)), (x151001_3 ++ t155), zF, H', ⟨by have := HK1.out; have := HK2.out; have := HK3.out; omega⟩, ⟨zk1 BK148.out NB148_150.out⟩, ⟨zk0 BK150.out⟩, ⟨zG2 GE148.out GE150.out⟩⟩
          rw [if_neg c19] at H
          exact absurd H (by simp)
         rw [if_neg c16] at H
         exact absurd H (by simp)
        rw [if_neg c15] at H
        exact absurd H (by simp)
       rw [if_neg c14] at H
       exact absurd H (by simp)
      rw [if_neg c13] at H
      exact absurd H (by simp)
     rw [if_neg c12] at H
     exact absurd H (by simp)
    rw [if_neg c11] at H
    have c11b0 := decide_eq_false c11
    clear c11
    have H' := Aside0.mk H; clear H
    go_wp2
    go_roundg k3
    case measure => have := HK1.out; have := HK2.out; have := HK3.out; omega
    case rel => exact ⟨(wrap64 (x6_2 + 1)), (x151001_3), zF, H', ⟨by have := HK1.out; have := HK2.out; have := HK3.out; omega⟩, ⟨zK BK148.out⟩, ⟨zK BK150.out⟩, ⟨zG2 GE148.out GE150.out⟩⟩
   rw [if_neg c10] at H
   have c10b0 := decide_eq_false c10
   clear c10
   have H' := Aside0.mk H; clear H
   go_wp2
   go_roundg k2
   case measure => have := HK1.out; have := HK2.out; omega
   case rel => exact ⟨(wrap64 (x5_1 + 1)), (x151001_2), zF, H', ⟨by have := HK1.out; have := HK2.out; omega⟩, ⟨zK BK148.out⟩, ⟨zK BK150.out⟩, ⟨zG2 GE148.out GE150.out⟩⟩
  rw [if_neg c9] at H
  have c9b0 := decide_eq_false c9
  clear c9
  simp only [Option.some.injEq, Prod.mk.injEq] at H
  obtain ⟨rfl, rfl, rfl⟩ := H
  have hnb23 := NB150_148.out
  have hnc23 := NB148_150.out
  obtain ⟨hcz24_0, hcz24_1, hfz24_0, hfz24_1⟩ := zq2 BK150.out
  obtain ⟨hcz25_0, hcz25_1, hfz25_0, hfz25_1⟩ := zq2 BK148.out
  go_wp2
  refine bodyPost_ret (results_ct rfl _ _ gb148 25 #[.int .i64 (l0.length : Int), .string x151001_1] (0, 0) _ rfl (zk0 BK148.out) Try.underlying25 rfl (by kernel_rfl)) rfl ?_
  exact ⟨zE, zG2 GE148.out GE150.out⟩
 replace c3 := Bool.eq_false_iff.mpr c3
 subst c3
 replace H := (if_neg zFf).symm.trans H
 simp only [Option.some.injEq, Prod.mk.injEq] at H
 obtain ⟨rfl, rfl, rfl⟩ := H
 go_enter Try.func27, Try.ntmps27
 go_wp2_with (first | ((with_reducible refine gate_dst (N := 2) rfl ?_); refine zBx (N := 2) #[.int .i64 0, .string (⟨#[]⟩ : ByteArray)] 25 ?_; intro gb148 hg w26 hbox hb; have BK148 := Aside0.mk (hbox); have GW148 := zS hg; have GE148 := zS hg; replace HB := zX hb; clear hb hbox hg) | ((with_reducible refine gate_callee (f := 101) rfl ?_); refine zD (some 9) Try.func101 #[.slice A0 l0.length c0] ?_; (with_reducible refine (spec_ArePoints.calls k _ _ l0 false _ ?side1 ?side2 A2.out).mono ?_); (case side1 => repeat (first | exact (Kd.C_below HR0.out HB.out) | (with_reducible refine Kd.C_alloc ?_ _) | (with_reducible refine Kd.C_drewN ?_ _) | (with_reducible refine Kd.C_drew ?_))); (case side2 => exact HC0.out); rintro e w27 ⟨rfl, hb⟩; refine ⟨_, rfl, ?_⟩; replace BK148 := zV BK148.out hb; replace HB := zX1 GE148.out hb; (try clear hb); obtain ⟨hcz28_0, hcz28_1, hfz28_0, hfz28_1⟩ := zq2 BK148.out))
 refine bodyPost_ret (results_ct rfl _ _ gb148 25 #[.int .i64 0, .string (⟨#[]⟩ : ByteArray)] (0, 0) _ rfl (zk0 BK148.out) Try.underlying25 rfl (by kernel_rfl)) rfl ?_
 exact ⟨zE, zG GE148.out⟩
theorem eqA83 (d : Nat) (w : World) (x0 y0 : Int) (x1 y1 : Int) :
  (Op.equalIn (d + 2) 83 (.agg #[.int .i64 x0, .int .i64 x1]) (.agg #[.int .i64 y0, .int .i64 y1])).run Try.prog w = .ok (x0 == y0 && (x1 == y1)) w := by
 refine eqA_of Try.underlying83 (by kernel_rfl) ?_
 refine eqf_cons (by rfl) (by go_simp; rfl) (by go_simp; rfl) (by go_simp) ?_
 exact eqf_last (by rfl) (by go_simp; rfl) (by go_simp; rfl) (by go_simp)
end Go.Proofs.Ytckkfjdkaimmhaa.PX
namespace Go.Proofs.Ytckkfjdkaimmhaa.PX
open Go.RowKit Go.Proofs.Ytckkfjdkaimmhaa.G Go.Proofs.YtckkfjdkaimmhaaW.PrintWords Go.Proofs.YtckkfjdkaimmhaaW.PrintLast Go.Proofs.YtckkfjdkaimmhaaW.PrintMore
attribute [local go_sem] max2_int min2_int max_two min_two max_three min_three max_four min_four   -- for this text's walks alone
set_option linter.unusedVariables false
set_option linter.unusedSimpArgs false
attribute [local go_sem high] eqA83
/-! ### spec_l2Draw: function 148 -/
mutual
def spec_l2Draw.l0 : Nat → Int → List (S83) → Int → List Int → Int → Int → Option ((List (S83)) × Int × Int)
 | 0, _, _, _, _, _, _ => none
 | k + 1, x3, x4, x5, x1000, x1001, x1002 => if x5 < 12 then (spec_l2Draw.j1 k x3 x4 x5 (decide ((x4.length : Int) < x3)) x1000 x1001 x1002) else (spec_l2Draw.j1 k x3 x4 x5 false x1000 x1001 x1002)
def spec_l2Draw.j1 : Nat → Int → List (S83) → Int → Bool → List Int → Int → Int → Option ((List (S83)) × Int × Int)
 | 0, _, _, _, _, _, _, _ => none
 | k + 1, x3, x4, x5, x21, x1000, x1001, x1002 => if x21 = true then ((spec_l1Below.f x1000 x1001 x1002 13).bind fun bt165 => ((spec_l1Below.f x1000 bt165.2.1 bt165.2.2 13).bind fun bt168 => (spec_l2Draw.l1 k x3 x4 x5 true 0 x1000 bt168.2.1 bt168.2.2 (wrap64 (bt165.1 - 6)) (wrap64 (bt168.1 - 6))))) else (if (x4.length : Int) < 3 then (some ((([(⟨0, 0⟩ : S83), (⟨4, 1⟩ : S83), (⟨1, 3⟩ : S83), (⟨2, 2⟩ : S83)] : List (S83))), x1001, x1002)) else (some (x4, x1001, x1002)))
def spec_l2Draw.l1 : Nat → Int → List (S83) → Int → Bool → Int → List Int → Int → Int → Int → Int → Option ((List (S83)) × Int × Int)
 | 0, _, _, _, _, _, _, _, _, _, _ => none
 | k + 1, x3, x4, x5, x7, x8, x1000, x1001, x1002, x172000, x172001 => if x8 < (x4.length : Int) then (spec_l2Draw.j3 k x3 x4 x5 x7 x8 x7 x1000 x1001 x1002 x172000 x172001) else (spec_l2Draw.j3 k x3 x4 x5 x7 x8 false x1000 x1001 x1002 x172000 x172001)
def spec_l2Draw.j3 : Nat → Int → List (S83) → Int → Bool → Int → Bool → List Int → Int → Int → Int → Int → Option ((List (S83)) × Int × Int)
 | 0, _, _, _, _, _, _, _, _, _, _, _ => none
 | k + 1, x3, x4, x5, x7, x8, x37, x1000, x1001, x1002, x172000, x172001 => if x37 = true then (if 0 ≤ x8 then (if x8 < (x4.length : Int) then (spec_l2Draw.l2 k x3 x4 x5 (!(((rd_T83 x4 x8).f0) == x172000) || (!(((rd_T83 x4 x8).f1) == x172001))) x8 0 x1000 x1001 x1002 x172000 x172001) else (none)) else (none)) else (if x7 = true then (if x4.length < 8796093022208 then (spec_l2Draw.l0 k x3 (x4 ++ [(⟨x172000, x172001⟩ : S83)]) (wrap64 (x5 + 1)) x1000 x1001 x1002) else (none)) else (spec_l2Draw.l0 k x3 x4 (wrap64 (x5 + 1)) x1000 x1001 x1002))
def spec_l2Draw.l2 : Nat → Int → List (S83) → Int → Bool → Int → Int → List Int → Int → Int → Int → Int → Option ((List (S83)) × Int × Int)
 | 0, _, _, _, _, _, _, _, _, _, _, _ => none
 | k + 1, x3, x4, x5, x7, x8, x9, x1000, x1001, x1002, x172000, x172001 => if x9 < x8 then (if x7 = true then (if 0 ≤ x9 then (if x9 < (x4.length : Int) then (if 0 ≤ x8 then (if x8 < (x4.length : Int) then ((spec_l2Area.f ((rd_T83 x4 x9).f0) ((rd_T83 x4 x9).f1) ((rd_T83 x4 x8).f0) ((rd_T83 x4 x8).f1) x172000 x172001).bind fun t178 => (spec_l2Draw.l2 k x3 x4 x5 (t178 != 0) x8 (wrap64 (x9 + 1)) x1000 x1001 x1002 x172000 x172001)) else (none)) else (none)) else (none)) else (none)) else (spec_l2Draw.l1 k x3 x4 x5 x7 (wrap64 (x8 + 1)) x1000 x1001 x1002 x172000 x172001)) else (spec_l2Draw.l1 k x3 x4 x5 x7 (wrap64 (x8 + 1)) x1000 x1001 x1002 x172000 x172001)
end
def spec_l2Draw.f (k : Nat) (s0_0 : List Int) (s0_1 : Int) (s0_2 : Int) : Option ((List (S83)) × Int × Int) := (spec_l1Below.f s0_0 s0_1 s0_2 4).bind fun bt156 => (spec_l2Draw.l0 k (wrap64 (3 + bt156.1)) (([] : List (S83))) 0 s0_0 bt156.2.1 bt156.2.2)
def spec_l2Draw.T15 : Bool × List (List Nat × List Nat) := (true, [([], []), ([], []), ([0, 1], [0, 1]), ([2], [2]), ([], []), ([], []), ([4, 5], [4, 5]), ([6], [6]), ([], []), ([3, 7, 8], [3, 7, 8]), ([9], [9]), ([10, 9, 0, 1, 2, 3, 4, 5, 6, 7, 8, 9, 10], [10])])
def spec_l2Draw.B15 : List Nat := [0, 0, 3, 7, 0, 0, 48, 112, 0, 511, 1023, 2047]
theorem spec_l2Draw.tab15 : rtab .any (opsOf Try.f148 15) = spec_l2Draw.T15 := by kernel_rfl
theorem spec_l2Draw.bits15 : waitsOk spec_l2Draw.T15.2 spec_l2Draw.B15 = true := by kernel_rfl
theorem zl18_0 {p q : Prop} (g : p) (h : p → q := by intro zg_; repeat (first | (with_reducible first | exact zg_ | apply IsS110.alloc | apply IsS110.drewN | apply IsS110.drew | apply IsS110.set_1 | apply IsS110.set_2) | exact zg_)) : q := h g
theorem zl18_1 {p q p0 : Prop} (g : p) (g0 : p0) (h : p → p0 → q := by intro zg_ z0_; repeat (first | (with_reducible first | exact zg_ | apply below_alloc | apply pw_below_drewN | apply below_drew1 | refine below_set ?_ z0_) | exact zg_)) : q := h g g0
theorem zl18_2 {p q : Prop} (g : p) (h : p → q := by intro zg_; repeat (first | (with_reducible first | exact zg_ | apply KeepBut.set_ | apply keep_drewN | apply keep_drew | apply keep_alloc) | exact zg_)) : q := h g
theorem zl18_3 {p q p0 : Prop} (g : p) (g0 : p0) (h : p → p0 → q := by intro zg_ z0_; repeat (first | (with_reducible first | exact zg_ | apply IsS110.alloc | apply IsS110.drewN | apply IsS110.drew | apply IsS110.set_1 | apply IsS110.set_2 | refine IsS110.far ?_ z0_ _) | exact zg_)) : q := h g g0
theorem zl18_4 {p q p0 : Prop} (g : p) (g0 : p0) (h : p → p0 → q := by intro zg_ z0_; repeat (first | (with_reducible first | exact zg_ | apply KeepBut.set_ | apply keep_drewN | apply keep_drew | apply keep_alloc | refine keep_far ?_ z0_ _) | exact zg_)) : q := h g g0
set_option maxHeartbeats 8000000 in
set_option maxRecDepth 100000 in
theorem spec_l2Draw.calls (k : Nat) (g : Nat) (s0_0 : List Int) (s0_1 : Int) (s0_2 : Int) (r1 : List (S83)) (r2 : Int) (r3 : Int) (w0 w : World) (hI : IsS110 w0 w g s0_0 s0_1 s0_2) (hB : Below w0.heap.size w0 w) (h : spec_l2Draw.f k s0_0 s0_1 s0_2 = some (r1, r2, r3)) :
  Calls Try.prog 148 #[.pointer (some ⟨g, 0, none⟩)] w fun e w' => ∃ v0_ : Value, e = .returned (v0_) ∧ Kd.R k83 83 w' w.heap.size (fun _ => True) v0_ r1 ∧ IsS110 w0 w' g s0_0 r2 r3 ∧ Below w0.heap.size w0 w' ∧ KeepBut w w' g none := by
 have hu83 := Try.underlying83
 have HI0 := Aside0.mk hI
 have HK := Aside0.mk (KeepBut.refl w g none)
 have HL := Aside0.mk hB.size
 clear hI
 have HW0 := Aside0.mk hB.size
 have HB := Aside0.mk hB
 clear hB
 have H : ((spec_l1Below.f s0_0 s0_1 s0_2 4).bind fun bt156 => (spec_l2Draw.l0 k (wrap64 (3 + bt156.1)) (([] : List (S83))) 0 s0_0 bt156.2.1 bt156.2.2)) = some (r1, r2, r3) := h
 clear h
 obtain ⟨⟨t156, t157, t158⟩, A2, H⟩ := zO H
 dsimp only at H
 obtain ⟨y159, hy159⟩ : ∃ y_ : List (S83), y_ = (([] : List (S83))) := ⟨_, rfl⟩
 replace H : (spec_l2Draw.l0 k (wrap64 (3 + t156)) y159 0 s0_0 t157 t158) = some (r1, r2, r3) := by first | (rw [hy159]; with_reducible exact H) | (have H2_ := (Option.bind_some _ _).symm.trans H; rw [hy159]; with_reducible exact H2_) | (have H2_ := (Option.bind_some _ _).symm.trans H; with_reducible exact H2_) | with_reducible exact H | (rw [hy159]; exact H) | exact H
 have Ny159 := Aside0.mk hy159
 clear hy159
 have H' := Aside0.mk H; clear H
 go_enter Try.func148, Try.ntmps148
 go_wp2_with (first | ((with_reducible refine gate_callee (f := 125) rfl ?_); refine zD (some 11) Try.func125 #[.pointer (some ⟨g, 0, none⟩), .int .i64 4] ?_; (with_reducible refine (spec_l1Below.calls g s0_0 s0_1 s0_2 4 t156 t157 t158 w0 _ ?side1 ?side2 A2.out).mono ?_); (case side1 => exact (zl18_0 HI0.out)); (case side2 => exact (zl18_1 HB.out (IsS110.ge HI0.out))); rintro e w3 ⟨rfl, hi, hb, hk⟩; refine ⟨_, rfl, ?_⟩; replace HK := Aside0.mk (KeepBut.trans (zl18_2 HK.out) hk (.inl rfl)); replace HI0 := Aside0.mk (hi); replace HB := Aside0.mk (hb); (try clear hb); (try clear hk); (try clear hi)) | ((with_reducible refine gate_dst (N := 13) rfl ?_); (try (refine gate_guard (by rfl) ?_; dsimp only)); refine Kd.R_lit k83 _ 83 ?hg (N := 13) ?hd (xs := ([] : List (S83))) (inner := []) (ok := fun _ => True) (okp := fun _ => True) ?hr ?hp (fun _ hk => hk) trivial (Below.refl _ _) (Nat.le_refl _) (by simp) ?_; (case hd => rfl); (case hg => rfl); (case hr => first | (go_simp; done) | (go_simp; rfl)); (case hp => exact (Reps.none _ _)); intro v160 w4 ho5 hb hg_ hnew_; clear hg_ hnew_; (first | rw [← Ny159.out] at ho5 | (simp only [Int.reduceToNat] at ho5; rw [← Ny159.out] at ho5)); have n0_ := Aside0.mk (Kd.R_lower ho5 (keep_size (w := w) (g := g) (row := none) (zl18_2 HK.out))); have n1_ := Aside0.mk (IsS110.below (zl18_0 HI0.out) hb); have n2_ := Aside0.mk (KeepBut.trans (zl18_2 HK.out) (KeepBut.of_below hb g none) (.inl rfl)); have n3_ := Aside0.mk (below_step (zG (IsS110.ge HI0.out)) hb); clear HI0; clear HK; clear HB; have HO161 := n0_; have HI0 := n1_; have HK := n2_; have HB := n3_; clear n0_ n1_ n2_ n3_; clear hb ho5))
 go_loopg [4, 5] k (fun kq v4 v5 w' => ∃ (x4_1 : List (S83)) (x5_1 : Int) (x1001_1 : Int) (x1002_1 : Int), v5 = .int .i64 x5_1 ∧ Aside0 (spec_l2Draw.l0 kq (wrap64 (3 + t156)) x4_1 x5_1 s0_0 x1001_1 x1002_1 = some (r1, r2, r3)) ∧ Aside0 (kq ≤ k) ∧ Aside0 (Kd.R k83 83 w' w.heap.size (fun _ => True) v4 x4_1) ∧ Aside0 (IsS110 w0 w' g s0_0 x1001_1 x1002_1) ∧ Aside0 (KeepBut w w' g none) ∧ Aside0 (Below w0.heap.size w0 w'))
 case atStart => exact ⟨(y159), (0), (t157), (t158), zF, H', ⟨Nat.le_refl _⟩, ⟨zR HO161.out⟩, ⟨(zl18_0 HI0.out)⟩, ⟨(zl18_2 HK.out)⟩, ⟨zG (IsS110.ge HI0.out)⟩⟩
 case round =>
 clear H'
 obtain ⟨x4_1, x5_1, x1001_1, x1002_1, rfl, HA, HK1, HO_4, HI0, HK, HB⟩ := hrel
 cases gk with
 | zero => exact absurd HA.out (by simp [spec_l2Draw.l0])
 | succ k1 =>
 have H := HA.out
 clear HA
 simp only [spec_l2Draw.l0] at H
 have HC6 := Aside0.mk H
 clear H
 go_upto_region 4 with (fail)
 go_cut [21] (fun v21 wc => ∃ (kq : Nat) (x21_5 : Bool), v21 = .bool x21_5 ∧ Aside0 (spec_l2Draw.j1 kq (wrap64 (3 + t156)) x4_1 x5_1 x21_5 s0_0 x1001_1 x1002_1 = some (r1, r2, r3)) ∧ Aside0 (kq ≤ k1) ∧ Aside0 (Kd.R k83 83 wc w.heap.size (fun _ => True) u4 x4_1) ∧ Aside0 (IsS110 w0 wc g s0_0 x1001_1 x1002_1) ∧ Aside0 (KeepBut w wc g none) ∧ Aside0 (Below w0.heap.size w0 wc))
 case first =>
  have H := HC6.out
  clear HC6
  by_cases c7 : x5_1 < 12
  ·rw [if_pos c7] at H
   have c7b0 := decide_eq_true c7
   clear c7
   (first | rw [c7b0] | (simp only [i64_w, i32_w]; rw [c7b0]) | skip)
   have H' := Aside0.mk H; clear H
   obtain ⟨Ao8, co8, eo8⟩ := Kd.R_slice HO_4.out
   subst eo8
   go_wp2
   go_meet
   case rel => exact ⟨_, (decide ((x4_1.length : Int) < (wrap64 (3 + t156)))), zF, H', ⟨by have := HK1.out; first | omega | exact Nat.le_refl _⟩, ⟨zR HO_4.out⟩, ⟨(zl18_0 HI0.out)⟩, ⟨(zl18_2 HK.out)⟩, ⟨zG (IsS110.ge HI0.out)⟩⟩
  rw [if_neg c7] at H
  have c7b0 := decide_eq_false c7
  clear c7
  (first | rw [c7b0] | (simp only [i64_w, i32_w]; rw [c7b0]) | skip)
  have H' := Aside0.mk H; clear H
  go_wp2
  go_meet
  case rel => exact ⟨_, (false), zF, H', ⟨by have := HK1.out; first | omega | exact Nat.le_refl _⟩, ⟨zR HO_4.out⟩, ⟨(zl18_0 HI0.out)⟩, ⟨(zl18_2 HK.out)⟩, ⟨zG (IsS110.ge HI0.out)⟩⟩
 case rest =>
 clear HC6
 obtain ⟨kq, x21_5, rfl, HA, HJ5, HO_4, HI0, HK, HB⟩ := hcut
 cases kq with
 | zero => exact absurd HA.out (by simp [spec_l2Draw.j1])
 | succ kj5 =>
 have H := HA.out
 clear HA
 simp only [spec_l2Draw.j1] at H
 by_cases c9 : x21_5 = true
 ·subst c9
  replace H := (if_pos rfl).symm.trans H
  obtain ⟨⟨t165, t166, t167⟩, A10, H⟩ := zO H
  dsimp only at H
  obtain ⟨⟨t168, t169, t170⟩, A11, H⟩ := zO H
  dsimp only at H
  have H' := Aside0.mk H; clear H
  go_wp2_with (first | ((with_reducible refine gate_callee (f := 125) rfl ?_); refine zD (some 25) Try.func125 #[.pointer (some ⟨g, 0, none⟩), .int .i64 13] ?_; (with_reducible refine (spec_l1Below.calls g s0_0 x1001_1 x1002_1 13 t165 t166 t167 w0 _ ?side1 ?side2 A10.out).mono ?_); (case side1 => exact (zl18_0 HI0.out)); (case side2 => exact (zl18_1 HB.out (IsS110.ge HI0.out))); rintro e w12 ⟨rfl, hi, hb, hk⟩; refine ⟨_, rfl, ?_⟩; replace HO_4 := Aside0.mk (Kd.R_mono (Kd.R_keep (IsS110.apart (show IsS110 w0 _ g s0_0 x1001_1 x1002_1 from (zl18_0 HI0.out)) (zR HO_4.out) (by decide)) hk (fun _ h => h.2)) (fun _ h => h.1)); replace HK := Aside0.mk (KeepBut.trans (zl18_2 HK.out) hk (.inl rfl)); replace HI0 := Aside0.mk (hi); replace HB := Aside0.mk (hb); (try clear hb); (try clear hk); (try clear hi)) | ((with_reducible refine gate_callee (f := 125) rfl ?_); refine zD (some 28) Try.func125 #[.pointer (some ⟨g, 0, none⟩), .int .i64 13] ?_; (with_reducible refine (spec_l1Below.calls g s0_0 t166 t167 13 t168 t169 t170 w0 _ ?side1 ?side2 A11.out).mono ?_); (case side1 => exact (zl18_0 HI0.out)); (case side2 => exact (zl18_1 HB.out (IsS110.ge HI0.out))); rintro e w13 ⟨rfl, hi, hb, hk⟩; refine ⟨_, rfl, ?_⟩; replace HO_4 := Aside0.mk (Kd.R_mono (Kd.R_keep (IsS110.apart (show IsS110 w0 _ g s0_0 t166 t167 from (zl18_0 HI0.out)) (zR HO_4.out) (by decide)) hk (fun _ h => h.2)) (fun _ h => h.1)); replace HK := Aside0.mk (KeepBut.trans (zl18_2 HK.out) hk (.inl rfl)); replace HI0 := Aside0.mk (hi); replace HB := Aside0.mk (hb); (try clear hb); (try clear hk); (try clear hi)) | ((with_reducible refine gate_dst (N := 6) rfl ?_); (try (refine gate_guard (by rfl) ?_; dsimp only)); refine zBx (N := 6) #[.int .i64 0, .int .i64 0] 83 ?_; intro gb171 hg w14 hbox hb; have n0_ := Aside0.mk (Kd.R_below (Kd.R_elderB (zR HO_4.out) gb171 (Nat.le_of_eq hg.symm)) hb); have n1_ := Aside0.mk (IsS110.below (zl18_0 HI0.out) hb); have n2_ := Aside0.mk (KeepBut.trans (zl18_2 HK.out) (KeepBut.of_below hb g none) (.inl rfl)); have n3_ := Aside0.mk (below_step (zG (IsS110.ge HI0.out)) hb); have n4_ := Aside0.mk (hbox); have n5_ := Aside0.mk ((by rw [hg]; exact (keep_size (w := w) (g := g) (row := none) (zl18_2 HK.out)) : w.heap.size ≤ gb171)); have n6_ := Aside0.mk ((Nat.le_trans HW0.out (by rw [hg]; exact (keep_size (w := w) (g := g) (row := none) (zl18_2 HK.out)) : w.heap.size ≤ gb171) : w0.heap.size ≤ gb171)); have n7_ := Aside0.mk ((by rw [hg]; exact Nat.ne_of_lt (IsS110.lt (show IsS110 w0 _ g s0_0 t169 t170 from (zl18_0 HI0.out))) : g ≠ gb171)); have n8_ := Aside0.mk ((by rw [hg]; exact Nat.ne_of_gt (IsS110.lt (show IsS110 w0 _ g s0_0 t169 t170 from (zl18_0 HI0.out))) : gb171 ≠ g)); clear HO_4; clear HI0; clear HK; clear HB; have HO_4 := n0_; have HI0 := n1_; have HK := n2_; have HB := n3_; have BK171 := n4_; have GW171 := n5_; have GE171 := n6_; have NB0_171 := n7_; have NB171_0 := n8_; clear n0_ n1_ n2_ n3_ n4_ n5_ n6_ n7_ n8_; clear hb hbox hg; have hnb15 := NB171_0.out; have hnc15 := NB0_171.out; obtain ⟨hcz16_0, hcz16_1, hfz16_0, hfz16_1⟩ := zq2 BK171.out))
  go_loopg [7, 8] kj5 (fun kq v7 v8 w' => ∃ (x7_3 : Bool) (x8_3 : Int), v7 = .bool x7_3 ∧ v8 = .int .i64 x8_3 ∧ Aside0 (spec_l2Draw.l1 kq (wrap64 (3 + t156)) x4_1 x5_1 x7_3 x8_3 s0_0 t169 t170 (wrap64 (t165 - 6)) (wrap64 (t168 - 6)) = some (r1, r2, r3)) ∧ Aside0 (kq ≤ kj5) ∧ Aside0 (Kd.R k83 83 w' w.heap.size (fun k_ => k_ ≠ gb171) u4 x4_1) ∧ Aside0 (w'.heap[gb171]? = some (.cells #[.int .i64 (wrap64 (t165 - 6)), .int .i64 (wrap64 (t168 - 6))] 83 (0, 0))) ∧ Aside0 (IsS110 w0 w' g s0_0 t169 t170) ∧ Aside0 (KeepBut w w' g none) ∧ Aside0 (Below w0.heap.size w0 w'))
  case atStart => exact ⟨(true), (0), zF, zF, H', ⟨Nat.le_refl _⟩, ⟨by (with_reducible repeat (first | apply Kd.R_alloc | apply Kd.R_drewN | apply Kd.R_drew)); exact Kd.R_mono (Kd.R_far (p := ⟨gb171, 1, none⟩) (Kd.R_far (p := ⟨gb171, 0, none⟩) (Kd.R_mono HO_4.out (fun k_ hk => (⟨hk, hk.2⟩ : _ ∧ k_ ≠ gb171))) (fun _ hk => hk.2) (.int .i64 (wrap64 (t165 - 6)))) (fun _ hk => hk.2) (.int .i64 (wrap64 (t168 - 6)))) (fun _ hk => hk.1.2)⟩, ⟨zk0 BK171.out⟩, ⟨(zl18_3 HI0.out NB0_171.out)⟩, ⟨(zl18_4 HK.out GW171.out)⟩, ⟨zG2 (IsS110.ge HI0.out) GE171.out⟩⟩
  case round =>
  clear H'
  try clear c9
  try clear hcz16_0
  try clear hcz16_1
  try clear hfz16_0
  try clear hfz16_1
  obtain ⟨x7_3, x8_3, rfl, rfl, HA, HK3, HO_4, BK171, HI0, HK, HB⟩ := hrel
  cases gk with
  | zero => exact absurd HA.out (by simp [spec_l2Draw.l1])
  | succ k3 =>
  have H := HA.out
  clear HA
  simp only [spec_l2Draw.l1] at H
  have HC17 := Aside0.mk H
  clear H
  go_upto_region 9 with (fail)
  go_cut [37] (fun v37 wc => ∃ (kq : Nat) (x37_16 : Bool), v37 = .bool x37_16 ∧ Aside0 (spec_l2Draw.j3 kq (wrap64 (3 + t156)) x4_1 x5_1 x7_3 x8_3 x37_16 s0_0 t169 t170 (wrap64 (t165 - 6)) (wrap64 (t168 - 6)) = some (r1, r2, r3)) ∧ Aside0 (kq ≤ k3) ∧ Aside0 (Kd.R k83 83 wc w.heap.size (fun k_ => k_ ≠ gb171) u4 x4_1) ∧ Aside0 (wc.heap[gb171]? = some (.cells #[.int .i64 (wrap64 (t165 - 6)), .int .i64 (wrap64 (t168 - 6))] 83 (0, 0))) ∧ Aside0 (IsS110 w0 wc g s0_0 t169 t170) ∧ Aside0 (KeepBut w wc g none) ∧ Aside0 (Below w0.heap.size w0 wc))
  case first =>
   have H := HC17.out
   clear HC17
   by_cases c18 : x8_3 < (x4_1.length : Int)
   ·rw [if_pos c18] at H
    have c18b0 := decide_eq_true c18
    clear c18
    (first | rw [c18b0] | (simp only [i64_w, i32_w]; rw [c18b0]) | skip)
    have H' := Aside0.mk H; clear H
    obtain ⟨Ao19, co19, eo19⟩ := Kd.R_slice HO_4.out
    subst eo19
    go_wp2
    go_meet
    case rel => exact ⟨_, (x7_3), zF, H', ⟨by have := HK1.out; have := HJ5.out; have := HK3.out; first | omega | exact Nat.le_refl _⟩, ⟨zR HO_4.out⟩, ⟨zK BK171.out⟩, ⟨(zl18_3 HI0.out NB0_171.out)⟩, ⟨(zl18_4 HK.out GW171.out)⟩, ⟨zG2 (IsS110.ge HI0.out) GE171.out⟩⟩
   rw [if_neg c18] at H
   have c18b0 := decide_eq_false c18
   clear c18
   (first | rw [c18b0] | (simp only [i64_w, i32_w]; rw [c18b0]) | skip)
   have H' := Aside0.mk H; clear H
   obtain ⟨Ao20, co20, eo20⟩ := Kd.R_slice HO_4.out
   subst eo20
   go_wp2
   go_meet
   case rel => exact ⟨_, (false), zF, H', ⟨by have := HK1.out; have := HJ5.out; have := HK3.out; first | omega | exact Nat.le_refl _⟩, ⟨zR HO_4.out⟩, ⟨zK BK171.out⟩, ⟨(zl18_3 HI0.out NB0_171.out)⟩, ⟨(zl18_4 HK.out GW171.out)⟩, ⟨zG2 (IsS110.ge HI0.out) GE171.out⟩⟩
  case rest =>
  clear HC17
  try clear c9
  try clear hcz16_0
  try clear hcz16_1
  try clear hfz16_0
  try clear hfz16_1
  obtain ⟨kq, x37_16, rfl, HA, HJ16, HO_4, BK171, HI0, HK, HB⟩ := hcut
  cases kq with
  | zero => exact absurd HA.out (by simp [spec_l2Draw.j3])
  | succ kj16 =>
  have H := HA.out
  clear HA
  simp only [spec_l2Draw.j3] at H
  by_cases c21 : x37_16 = true
  ·subst c21
   replace H := (if_pos rfl).symm.trans H
   by_cases c22 : 0 ≤ x8_3
   ·rw [if_pos c22] at H
    have c22b0 := decide_eq_true c22
    clear c22
    by_cases c23 : x8_3 < (x4_1.length : Int)
    ·rw [if_pos c23] at H
     have c23b0 := decide_eq_true c23
     clear c23
     have H' := Aside0.mk H; clear H
     try go_wp2
     replace HO_4 := Aside0.mk (Kd.R_drew HO_4.out)
     replace BK171 := Aside0.mk (blk_drew BK171.out)
     replace HI0 := Aside0.mk (IsS110.drew HI0.out)
     replace HK := Aside0.mk (keep_drew HK.out)
     replace HB := Aside0.mk (below_drew1 HB.out)
     obtain ⟨Ao25, co25, eo25⟩ := Kd.R_slice HO_4.out
     (first | subst eo25 | (injection eo25 with f1_ f2_ f3_; have f4_ := f1_.symm; have f5_ := f3_.symm; clear f1_ f2_ f3_; subst f4_; subst f5_))
     have p175 : 0 ≤ (x8_3 : Int) := zA
     have q175 : x8_3 < (x4_1.length : Int) := zA
     obtain ⟨ad175, e175, hx175_0, hx175_1⟩ := at_T83 (Kd.R_reads' HO_4.out).2.2 x8_3 p175 q175
     cases e175
     replace p175 := eq_true p175
     replace q175 := eq_true q175
     refine start_ (n := 7) (S := fun w' => w'.cell? ⟨gb171, 0, none⟩ = some (.int .i64 (wrap64 (t165 - 6))) ∧ w'.cell? ⟨gb171, 1, none⟩ = some (.int .i64 (wrap64 (t168 - 6))) ∧ w'.cell? (ad175.add ((x8_3).toNat * 2)) = some (.int .i64 ((rd_T83 x4_1 x8_3).f0)) ∧ w'.cell? ⟨(ad175.add ((x8_3).toNat * 2)).block, (ad175.add ((x8_3).toNat * 2)).off + 1, none⟩ = some (.int .i64 ((rd_T83 x4_1 x8_3).f1))) (ds := []) #[false, false, false, false, false, false, false] (by kernel_rfl) rfl rfl ⟨(blk_cell BK171.out 0).trans rfl, (blk_cell BK171.out 1).trans rfl, hx175_0, hx175_1⟩ (fun hHeld => ?_)
     generalize wc.drew = w24 at HO_4 BK171 HI0 HK HB hx175_0 hx175_1 hHeld ⊢
     refine pure_ (i := 0) (N := some 40) (v := ?_) (a' := ?_) #[true, false, false, false, false, false, false] rfl rfl (by kernel_rfl) (fun _ _ _ h => h) (Or.inl ⟨by rfl, ?_⟩) ?_ ?_
     rotate_left
     ·intro w'
      go_simp
      with_reducible rfl
     rotate_left
     ·simp only [Act.put, List.setIfInBounds_toArray, List.set_cons_zero, List.set_cons_succ, i64_w, i32_w]
      rfl
     refine pure_ (i := 1) (N := some 41) (v := ?_) (a' := ?_) #[true, true, false, false, false, false, false] rfl rfl (by kernel_rfl) (fun _ _ _ h => h) (Or.inl ⟨by rfl, ?_⟩) ?_ ?_
     rotate_left
     ·intro w'
      go_simp
      with_reducible rfl
     rotate_left
     ·simp only [Act.put, List.setIfInBounds_toArray, List.set_cons_zero, List.set_cons_succ, i64_w, i32_w]
      rfl
     refine pure_ (i := 2) (N := some 42) (v := ?_) (a' := ?_) #[true, true, true, false, false, false, false] rfl rfl (by kernel_rfl) (fun _ _ _ h => h) (Or.inl ⟨by rfl, ?_⟩) ?_ ?_
     rotate_left
     ·intro w'
      go_simp
      with_reducible rfl
     rotate_left
     ·simp only [Act.put, List.setIfInBounds_toArray, List.set_cons_zero, List.set_cons_succ, i64_w, i32_w]
      rfl
     refine take_ (i := 3) (N := some 43) (v := ?_) (a' := ?_) #[true, true, true, true, false, false, false] rfl rfl (by kernel_rfl) (fun _ _ _ h => h) (Or.inl ⟨by rfl, ?_⟩) hHeld ?_ ?_
     rotate_left
     ·rintro w' ⟨s0, s1, s2, s3⟩
      go_simp
      with_reducible rfl
     rotate_left
     ·simp only [Act.put, List.setIfInBounds_toArray, List.set_cons_zero, List.set_cons_succ, i64_w, i32_w]
      rfl
     refine take_ (i := 4) (N := some 44) (v := ?_) (a' := ?_) #[true, true, true, true, true, false, false] rfl rfl (by kernel_rfl) (fun _ _ _ h => h) (Or.inl ⟨by rfl, ?_⟩) hHeld ?_ ?_
     rotate_left
     ·rintro w' ⟨s0, s1, s2, s3⟩
      go_simp
      with_reducible rfl
     rotate_left
     ·simp only [Act.put, List.setIfInBounds_toArray, List.set_cons_zero, List.set_cons_succ, i64_w, i32_w]
      rfl
     refine pure_ (i := 5) (N := some 45) (v := ?_) (a' := ?_) #[true, true, true, true, true, true, false] rfl rfl (by kernel_rfl) (fun _ _ _ h => h) (Or.inl ⟨by rfl, ?_⟩) ?_ ?_
     rotate_left
     ·intro w'
      go_simp
      with_reducible rfl
     rotate_left
     ·simp only [Act.put, List.setIfInBounds_toArray, List.set_cons_zero, List.set_cons_succ, i64_w, i32_w]
      rfl
     refine pure_ (i := 6) (N := some 7) (v := ?_) (a' := ?_) #[true, true, true, true, true, true, true] rfl rfl (by kernel_rfl) (fun _ _ _ h => h) (Or.inl ⟨by rfl, ?_⟩) ?_ ?_
     rotate_left
     ·intro w'
      go_simp
      with_reducible rfl
     rotate_left
     ·simp only [Act.put, List.setIfInBounds_toArray, List.set_cons_zero, List.set_cons_succ, i64_w, i32_w]
      rfl
     refine done_ (by kernel_rfl) ?_
     try go_wp2
     go_loopg [7, 9] kj16 (fun kq v7 v9 w' => ∃ (x7_5 : Bool) (x9_5 : Int), v7 = .bool x7_5 ∧ v9 = .int .i64 x9_5 ∧ Aside0 (spec_l2Draw.l2 kq (wrap64 (3 + t156)) x4_1 x5_1 x7_5 x8_3 x9_5 s0_0 t169 t170 (wrap64 (t165 - 6)) (wrap64 (t168 - 6)) = some (r1, r2, r3)) ∧ Aside0 (kq ≤ kj16) ∧ Aside0 (Kd.R k83 83 w' w.heap.size (fun k_ => k_ ≠ gb171) (.slice (some ad175) x4_1.length co25) x4_1) ∧ Aside0 (w'.heap[gb171]? = some (.cells #[.int .i64 (wrap64 (t165 - 6)), .int .i64 (wrap64 (t168 - 6))] 83 (0, 0))) ∧ Aside0 (IsS110 w0 w' g s0_0 t169 t170) ∧ Aside0 (KeepBut w w' g none) ∧ Aside0 (Below w0.heap.size w0 w'))
     case atStart => exact ⟨((!(((rd_T83 x4_1 x8_3).f0) == (wrap64 (t165 - 6))) || (!(((rd_T83 x4_1 x8_3).f1) == (wrap64 (t168 - 6)))))), (0), zF, zF, H', ⟨Nat.le_refl _⟩, ⟨zR HO_4.out⟩, ⟨zK BK171.out⟩, ⟨(zl18_3 HI0.out NB0_171.out)⟩, ⟨(zl18_4 HK.out GW171.out)⟩, ⟨zG2 (IsS110.ge HI0.out) GE171.out⟩⟩
     case round =>
     clear H'
     try clear c9
     try clear c21
     try clear c22
     try clear c22b0
     try clear c23
     try clear c23b0
     try clear hcz16_0
     try clear hcz16_1
     try clear hfz16_0
     try clear hfz16_1
     try clear hx175_0
     try clear hx175_1
     try clear p175
     try clear q175
     obtain ⟨x7_5, x9_5, rfl, rfl, HA, HK5, HO_4, BK171, HI0, HK, HB⟩ := hrel
     cases gk with
     | zero => exact absurd HA.out (by simp [spec_l2Draw.l2])
     | succ k5 =>
     have H := HA.out
     clear HA
     simp only [spec_l2Draw.l2] at H
     by_cases c26 : x9_5 < x8_3
     ·rw [if_pos c26] at H
      have c26b0 := decide_eq_true c26
      clear c26
      by_cases c27 : x7_5 = true
      ·subst c27
       replace H := (if_pos rfl).symm.trans H
       by_cases c28 : 0 ≤ x9_5
       ·rw [if_pos c28] at H
        have c28b0 := decide_eq_true c28
        clear c28
        by_cases c29 : x9_5 < (x4_1.length : Int)
        ·rw [if_pos c29] at H
         have c29b0 := decide_eq_true c29
         clear c29
         by_cases c30 : 0 ≤ x8_3
         ·rw [if_pos c30] at H
          have c30b0 := decide_eq_true c30
          clear c30
          by_cases c31 : x8_3 < (x4_1.length : Int)
          ·rw [if_pos c31] at H
           have c31b0 := decide_eq_true c31
           clear c31
           obtain ⟨t178, A32, H⟩ := zO H
           have H' := Aside0.mk H; clear H
           try go_wp2
           replace HO_4 := Aside0.mk (Kd.R_drew HO_4.out)
           replace BK171 := Aside0.mk (blk_drew BK171.out)
           replace HI0 := Aside0.mk (IsS110.drew HI0.out)
           replace HK := Aside0.mk (keep_drew HK.out)
           replace HB := Aside0.mk (below_drew1 HB.out)
           have p176 : 0 ≤ (x9_5 : Int) := zA
           have q176 : x9_5 < (x4_1.length : Int) := zA
           obtain ⟨ad176, e176, hx176_0, hx176_1⟩ := at_T83 (Kd.R_reads' HO_4.out).2.2 x9_5 p176 q176
           obtain rfl : ad175 = ad176 := (by injection e176)
           replace p176 := eq_true p176
           replace q176 := eq_true q176
           have p177 : 0 ≤ (x8_3 : Int) := zA
           have q177 : x8_3 < (x4_1.length : Int) := zA
           obtain ⟨ad177, e177, hx177_0, hx177_1⟩ := at_T83 (Kd.R_reads' HO_4.out).2.2 x8_3 p177 q177
           obtain rfl : ad175 = ad177 := (by injection e177)
           replace p177 := eq_true p177
           replace q177 := eq_true q177
           refine start_ (n := 12) (S := fun w' => w'.cell? ⟨gb171, 0, none⟩ = some (.int .i64 (wrap64 (t165 - 6))) ∧ w'.cell? ⟨gb171, 1, none⟩ = some (.int .i64 (wrap64 (t168 - 6))) ∧ w'.cell? (ad175.add ((x9_5).toNat * 2)) = some (.int .i64 ((rd_T83 x4_1 x9_5).f0)) ∧ w'.cell? ⟨(ad175.add ((x9_5).toNat * 2)).block, (ad175.add ((x9_5).toNat * 2)).off + 1, none⟩ = some (.int .i64 ((rd_T83 x4_1 x9_5).f1)) ∧ w'.cell? (ad175.add ((x8_3).toNat * 2)) = some (.int .i64 ((rd_T83 x4_1 x8_3).f0)) ∧ w'.cell? ⟨(ad175.add ((x8_3).toNat * 2)).block, (ad175.add ((x8_3).toNat * 2)).off + 1, none⟩ = some (.int .i64 ((rd_T83 x4_1 x8_3).f1))) (ds := []) #[false, false, false, false, false, false, false, false, false, false, false, false] (by kernel_rfl) rfl rfl ⟨(blk_cell BK171.out 0).trans rfl, (blk_cell BK171.out 1).trans rfl, hx176_0, hx176_1, hx177_0, hx177_1⟩ (fun hHeld => ?_); refine with_tabW spec_l2Draw.tab15 spec_l2Draw.bits15 (fun HT_ HW_ => ?_)
           generalize wr.drew = w33 at HO_4 BK171 HI0 HK HB hx176_0 hx176_1 hx177_0 hx177_1 hHeld ⊢
           refine zP 0 (some 54) rfl rfl ?_
           refine zP 1 (some 55) rfl rfl ?_
           refine zP 2 (some 56) rfl rfl ?_
           refine zP 4 (some 58) rfl rfl ?_
           refine zP 5 (some 59) rfl rfl ?_
           refine zP 6 (some 60) rfl rfl ?_
           refine zY6 3 (some 57) rfl rfl hHeld ?_
           refine zY6 7 (some 61) rfl rfl hHeld ?_
           refine zY6 8 (some 62) rfl rfl hHeld ?_
           refine zU 9 (some 63) rfl rfl (fun K hK => ?_)
           refine goes_ Try.func103 (by kernel_rfl) rfl #[.agg #[.int .i64 ((rd_T83 x4_1 x9_5).f0), .int .i64 ((rd_T83 x4_1 x9_5).f1)], .agg #[.int .i64 ((rd_T83 x4_1 x8_3).f0), .int .i64 ((rd_T83 x4_1 x8_3).f1)], .agg #[.int .i64 (wrap64 (t165 - 6)), .int .i64 (wrap64 (t168 - 6))]] (by rfl) rfl rfl zM ?_
           with_reducible refine (spec_l2Area.calls ((rd_T83 x4_1 x9_5).f0) ((rd_T83 x4_1 x9_5).f1) ((rd_T83 x4_1 x8_3).f0) ((rd_T83 x4_1 x8_3).f1) (wrap64 (t165 - 6)) (wrap64 (t168 - 6)) t178 _ A32.out).mono ?_
           rintro e w34 ⟨rfl, hb⟩
           have HS2_ := (hb.cell (World.block_lt_of_cell? _ _ (hHeld.2.2.1))).trans (hHeld.2.2.1)
           have HS3_ := (hb.cell (World.block_lt_of_cell? _ _ (hHeld.2.2.2.1))).trans (hHeld.2.2.2.1)
           have HS4_ := (hb.cell (World.block_lt_of_cell? _ _ (hHeld.2.2.2.2.1))).trans (hHeld.2.2.2.2.1)
           have HS5_ := (hb.cell (World.block_lt_of_cell? _ _ (hHeld.2.2.2.2.2))).trans (hHeld.2.2.2.2.2)
           refine ⟨_, rfl, ?_⟩
           have n0_ := zW HO_4.out hb
           have n1_ := zV BK171.out hb
           have n2_ := Aside0.mk (IsS110.below (zl18_3 HI0.out NB0_171.out) hb)
           have n3_ := Aside0.mk (KeepBut.trans (zl18_4 HK.out GW171.out) (KeepBut.of_below hb g none) (.inl rfl))
           have n4_ := Aside0.mk (below_step (zG2 (IsS110.ge HI0.out) GE171.out) hb)
           clear HO_4
           clear BK171
           clear HI0
           clear HK
           clear HB
           have HO_4 := n0_
           have BK171 := n1_
           have HI0 := n2_
           have HK := n3_
           have HB := n4_
           clear n0_ n1_ n2_ n3_ n4_
           (try clear hb)
           refine hK.out _ _ ⟨(blk_cell BK171.out 0).trans rfl, (blk_cell BK171.out 1).trans rfl, HS2_, HS3_, HS4_, HS5_⟩ (fun hHeld => ?_)
           clear hK K
           refine zN ?_
           refine zP 10 (some 64) rfl rfl ?_
           refine zP 11 (some 7) rfl rfl ?_
           refine done_ (done_of HT_.out (by kernel_rfl)) ?_
           try go_wp2
           go_roundg k5
           case measure => have := HK1.out; have := HJ5.out; have := HK3.out; have := HJ16.out; have := HK5.out; omega
           case rel => exact ⟨((t178 != 0)), (wrap64 (x9_5 + 1)), zF, zF, H', ⟨by have := HK1.out; have := HJ5.out; have := HK3.out; have := HJ16.out; have := HK5.out; omega⟩, ⟨zR HO_4.out⟩, ⟨zK BK171.out⟩, ⟨(zl18_3 HI0.out NB0_171.out)⟩, ⟨(zl18_4 HK.out GW171.out)⟩, ⟨zG2 (IsS110.ge HI0.out) GE171.out⟩⟩
          rw [if_neg c31] at H
          exact absurd H (by simp)
         rw [if_neg c30] at H
         exact absurd H (by simp)
        rw [if_neg c29] at H
        exact absurd H (by simp)
       rw [if_neg c28] at H
       exact absurd H (by simp)
      replace c27 := Bool.eq_false_iff.mpr c27
      subst c27
      replace H := (if_neg zFf).symm.trans H
      have H' := Aside0.mk H; clear H
      go_wp2
      go_roundg k5
      case measure => have := HK1.out; have := HJ5.out; have := HK3.out; have := HJ16.out; have := HK5.out; omega
      case rel => exact ⟨(false), (wrap64 (x8_3 + 1)), zF, zF, H', ⟨by have := HK1.out; have := HJ5.out; have := HK3.out; have := HJ16.out; have := HK5.out; omega⟩, ⟨zR HO_4.out⟩, ⟨zK BK171.out⟩, ⟨(zl18_3 HI0.out NB0_171.out)⟩, ⟨(zl18_4 HK.out GW171.out)⟩, ⟨zG2 (IsS110.ge HI0.out) GE171.out⟩⟩
     rw [if_neg c26] at H
     have c26b0 := decide_eq_false c26
     clear c26
     have H' := Aside0.mk H; clear H
     go_wp2
     go_roundg k5
     case measure => have := HK1.out; have := HJ5.out; have := HK3.out; have := HJ16.out; have := HK5.out; omega
     case rel => exact ⟨(x7_5), (wrap64 (x8_3 + 1)), zF, zF, H', ⟨by have := HK1.out; have := HJ5.out; have := HK3.out; have := HJ16.out; have := HK5.out; omega⟩, ⟨zR HO_4.out⟩, ⟨zK BK171.out⟩, ⟨(zl18_3 HI0.out NB0_171.out)⟩, ⟨(zl18_4 HK.out GW171.out)⟩, ⟨zG2 (IsS110.ge HI0.out) GE171.out⟩⟩
    rw [if_neg c23] at H
    exact absurd H (by simp)
   rw [if_neg c22] at H
   exact absurd H (by simp)
  replace c21 := Bool.eq_false_iff.mpr c21
  subst c21
  replace H := (if_neg zFf).symm.trans H
  by_cases c35 : x7_3 = true
  ·subst c35
   replace H := (if_pos rfl).symm.trans H
   by_cases c36 : x4_1.length < 8796093022208
   ·rw [if_pos c36] at H
    have LMc36 := Aside0.mk c36
    clear c36
    obtain ⟨y172, hy172⟩ : ∃ y_ : List (S83), y_ = (x4_1 ++ [(⟨(wrap64 (t165 - 6)), (wrap64 (t168 - 6))⟩ : S83)]) := ⟨_, rfl⟩
    replace H : (spec_l2Draw.l0 kj16 (wrap64 (3 + t156)) y172 (wrap64 (x5_1 + 1)) s0_0 t169 t170) = some (r1, r2, r3) := by first | (rw [hy172]; with_reducible exact H) | (have H2_ := (Option.bind_some _ _).symm.trans H; rw [hy172]; with_reducible exact H2_) | (have H2_ := (Option.bind_some _ _).symm.trans H; with_reducible exact H2_) | with_reducible exact H | (rw [hy172]; exact H) | exact H
    have Ny172 := Aside0.mk hy172
    clear hy172
    have H' := Aside0.mk H; clear H
    have hnb37 := NB171_0.out
    have hnc37 := NB0_171.out
    obtain ⟨hcz38_0, hcz38_1, hfz38_0, hfz38_1⟩ := zq2 BK171.out
    go_wp2_with (first | ((with_reducible refine gate_builtin (b := .append) (xs := #[.tmp 66, .tmp 68]) rfl ?_); (try (refine gate_guard (by rfl) ?_; dsimp only)); at_builtin; refine Kd.R_append k83 w.heap.size rfl (.tmp 66) (.tmp 68) 38 83 (.agg #[(.int .i64 0), (.int .i64 0)]) 16 rfl Try.underlying38 info83 rfl (by decide) (by omega) u4 x4_1 (⟨(wrap64 (t165 - 6)), (wrap64 (t168 - 6))⟩ : S83) [.int .i64 (wrap64 (t165 - 6)), .int .i64 (wrap64 (t168 - 6))] (fun k_ => k_ ≠ gb171) (fun _ => False) rfl rfl ?aP (fun _ hk => hk.elim) ?aF ?aO (Below.refl _ _) ?aS ?aL ?_; (case aP => exact k83_mkM _ _ _ (⟨(wrap64 (t165 - 6)), (wrap64 (t168 - 6))⟩ : S83)); (case aF => exact (fun k_ hk => Kd.freshB (g := gb171) (o := .cells #[.int .i64 (wrap64 (t165 - 6)), .int .i64 (wrap64 (t168 - 6))] 83 (0, 0)) (zK BK171.out) k_ hk)); (case aO => exact (zR HO_4.out)); (case aS => exact (keep_size (w := w) (g := g) (row := none) (zl18_4 HK.out GW171.out))); (case aL => have := LMc36.out; omega); intro v173 w39 ho hb hg hat; rw [← Ny172.out] at ho; have n0_ := Aside0.mk (blk_grown (g := gb171) (o := .cells #[.int .i64 (wrap64 (t165 - 6)), .int .i64 (wrap64 (t168 - 6))] 83 (0, 0)) (zK BK171.out) hg (Kd.R_away HO_4.out (fun _ hk => hk))); have n1_ := Aside0.mk (IsS110.grown (zl18_3 HI0.out NB0_171.out) hg (IsS110.own_ne HI0.out HO_4.out (by decide))); have n2_ := Aside0.mk (below_weaken (zG2 (IsS110.ge HI0.out) GE171.out) HL.out hb); have n3_ := Aside0.mk (KeepBut.trans (zl18_4 HK.out GW171.out) (KeepBut.of_grown hg g) (Kd.R_base2 HO_4.out)); have n4_ := Aside0.mk (ho); clear BK171; clear HI0; clear HB; clear HK; clear HO_4; have BK171 := n0_; have HI0 := n1_; have HB := n2_; have HK := n3_; have HO174 := n4_; clear n0_ n1_ n2_ n3_ n4_; clear ho hb hg hat))
    go_roundg kj16
    case measure => have := HK1.out; have := HJ5.out; have := HK3.out; have := HJ16.out; omega
    case rel => exact ⟨(y172), (wrap64 (x5_1 + 1)), (t169), (t170), zF, H', ⟨by have := HK1.out; have := HJ5.out; have := HK3.out; have := HJ16.out; omega⟩, ⟨by (with_reducible repeat (first | apply Kd.R_alloc | apply Kd.R_drewN | apply Kd.R_drew)); exact Kd.R_mono HO174.out (fun _ hk => trivial)⟩, ⟨(zl18_3 HI0.out NB0_171.out)⟩, ⟨(zl18_4 HK.out GW171.out)⟩, ⟨zG2 (IsS110.ge HI0.out) GE171.out⟩⟩
   rw [if_neg c36] at H
   exact absurd H (by simp)
  replace c35 := Bool.eq_false_iff.mpr c35
  subst c35
  replace H := (if_neg zFf).symm.trans H
  have H' := Aside0.mk H; clear H
  go_wp2
  go_roundg kj16
  case measure => have := HK1.out; have := HJ5.out; have := HK3.out; have := HJ16.out; omega
  case rel => exact ⟨(x4_1), (wrap64 (x5_1 + 1)), (t169), (t170), zF, H', ⟨by have := HK1.out; have := HJ5.out; have := HK3.out; have := HJ16.out; omega⟩, ⟨by (with_reducible repeat (first | apply Kd.R_alloc | apply Kd.R_drewN | apply Kd.R_drew)); exact Kd.R_mono HO_4.out (fun _ hk => trivial)⟩, ⟨(zl18_3 HI0.out NB0_171.out)⟩, ⟨(zl18_4 HK.out GW171.out)⟩, ⟨zG2 (IsS110.ge HI0.out) GE171.out⟩⟩
 replace c9 := Bool.eq_false_iff.mpr c9
 subst c9
 replace H := (if_neg zFf).symm.trans H
 by_cases c40 : (x4_1.length : Int) < 3
 ·rw [if_pos c40] at H
  have c40b0 := decide_eq_true c40
  have c40b1 : decide (x4_1.length < 3) = true := decide_eq_true (by omega)
  clear c40
  obtain ⟨y162, hy162⟩ : ∃ y_ : List (S83), y_ = (([(⟨0, 0⟩ : S83), (⟨4, 1⟩ : S83), (⟨1, 3⟩ : S83), (⟨2, 2⟩ : S83)] : List (S83))) := ⟨_, rfl⟩
  replace H : (some (y162, x1001_1, x1002_1)) = some (r1, r2, r3) := by first | (rw [hy162]; with_reducible exact H) | (have H2_ := (Option.bind_some _ _).symm.trans H; rw [hy162]; with_reducible exact H2_) | (have H2_ := (Option.bind_some _ _).symm.trans H; with_reducible exact H2_) | with_reducible exact H | (rw [hy162]; exact H) | exact H
  have Ny162 := Aside0.mk hy162
  clear hy162
  simp only [Option.some.injEq, Prod.mk.injEq] at H
  obtain ⟨rfl, rfl, rfl⟩ := H
  obtain ⟨Ao41, co41, eo41⟩ := Kd.R_slice HO_4.out
  subst eo41
  go_wp2_with (first | ((with_reducible refine gate_dst (N := 77) rfl ?_); (try (refine gate_guard (by rfl) ?_; dsimp only)); refine Kd.R_lit k83 _ 83 ?hg (N := 77) ?hd (xs := ([(⟨0, 0⟩ : S83), (⟨4, 1⟩ : S83), (⟨1, 3⟩ : S83), (⟨2, 2⟩ : S83)] : List (S83))) (inner := [.int .i64 0, .int .i64 0, .int .i64 4, .int .i64 1, .int .i64 1, .int .i64 3, .int .i64 2, .int .i64 2]) (ok := fun _ => True) (okp := fun _ => True) ?hr ?hp (fun _ hk => hk) trivial (Below.refl _ _) (Nat.le_refl _) (by simp) ?_; (case hd => rfl); (case hg => rfl); (case hr => first | (go_simp; done) | (go_simp; rfl)); (case hp => exact (Reps.c2 (show Kd.M k83 _ _ _ (⟨0, 0⟩ : S83) [.int .i64 0, .int .i64 0] from (k83_mkM _ _ _ (⟨0, 0⟩ : S83) )) (Reps.c2 (show Kd.M k83 _ _ _ (⟨4, 1⟩ : S83) [.int .i64 4, .int .i64 1] from (k83_mkM _ _ _ (⟨4, 1⟩ : S83) )) (Reps.c2 (show Kd.M k83 _ _ _ (⟨1, 3⟩ : S83) [.int .i64 1, .int .i64 3] from (k83_mkM _ _ _ (⟨1, 3⟩ : S83) )) (Reps.c2 (show Kd.M k83 _ _ _ (⟨2, 2⟩ : S83) [.int .i64 2, .int .i64 2] from (k83_mkM _ _ _ (⟨2, 2⟩ : S83) )) (Reps.none _ _)))))); intro v163 w42 ho43 hb hg_ hnew_; clear hg_ hnew_; (first | rw [← Ny162.out] at ho43 | (simp only [Int.reduceToNat] at ho43; rw [← Ny162.out] at ho43)); have n0_ := Aside0.mk (Kd.R_elder' (zR HO_4.out) (Kd.R_base ho43) hb); have n1_ := Aside0.mk (Kd.R_lower (Kd.R_new' ho43 (Kd.R_lt (zR HO_4.out))) (keep_size (w := w) (g := g) (row := none) (zl18_2 HK.out))); have n2_ := Aside0.mk (IsS110.below (zl18_0 HI0.out) hb); have n3_ := Aside0.mk (KeepBut.trans (zl18_2 HK.out) (KeepBut.of_below hb g none) (.inl rfl)); have n4_ := Aside0.mk (below_step (zG (IsS110.ge HI0.out)) hb); clear HO_4; clear HI0; clear HK; clear HB; have HO_4 := n0_; have HO164 := n1_; have HI0 := n2_; have HK := n3_; have HB := n4_; clear n0_ n1_ n2_ n3_ n4_; clear hb ho43))
  go_ret
  exact ⟨_, zE, by (with_reducible repeat (first | apply Kd.R_alloc | apply Kd.R_drewN | apply Kd.R_drew)); exact Kd.R_mono HO164.out (fun _ hk => trivial), (zl18_0 HI0.out), zG (IsS110.ge HI0.out), (zl18_2 HK.out)⟩
 rw [if_neg c40] at H
 have c40b0 := decide_eq_false c40
 have c40b1 : decide (x4_1.length < 3) = false := decide_eq_false (by omega)
 clear c40
 simp only [Option.some.injEq, Prod.mk.injEq] at H
 obtain ⟨rfl, rfl, rfl⟩ := H
 obtain ⟨Ao44, co44, eo44⟩ := Kd.R_slice HO_4.out
 subst eo44
 go_wp2
 go_ret
 exact ⟨_, zE, zR HO_4.out, (zl18_0 HI0.out), zG (IsS110.ge HI0.out), (zl18_2 HK.out)⟩
end Go.Proofs.Ytckkfjdkaimmhaa.PX
namespace Go.Proofs.Ytckkfjdkaimmhaa.PX
open Go.RowKit Go.Proofs.Ytckkfjdkaimmhaa.G Go.Proofs.YtckkfjdkaimmhaaW.PrintWords Go.Proofs.YtckkfjdkaimmhaaW.PrintLast Go.Proofs.YtckkfjdkaimmhaaW.PrintMore
attribute [local go_sem] max2_int min2_int max_two min_two max_three min_three max_four min_four   -- for this text's walks alone
set_option linter.unusedVariables false
set_option linter.unusedSimpArgs false
/-! ### spec_l1PickInt: function 126 -/
def spec_l1PickInt.f (s0_0 : List Int) (s0_1 : Int) (s0_2 : Int) (l1 : List Int) : Option (Int × Int × Int) := (spec_l1Below.f s0_0 s0_1 s0_2 (l1.length : Int)).bind fun bt131 => (if 0 ≤ bt131.1 then (if bt131.1 < (l1.length : Int) then (some (rd l1 bt131.1, bt131.2.1, bt131.2.2)) else (none)) else (none))
theorem zl13_0 {p q : Prop} (g : p) (h : p → q := by intro zg_; repeat (first | (with_reducible first | exact zg_ | apply IsS110.alloc | apply IsS110.drewN | apply IsS110.drew | apply IsS110.set_1 | apply IsS110.set_2) | exact zg_)) : q := h g
theorem zl13_1 {p q p0 : Prop} (g : p) (g0 : p0) (h : p → p0 → q := by intro zg_ z0_; repeat (first | (with_reducible first | exact zg_ | apply below_alloc | apply pw_below_drewN | apply below_drew1 | refine below_set ?_ z0_) | exact zg_)) : q := h g g0
theorem zl13_2 {p q : Prop} (g : p) (h : p → q := by intro zg_; repeat (first | (with_reducible first | exact zg_ | apply KeepBut.set_ | apply keep_drewN | apply keep_drew | apply keep_alloc) | exact zg_)) : q := h g
set_option maxHeartbeats 8000000 in
set_option maxRecDepth 100000 in
theorem spec_l1PickInt.calls (g : Nat) (s0_0 : List Int) (s0_1 : Int) (s0_2 : Int) (A1 : Option Addr) (c1 : Nat) (l1 : List Int) (r1 : Int) (r2 : Int) (r3 : Int) (w0 w : World) (hI : IsS110 w0 w g s0_0 s0_1 s0_2) (hB : Below w0.heap.size w0 w) (hr1 : Kd.C (Kd.int .i64) w A1 l1.length l1) (hc1 : l1.length ≤ c1) (hf1 : ∀ ad, A1 = some ad → 0 < l1.length → ad.block ≠ g) (h : spec_l1PickInt.f s0_0 s0_1 s0_2 l1 = some (r1, r2, r3)) :
  Calls Try.prog 126 #[.pointer (some ⟨g, 0, none⟩), .slice A1 l1.length c1] w fun e w' => e = .returned (.int .i64 r1) ∧ IsS110 w0 w' g s0_0 r2 r3 ∧ Below w0.heap.size w0 w' ∧ KeepBut w w' g none := by
 have HR1 := Aside0.mk hr1
 have HC1 := Aside0.mk hc1
 clear hr1 hc1
 have HI0 := Aside0.mk hI
 have HK := Aside0.mk (KeepBut.refl w g none)
 have HL := Aside0.mk hB.size
 clear hI
 have HW0 := Aside0.mk hB.size
 have HB := Aside0.mk hB
 clear hB
 have H : ((spec_l1Below.f s0_0 s0_1 s0_2 (l1.length : Int)).bind fun bt131 => (if 0 ≤ bt131.1 then (if bt131.1 < (l1.length : Int) then (some (rd l1 bt131.1, bt131.2.1, bt131.2.2)) else (none)) else (none))) = some (r1, r2, r3) := h
 clear h
 obtain ⟨⟨t131, t132, t133⟩, A3, H⟩ := zO H
 dsimp only at H
 by_cases c4 : 0 ≤ t131
 ·rw [if_pos c4] at H
  have c4b0 := decide_eq_true c4
  clear c4
  by_cases c5 : t131 < (l1.length : Int)
  ·rw [if_pos c5] at H
   have c5b0 := decide_eq_true c5
   clear c5
   simp only [Option.some.injEq, Prod.mk.injEq] at H
   obtain ⟨rfl, rfl, rfl⟩ := H
   go_enter Try.func126, Try.ntmps126
   go_wp2_with (first | ((with_reducible refine gate_callee (f := 125) rfl ?_); refine zD (some 9) Try.func125 #[.pointer (some ⟨g, 0, none⟩), .int .i64 (l1.length : Int)] ?_; (with_reducible refine (spec_l1Below.calls g s0_0 s0_1 s0_2 (l1.length : Int) t131 t132 t133 w0 _ ?side1 ?side2 A3.out).mono ?_); (case side1 => exact (zl13_0 HI0.out)); (case side2 => exact (zl13_1 HB.out (IsS110.ge HI0.out))); rintro e w6 ⟨rfl, hi, hb, hk⟩; refine ⟨_, rfl, ?_⟩; replace HK := Aside0.mk (KeepBut.trans (zl13_2 HK.out) hk (.inl rfl)); replace HI0 := Aside0.mk (hi); replace HB := Aside0.mk (hb); (try clear hb); (try clear hk); (try clear hi); have p134 : 0 ≤ (t131 : Int) := zA; have q134 : t131 < (l1.length : Int) := zA; obtain ⟨ad134, e134, hx134_0⟩ := Kd.at_int HR1.out t131 p134 q134; cases e134; replace hx134_0 := keep_cell HK.out hx134_0 (by first | (rw [add_block]; exact hf1 _ rfl (by omega)) | exact hf1 _ rfl (by omega) | exact hf1 ad134 rfl (by omega)); replace p134 := eq_true p134; replace q134 := eq_true q134))
   go_ret
   exact ⟨zE, (zl13_0 HI0.out), zG (IsS110.ge HI0.out), (zl13_2 HK.out)⟩
  rw [if_neg c5] at H
  exact absurd H (by simp)
 rw [if_neg c4] at H
 exact absurd H (by simp)
/-! ### spec_l1Pick: function 155 -/
def spec_l1Pick.f (s0_0 : List Int) (s0_1 : Int) (s0_2 : Int) (l1 : List ByteArray) : Option (ByteArray × Int × Int) := (spec_l1Below.f s0_0 s0_1 s0_2 (l1.length : Int)).bind fun bt179 => (if 0 ≤ bt179.1 then (if bt179.1 < (l1.length : Int) then (some (rdOf ByteArray.empty l1 bt179.1, bt179.2.1, bt179.2.2)) else (none)) else (none))
theorem zl19_0 {p q : Prop} (g : p) (h : p → q := by intro zg_; repeat (first | (with_reducible first | exact zg_ | apply IsS110.alloc | apply IsS110.drewN | apply IsS110.drew | apply IsS110.set_1 | apply IsS110.set_2) | exact zg_)) : q := h g
theorem zl19_1 {p q p0 : Prop} (g : p) (g0 : p0) (h : p → p0 → q := by intro zg_ z0_; repeat (first | (with_reducible first | exact zg_ | apply below_alloc | apply pw_below_drewN | apply below_drew1 | refine below_set ?_ z0_) | exact zg_)) : q := h g g0
theorem zl19_2 {p q : Prop} (g : p) (h : p → q := by intro zg_; repeat (first | (with_reducible first | exact zg_ | apply KeepBut.set_ | apply keep_drewN | apply keep_drew | apply keep_alloc) | exact zg_)) : q := h g
set_option maxHeartbeats 8000000 in
set_option maxRecDepth 100000 in
theorem spec_l1Pick.calls (g : Nat) (s0_0 : List Int) (s0_1 : Int) (s0_2 : Int) (A1 : Option Addr) (c1 : Nat) (l1 : List ByteArray) (r1 : ByteArray) (r2 : Int) (r3 : Int) (w0 w : World) (hI : IsS110 w0 w g s0_0 s0_1 s0_2) (hB : Below w0.heap.size w0 w) (hr1 : Kd.C Kd.string w A1 l1.length l1) (hc1 : l1.length ≤ c1) (hf1 : ∀ ad, A1 = some ad → 0 < l1.length → ad.block ≠ g) (h : spec_l1Pick.f s0_0 s0_1 s0_2 l1 = some (r1, r2, r3)) :
  Calls Try.prog 155 #[.pointer (some ⟨g, 0, none⟩), .slice A1 l1.length c1] w fun e w' => e = .returned (.string r1) ∧ IsS110 w0 w' g s0_0 r2 r3 ∧ Below w0.heap.size w0 w' ∧ KeepBut w w' g none := by
 have HR1 := Aside0.mk hr1
 have HC1 := Aside0.mk hc1
 clear hr1 hc1
 have HI0 := Aside0.mk hI
 have HK := Aside0.mk (KeepBut.refl w g none)
 have HL := Aside0.mk hB.size
 clear hI
 have HW0 := Aside0.mk hB.size
 have HB := Aside0.mk hB
 clear hB
 have H : ((spec_l1Below.f s0_0 s0_1 s0_2 (l1.length : Int)).bind fun bt179 => (if 0 ≤ bt179.1 then (if bt179.1 < (l1.length : Int) then (some (rdOf ByteArray.empty l1 bt179.1, bt179.2.1, bt179.2.2)) else (none)) else (none))) = some (r1, r2, r3) := h
 clear h
 obtain ⟨⟨t179, t180, t181⟩, A3, H⟩ := zO H
 dsimp only at H
 by_cases c4 : 0 ≤ t179
 ·rw [if_pos c4] at H
  have c4b0 := decide_eq_true c4
  clear c4
  by_cases c5 : t179 < (l1.length : Int)
  ·rw [if_pos c5] at H
   have c5b0 := decide_eq_true c5
   clear c5
   simp only [Option.some.injEq, Prod.mk.injEq] at H
   obtain ⟨rfl, rfl, rfl⟩ := H
   go_enter Try.func155, Try.ntmps155
   go_wp2_with (first | ((with_reducible refine gate_callee (f := 125) rfl ?_); refine zD (some 9) Try.func125 #[.pointer (some ⟨g, 0, none⟩), .int .i64 (l1.length : Int)] ?_; (with_reducible refine (spec_l1Below.calls g s0_0 s0_1 s0_2 (l1.length : Int) t179 t180 t181 w0 _ ?side1 ?side2 A3.out).mono ?_); (case side1 => exact (zl19_0 HI0.out)); (case side2 => exact (zl19_1 HB.out (IsS110.ge HI0.out))); rintro e w6 ⟨rfl, hi, hb, hk⟩; refine ⟨_, rfl, ?_⟩; replace HK := Aside0.mk (KeepBut.trans (zl19_2 HK.out) hk (.inl rfl)); replace HI0 := Aside0.mk (hi); replace HB := Aside0.mk (hb); (try clear hb); (try clear hk); (try clear hi); have p182 : 0 ≤ (t179 : Int) := zA; have q182 : t179 < (l1.length : Int) := zA; obtain ⟨ad182, e182, hx182_0⟩ := Kd.at_string HR1.out t179 p182 q182; cases e182; replace hx182_0 := keep_cell HK.out hx182_0 (by first | (rw [add_block]; exact hf1 _ rfl (by omega)) | exact hf1 _ rfl (by omega) | exact hf1 ad182 rfl (by omega)); replace p182 := eq_true p182; replace q182 := eq_true q182))
   go_ret
   exact ⟨zE, (zl19_0 HI0.out), zG (IsS110.ge HI0.out), (zl19_2 HK.out)⟩
  rw [if_neg c5] at H
  exact absurd H (by simp)
 rw [if_neg c4] at H
 exact absurd H (by simp)
/-! ### spec_l3Draw: function 154 -/
def spec_l3Draw.l0 : Nat → Int → Int → List Int → Int → Int → Int → ByteArray → Option (Int × ByteArray × Int × Int)
 | 0, _, _, _, _, _, _, _ => none
 | k + 1, x3, x5, x1000, x1001, x1002, x191000, x191001 => if x5 < (wrap64 (Int.tdiv (wrap64 ((wrap64 (x3 * (wrap64 (x3 - 1)))) * (wrap64 (x3 - 2)))) 6)) then ((spec_l1Pick.f x1000 x1001 x1002 (([(⟨#[43]⟩ : ByteArray), (⟨#[45]⟩ : ByteArray), (⟨#[43]⟩ : ByteArray)] : List ByteArray))).bind fun bt194 => (if x191001.size + bt194.1.size ≤ 9223372036854775807 then (spec_l3Draw.l0 k x3 (wrap64 (x5 + 1)) x1000 bt194.2.1 bt194.2.2 x191000 (x191001 ++ bt194.1)) else (none))) else (some (x191000, x191001, x1001, x1002))
def spec_l3Draw.f (k : Nat) (s0_0 : List Int) (s0_1 : Int) (s0_2 : Int) : Option (Int × ByteArray × Int × Int) := (spec_l1Once.f s0_0 s0_1 s0_2 5).bind fun bt184 => (if bt184.1 = true then ((spec_l1Below.f s0_0 bt184.2.1 bt184.2.2 3).bind fun bt187 => (spec_l3Draw.l0 k (wrap64 (3 + bt187.1)) 0 s0_0 bt187.2.1 bt187.2.2 (wrap64 (3 + bt187.1)) (⟨#[]⟩ : ByteArray))) else ((spec_l2Draw.f k s0_0 bt184.2.1 bt184.2.2).bind fun bt197 => ((spec_SignsOf.f k bt197.1).bind fun bt202 => (some (bt202.1, bt202.2.1, bt197.2.1, bt197.2.2)))))
def spec_l3Draw.T7 : Bool × List (List Nat × List Nat) := (true, [([], []), ([0], [0]), ([], []), ([], []), ([2, 3], [2, 3]), ([1, 4], [1, 4]), ([0, 1, 2, 3, 4, 5], []), ([6, 5, 4, 0, 1, 2, 3, 4, 5], [5, 6])])
def spec_l3Draw.B7 : List Nat := [0, 1, 0, 0, 12, 31, 63, 127]
theorem spec_l3Draw.tab7 : rtab .any (opsOf Try.f154 7) = spec_l3Draw.T7 := by kernel_rfl
theorem spec_l3Draw.bits7 : waitsOk spec_l3Draw.T7.2 spec_l3Draw.B7 = true := by kernel_rfl
theorem zl20_0 {p q : Prop} (g : p) (h : p → q := by intro zg_; repeat (first | (with_reducible first | exact zg_ | apply IsS110.alloc | apply IsS110.drewN | apply IsS110.drew | apply IsS110.set_1 | apply IsS110.set_2) | exact zg_)) : q := h g
theorem zl20_1 {p q : Prop} (g : p) (h : p → q := by intro zg_; repeat (first | (with_reducible first | exact zg_ | apply KeepBut.set_ | apply keep_drewN | apply keep_drew | apply keep_alloc) | exact zg_)) : q := h g
theorem zl20_2 {p q p0 : Prop} (g : p) (g0 : p0) (h : p → p0 → q := by intro zg_ z0_; repeat (first | (with_reducible first | exact zg_ | apply IsS110.alloc | apply IsS110.drewN | apply IsS110.drew | apply IsS110.set_1 | apply IsS110.set_2 | refine IsS110.far ?_ z0_ _) | exact zg_)) : q := h g g0
theorem zl20_3 {p q p0 p1 : Prop} (g : p) (g0 : p0) (g1 : p1) (h : p → p0 → p1 → q := by intro zg_ z0_ z1_; repeat (first | (with_reducible first | exact zg_ | apply below_alloc | apply pw_below_drewN | apply below_drew1 | refine below_set ?_ z0_ | refine below_set ?_ z1_) | exact zg_)) : q := h g g0 g1
theorem zl20_4 {p q p0 : Prop} (g : p) (g0 : p0) (h : p → p0 → q := by intro zg_ z0_; repeat (first | (with_reducible first | exact zg_ | apply KeepBut.set_ | apply keep_drewN | apply keep_drew | apply keep_alloc | refine keep_far ?_ z0_ _) | exact zg_)) : q := h g g0
theorem zl20_5 {p q p0 p1 : Prop} (g : p) (g0 : p0) (g1 : p1) (h : p → p0 → p1 → q := by intro zg_ z0_ z1_; repeat (first | (with_reducible first | exact zg_ | apply IsS110.alloc | apply IsS110.drewN | apply IsS110.drew | apply IsS110.set_1 | apply IsS110.set_2 | refine IsS110.far ?_ z0_ _ | refine IsS110.far ?_ z1_ _) | exact zg_)) : q := h g g0 g1
theorem zl20_6 {p q p0 p1 : Prop} (g : p) (g0 : p0) (g1 : p1) (h : p → p0 → p1 → q := by intro zg_ z0_ z1_; repeat (first | (with_reducible first | exact zg_ | apply KeepBut.set_ | apply keep_drewN | apply keep_drew | apply keep_alloc | refine keep_far ?_ z0_ _ | refine keep_far ?_ z1_ _) | exact zg_)) : q := h g g0 g1
theorem zl20_7 {p q p0 p1 p2 : Prop} (g : p) (g0 : p0) (g1 : p1) (g2 : p2) (h : p → p0 → p1 → p2 → q := by intro zg_ z0_ z1_ z2_; repeat (first | (with_reducible first | exact zg_ | apply below_alloc | apply pw_below_drewN | apply below_drew1 | refine below_set ?_ z0_ | refine below_set ?_ z1_ | refine below_set ?_ z2_) | exact zg_)) : q := h g g0 g1 g2
set_option maxHeartbeats 8000000 in
set_option maxRecDepth 100000 in
theorem spec_l3Draw.calls (k : Nat) (g : Nat) (s0_0 : List Int) (s0_1 : Int) (s0_2 : Int) (r1 : Int) (r2 : ByteArray) (r3 : Int) (r4 : Int) (w0 w : World) (hI : IsS110 w0 w g s0_0 s0_1 s0_2) (hB : Below w0.heap.size w0 w) (h : spec_l3Draw.f k s0_0 s0_1 s0_2 = some (r1, r2, r3, r4)) :
  Calls Try.prog 154 #[.pointer (some ⟨g, 0, none⟩)] w fun e w' => e = .returned (.agg #[.int .i64 r1, .string r2]) ∧ IsS110 w0 w' g s0_0 r3 r4 ∧ Below w0.heap.size w0 w' ∧ KeepBut w w' g none := by
 have hu25 := Try.underlying25
 have HI0 := Aside0.mk hI
 have HK := Aside0.mk (KeepBut.refl w g none)
 have HL := Aside0.mk hB.size
 clear hI
 have HW0 := Aside0.mk hB.size
 have HB := Aside0.mk hB
 clear hB
 have H : ((spec_l1Once.f s0_0 s0_1 s0_2 5).bind fun bt184 => (if bt184.1 = true then ((spec_l1Below.f s0_0 bt184.2.1 bt184.2.2 3).bind fun bt187 => (spec_l3Draw.l0 k (wrap64 (3 + bt187.1)) 0 s0_0 bt187.2.1 bt187.2.2 (wrap64 (3 + bt187.1)) (⟨#[]⟩ : ByteArray))) else ((spec_l2Draw.f k s0_0 bt184.2.1 bt184.2.2).bind fun bt197 => ((spec_SignsOf.f k bt197.1).bind fun bt202 => (some (bt202.1, bt202.2.1, bt197.2.1, bt197.2.2)))))) = some (r1, r2, r3, r4) := h
 clear h
 obtain ⟨⟨t184, t185, t186⟩, A2, H⟩ := zO H
 dsimp only at H
 by_cases c3 : t184 = true
 ·subst c3
  replace H := (if_pos rfl).symm.trans H
  obtain ⟨⟨t187, t188, t189⟩, A4, H⟩ := zO H
  dsimp only at H
  have H' := Aside0.mk H; clear H
  go_enter Try.func154, Try.ntmps154
  go_wp2_with (first | ((with_reducible refine gate_dst (N := 2) rfl ?_); refine zBx (N := 2) #[.int .i64 0, .string (⟨#[]⟩ : ByteArray)] 25 ?_; intro gb183 hg w5 hbox hb; have n0_ := Aside0.mk (IsS110.below (zl20_0 HI0.out) hb); have n1_ := Aside0.mk (KeepBut.trans (zl20_1 HK.out) (KeepBut.of_below hb g none) (.inl rfl)); have n2_ := Aside0.mk (below_step (zG (IsS110.ge HI0.out)) hb); have n3_ := Aside0.mk (hbox); have n4_ := Aside0.mk ((by rw [hg]; exact (keep_size (w := w) (g := g) (row := none) (zl20_1 HK.out)) : w.heap.size ≤ gb183)); have n5_ := Aside0.mk ((Nat.le_trans HW0.out (by rw [hg]; exact (keep_size (w := w) (g := g) (row := none) (zl20_1 HK.out)) : w.heap.size ≤ gb183) : w0.heap.size ≤ gb183)); have n6_ := Aside0.mk ((by rw [hg]; exact Nat.ne_of_lt (IsS110.lt (show IsS110 w0 _ g s0_0 s0_1 s0_2 from (zl20_0 HI0.out))) : g ≠ gb183)); have n7_ := Aside0.mk ((by rw [hg]; exact Nat.ne_of_gt (IsS110.lt (show IsS110 w0 _ g s0_0 s0_1 s0_2 from (zl20_0 HI0.out))) : gb183 ≠ g)); clear HI0; clear HK; clear HB; have HI0 := n0_; have HK := n1_; have HB := n2_; have BK183 := n3_; have GW183 := n4_; have GE183 := n5_; have NB0_183 := n6_; have NB183_0 := n7_; clear n0_ n1_ n2_ n3_ n4_ n5_ n6_ n7_; clear hb hbox hg) | ((with_reducible refine gate_callee (f := 127) rfl ?_); refine zD (some 9) Try.func127 #[.pointer (some ⟨g, 0, none⟩), .int .i64 5] ?_; (with_reducible refine (spec_l1Once.calls g s0_0 s0_1 s0_2 5 true t185 t186 w0 _ ?side1 ?side2 A2.out).mono ?_); (case side1 => exact (zl20_2 HI0.out NB0_183.out)); (case side2 => exact (zl20_3 HB.out (IsS110.ge HI0.out) GE183.out)); rintro e w6 ⟨rfl, hi, hb, hk⟩; refine ⟨_, rfl, ?_⟩; replace BK183 := zKB hk BK183.out NB183_0.out; replace HK := Aside0.mk (KeepBut.trans (zl20_4 HK.out GW183.out) hk (.inl rfl)); replace HI0 := Aside0.mk (hi); replace HB := Aside0.mk (hb); (try clear hb); (try clear hk); (try clear hi)) | ((with_reducible refine gate_callee (f := 125) rfl ?_); refine zD (some 11) Try.func125 #[.pointer (some ⟨g, 0, none⟩), .int .i64 3] ?_; (with_reducible refine (spec_l1Below.calls g s0_0 t185 t186 3 t187 t188 t189 w0 _ ?side1 ?side2 A4.out).mono ?_); (case side1 => exact (zl20_2 HI0.out NB0_183.out)); (case side2 => exact (zl20_3 HB.out (IsS110.ge HI0.out) GE183.out)); rintro e w7 ⟨rfl, hi, hb, hk⟩; refine ⟨_, rfl, ?_⟩; replace BK183 := zKB hk BK183.out NB183_0.out; replace HK := Aside0.mk (KeepBut.trans (zl20_4 HK.out GW183.out) hk (.inl rfl)); replace HI0 := Aside0.mk (hi); replace HB := Aside0.mk (hb); (try clear hb); (try clear hk); (try clear hi)) | ((with_reducible refine gate_dst (N := 4) rfl ?_); refine zBx (N := 4) #[.int .i64 0, .string (⟨#[]⟩ : ByteArray)] 25 ?_; intro gb190 hg w8 hbox hb; have n0_ := Aside0.mk (IsS110.below (zl20_2 HI0.out NB0_183.out) hb); have n1_ := zV BK183.out hb; have n2_ := Aside0.mk (KeepBut.trans (zl20_4 HK.out GW183.out) (KeepBut.of_below hb g none) (.inl rfl)); have n3_ := Aside0.mk (below_step (zG2 (IsS110.ge HI0.out) GE183.out) hb); have n4_ := Aside0.mk (hbox); have n5_ := Aside0.mk ((by rw [hg]; exact (keep_size (w := w) (g := g) (row := none) (zl20_4 HK.out GW183.out)) : w.heap.size ≤ gb190)); have n6_ := Aside0.mk ((Nat.le_trans HW0.out (by rw [hg]; exact (keep_size (w := w) (g := g) (row := none) (zl20_4 HK.out GW183.out)) : w.heap.size ≤ gb190) : w0.heap.size ≤ gb190)); have n7_ := zL hg BK183.out; have n8_ := zLg hg BK183.out; have n9_ := Aside0.mk ((by rw [hg]; exact Nat.ne_of_lt (IsS110.lt (show IsS110 w0 _ g s0_0 t188 t189 from (zl20_2 HI0.out NB0_183.out))) : g ≠ gb190)); have n10_ := Aside0.mk ((by rw [hg]; exact Nat.ne_of_gt (IsS110.lt (show IsS110 w0 _ g s0_0 t188 t189 from (zl20_2 HI0.out NB0_183.out))) : gb190 ≠ g)); clear HI0; clear BK183; clear HK; clear HB; have HI0 := n0_; have BK183 := n1_; have HK := n2_; have HB := n3_; have BK190 := n4_; have GW190 := n5_; have GE190 := n6_; have NB183_190 := n7_; have NB190_183 := n8_; have NB0_190 := n9_; have NB190_0 := n10_; clear n0_ n1_ n2_ n3_ n4_ n5_ n6_ n7_ n8_ n9_ n10_; clear hb hbox hg; have hnb9 := NB190_183.out; have hnc9 := NB183_190.out; have hnb10 := NB190_0.out; have hnc10 := NB0_190.out; obtain ⟨hcz11_0, hcz11_1, hfz11_0, hfz11_1⟩ := zq2 BK190.out))
  go_loopg [5] k (fun kq v5 w' => ∃ (x5_1 : Int) (x1001_1 : Int) (x1002_1 : Int) (x191001_1 : ByteArray), v5 = .int .i64 x5_1 ∧ Aside0 (spec_l3Draw.l0 kq (wrap64 (3 + t187)) x5_1 s0_0 x1001_1 x1002_1 (wrap64 (3 + t187)) x191001_1 = some (r1, r2, r3, r4)) ∧ Aside0 (kq ≤ k) ∧ Aside0 (w'.heap[gb183]? = some (.cells #[.int .i64 0, .string (⟨#[]⟩ : ByteArray)] 25 (0, 0))) ∧ Aside0 (w'.heap[gb190]? = some (.cells #[.int .i64 (wrap64 (3 + t187)), .string x191001_1] 25 (0, 0))) ∧ Aside0 (IsS110 w0 w' g s0_0 x1001_1 x1002_1) ∧ Aside0 (KeepBut w w' g none) ∧ Aside0 (Below w0.heap.size w0 w'))
  case atStart => exact ⟨(0), (t188), (t189), ((⟨#[]⟩ : ByteArray)), zF, H', ⟨Nat.le_refl _⟩, ⟨zk2 BK183.out NB183_190.out NB183_190.out⟩, ⟨zk0 BK190.out⟩, ⟨(zl20_5 HI0.out NB0_183.out NB0_190.out)⟩, ⟨(zl20_6 HK.out GW183.out GW190.out)⟩, ⟨zG3 (IsS110.ge HI0.out) GE183.out GE190.out⟩⟩
  case round =>
  clear H'
  try clear c3
  try clear hcz11_0
  try clear hcz11_1
  try clear hfz11_0
  try clear hfz11_1
  obtain ⟨x5_1, x1001_1, x1002_1, x191001_1, rfl, HA, HK1, BK183, BK190, HI0, HK, HB⟩ := hrel
  cases gk with
  | zero => exact absurd HA.out (by simp [spec_l3Draw.l0])
  | succ k1 =>
  have H := HA.out
  clear HA
  simp only [spec_l3Draw.l0] at H
  by_cases c12 : x5_1 < (wrap64 (Int.tdiv (wrap64 ((wrap64 ((wrap64 (3 + t187)) * (wrap64 ((wrap64 (3 + t187)) - 1)))) * (wrap64 ((wrap64 (3 + t187)) - 2)))) 6))
  ·rw [if_pos c12] at H
   have c12b0 := decide_eq_true c12
   clear c12
   obtain ⟨y191, hy191⟩ : ∃ y_ : List ByteArray, y_ = (([(⟨#[43]⟩ : ByteArray), (⟨#[45]⟩ : ByteArray), (⟨#[43]⟩ : ByteArray)] : List ByteArray)) := ⟨_, rfl⟩
   replace H : ((spec_l1Pick.f s0_0 x1001_1 x1002_1 y191).bind fun bt194 => (if x191001_1.size + bt194.1.size ≤ 9223372036854775807 then (spec_l3Draw.l0 k1 (wrap64 (3 + t187)) (wrap64 (x5_1 + 1)) s0_0 bt194.2.1 bt194.2.2 (wrap64 (3 + t187)) (x191001_1 ++ bt194.1)) else (none))) = some (r1, r2, r3, r4) := by first | (rw [hy191]; with_reducible exact H) | (have H2_ := (Option.bind_some _ _).symm.trans H; rw [hy191]; with_reducible exact H2_) | (have H2_ := (Option.bind_some _ _).symm.trans H; with_reducible exact H2_) | with_reducible exact H | (rw [hy191]; exact H) | exact H
   have Ny191 := Aside0.mk hy191
   clear hy191
   obtain ⟨⟨t194, t195, t196⟩, A13, H⟩ := zO H
   dsimp only at H
   by_cases c14 : x191001_1.size + t194.size ≤ 9223372036854775807
   ·rw [if_pos c14] at H
    have c14b0 := eq_true c14
    have c14b1 := decide_eq_true c14
    try have c14b2 : (9223372036854775807 < x191001_1.size + t194.size) = False := eq_false (Nat.not_lt.2 c14)
    have H' := Aside0.mk H; clear H
    try go_wp2
    replace BK183 := Aside0.mk (blk_drew BK183.out)
    replace BK190 := Aside0.mk (blk_drew BK190.out)
    replace HI0 := Aside0.mk (IsS110.drew HI0.out)
    replace HK := Aside0.mk (keep_drew HK.out)
    replace HB := Aside0.mk (below_drew1 HB.out)
    refine start_ (n := 8) (S := fun w' => w'.cell? ⟨gb190, 0, none⟩ = some (.int .i64 (wrap64 (3 + t187))) ∧ w'.cell? ⟨gb190, 1, none⟩ = some (.string x191001_1)) (ds := [7]) #[false, false, false, false, false, false, false, false] (by kernel_rfl) rfl rfl ⟨(blk_cell BK190.out 0).trans rfl, (blk_cell BK190.out 1).trans rfl⟩ (fun hHeld => ?_); refine with_tabW spec_l3Draw.tab7 spec_l3Draw.bits7 (fun HT_ HW_ => ?_)
    generalize wr.drew = w15 at BK183 BK190 HI0 HK HB hHeld ⊢
    refine zP 0 (some 27) rfl rfl ?_
    refine zP 2 (some 29) rfl rfl ?_
    refine zY2 1 (some 28) rfl rfl hHeld ?_
    refine zU 3 (some 30) rfl rfl (fun K hK => ?_)
    refine Kd.R_lit_step Kd.string _ 9 ?hg (N := 30) ?hd (xs := ([(⟨#[43]⟩ : ByteArray), (⟨#[45]⟩ : ByteArray), (⟨#[43]⟩ : ByteArray)] : List ByteArray)) (inner := [.string (⟨#[43]⟩ : ByteArray), .string (⟨#[45]⟩ : ByteArray), .string (⟨#[43]⟩ : ByteArray)]) (ok := fun _ => True) (okp := fun _ => True) ?hr ?hp (fun _ hk => hk) trivial (Below.refl _ _) (Nat.le_refl _) (by simp) ?_; (case hd => rfl); (case hg => rfl); (case hr => first | (go_simp; done) | (go_simp; rfl)); (case hp => exact (Reps.one (show Kd.M Kd.string _ _ _ (⟨#[43]⟩ : ByteArray) [.string (⟨#[43]⟩ : ByteArray)] from rfl) (Reps.one (show Kd.M Kd.string _ _ _ (⟨#[45]⟩ : ByteArray) [.string (⟨#[45]⟩ : ByteArray)] from rfl) (Reps.one (show Kd.M Kd.string _ _ _ (⟨#[43]⟩ : ByteArray) [.string (⟨#[43]⟩ : ByteArray)] from rfl) (Reps.none _ _)))))
    intro v192 w16 ho17 hb hg_ hnew_
    clear hg_ hnew_
    (first | rw [← Ny191.out] at ho17 | (simp only [Int.reduceToNat] at ho17; rw [← Ny191.out] at ho17))
    have n0_ := Aside0.mk (Kd.R_lower ho17 (keep_size (w := w) (g := g) (row := none) (zl20_6 HK.out GW183.out GW190.out)))
    have n1_ := zV BK183.out hb
    have n2_ := zV BK190.out hb
    have n3_ := Aside0.mk (IsS110.below (zl20_5 HI0.out NB0_183.out NB0_190.out) hb)
    have n4_ := Aside0.mk (KeepBut.trans (zl20_6 HK.out GW183.out GW190.out) (KeepBut.of_below hb g none) (.inl rfl))
    have n5_ := Aside0.mk (below_step (zG3 (IsS110.ge HI0.out) GE183.out GE190.out) hb)
    clear BK183
    clear BK190
    clear HI0
    clear HK
    clear HB
    have HO193 := n0_
    have BK183 := n1_
    have BK190 := n2_
    have HI0 := n3_
    have HK := n4_
    have HB := n5_
    clear n0_ n1_ n2_ n3_ n4_ n5_
    clear hb ho17
    obtain ⟨Ao18, co18, eo18⟩ := Kd.R_slice HO193.out
    (first | subst eo18 | (injection eo18 with f1_ f2_ f3_; have f4_ := f1_.symm; have f5_ := f3_.symm; clear f1_ f2_ f3_; subst f4_; subst f5_))
    refine hK.out _ _ (zh2 BK190.out) (fun hHeld => ?_)
    clear hK K
    refine zN ?_
    refine zU 4 (some 31) rfl rfl (fun K hK => ?_)
    refine goes_ Try.func155 (by kernel_rfl) rfl #[.pointer (some ⟨g, 0, none⟩), .slice Ao18 y191.length co18] (by rfl) rfl rfl zM ?_
    with_reducible refine (spec_l1Pick.calls g s0_0 x1001_1 x1002_1 _ _ y191 t194 t195 t196 w0 _ ?side1 ?side2 ?side3 ?side4 ?side5 A13.out).mono ?_
    (case side1 => exact (zl20_5 HI0.out NB0_183.out NB0_190.out))
    (case side2 => exact (zl20_7 HB.out (IsS110.ge HI0.out) GE183.out GE190.out))
    (case side3 => repeat (first | exact (Kd.R_reads' HO193.out).2.2 | (with_reducible refine Kd.C_alloc ?_ _) | (with_reducible refine Kd.C_drewN ?_ _) | (with_reducible refine Kd.C_drew ?_)))
    (case side4 => exact (Kd.R_reads' HO193.out).2.1)
    (case side5 => exact far_slice (IsS110.own_ne HI0.out HO193.out (by decide)))
    rintro e w19 ⟨rfl, hi, hb, hk⟩
    refine ⟨_, rfl, ?_⟩
    replace BK183 := zKB hk BK183.out NB183_0.out
    replace BK190 := zKB hk BK190.out NB190_0.out
    replace HO193 := Aside0.mk (Kd.R_mono (Kd.R_keep (IsS110.apart (show IsS110 w0 _ g s0_0 x1001_1 x1002_1 from (zl20_5 HI0.out NB0_183.out NB0_190.out)) (zR HO193.out) (by decide)) hk (fun _ h => h.2)) (fun _ h => h.1))
    replace HK := Aside0.mk (KeepBut.trans (zl20_6 HK.out GW183.out GW190.out) hk (.inl rfl))
    replace HI0 := Aside0.mk (hi)
    replace HB := Aside0.mk (hb)
    (try clear hb)
    (try clear hk)
    (try clear hi)
    refine hK.out _ _ (zh2 BK190.out) (fun hHeld => ?_)
    clear hK K
    refine zN ?_
    refine zP 5 (some 32) rfl rfl ?_
    refine zP 6 (some 33) rfl rfl ?_
    refine last_ (i := 7) (N := none) #[true, true, true, true, true, true, true, true] rfl rfl (one_of HT_.out (by kernel_rfl)) (by decide) (fun K hK => ?_)
    have hs20 : w19.cell? ⟨gb190, 1, none⟩ = some (.string x191001_1) := (blk_cell BK190.out 1).trans rfl
    have hfs20 := blk_frozen BK190.out 1
    have hns20_0 := NB183_190.out
    have hms20_0 := NB190_183.out
    refine skip_ (w1 := ?_) (by rfl) rfl ?_ ?_
    rotate_left
    ·go_simp
     rfl
    refine hK.out _ _ ?_
    clear hK K
    refine done_ (done_of HT_.out (by kernel_rfl)) ?_
    try go_wp2
    go_roundg k1
    case measure => have := HK1.out; omega
    case rel => exact ⟨(wrap64 (x5_1 + 1)), (t195), (t196), (x191001_1 ++ t194), zF, H', ⟨by have := HK1.out; omega⟩, ⟨zk1 BK183.out NB183_190.out⟩, ⟨zk0 BK190.out⟩, ⟨(zl20_5 HI0.out NB0_183.out NB0_190.out)⟩, ⟨(zl20_6 HK.out GW183.out GW190.out)⟩, ⟨zG3 (IsS110.ge HI0.out) GE183.out GE190.out⟩⟩
   rw [if_neg c14] at H
   exact absurd H (by simp)
  rw [if_neg c12] at H
  have c12b0 := decide_eq_false c12
  clear c12
  simp only [Option.some.injEq, Prod.mk.injEq] at H
  obtain ⟨rfl, rfl, rfl, rfl⟩ := H
  have hnb21 := NB190_183.out
  have hnc21 := NB183_190.out
  have hnb22 := NB190_0.out
  have hnc22 := NB0_190.out
  obtain ⟨hcz23_0, hcz23_1, hfz23_0, hfz23_1⟩ := zq2 BK190.out
  have hnb24 := NB183_0.out
  have hnc24 := NB0_183.out
  obtain ⟨hcz25_0, hcz25_1, hfz25_0, hfz25_1⟩ := zq2 BK183.out
  go_wp2
  refine bodyPost_ret (results_cell_row rfl _ _ gb183 25 #[.int .i64 (wrap64 (3 + t187)), .string x191001_1] (0, 0) _ rfl (zk0 BK183.out) Try.underlying25 rfl (by kernel_rfl)) rfl ?_
  exact ⟨zE, (zl20_5 HI0.out NB0_183.out NB0_190.out), zG3 (IsS110.ge HI0.out) GE183.out GE190.out, (zl20_6 HK.out GW183.out GW190.out)⟩
 replace c3 := Bool.eq_false_iff.mpr c3
 subst c3
 replace H := (if_neg zFf).symm.trans H
 obtain ⟨⟨t197, t200, t201⟩, A26, H⟩ := zO H
 dsimp only at H
 obtain ⟨⟨t202, t203, t204⟩, A27, H⟩ := zO H
 replace H : (some (t202, t203, t200, t201)) = some (r1, r2, r3, r4) := H
 simp only [Option.some.injEq, Prod.mk.injEq] at H
 obtain ⟨rfl, rfl, rfl, rfl⟩ := H
 go_enter Try.func154, Try.ntmps154
 go_wp2_with (first | ((with_reducible refine gate_dst (N := 2) rfl ?_); refine zBx (N := 2) #[.int .i64 0, .string (⟨#[]⟩ : ByteArray)] 25 ?_; intro gb183 hg w28 hbox hb; have n0_ := Aside0.mk (IsS110.below (zl20_0 HI0.out) hb); have n1_ := Aside0.mk (KeepBut.trans (zl20_1 HK.out) (KeepBut.of_below hb g none) (.inl rfl)); have n2_ := Aside0.mk (below_step (zG (IsS110.ge HI0.out)) hb); have n3_ := Aside0.mk (hbox); have n4_ := Aside0.mk ((by rw [hg]; exact (keep_size (w := w) (g := g) (row := none) (zl20_1 HK.out)) : w.heap.size ≤ gb183)); have n5_ := Aside0.mk ((Nat.le_trans HW0.out (by rw [hg]; exact (keep_size (w := w) (g := g) (row := none) (zl20_1 HK.out)) : w.heap.size ≤ gb183) : w0.heap.size ≤ gb183)); have n6_ := Aside0.mk ((by rw [hg]; exact Nat.ne_of_lt (IsS110.lt (show IsS110 w0 _ g s0_0 s0_1 s0_2 from (zl20_0 HI0.out))) : g ≠ gb183)); have n7_ := Aside0.mk ((by rw [hg]; exact Nat.ne_of_gt (IsS110.lt (show IsS110 w0 _ g s0_0 s0_1 s0_2 from (zl20_0 HI0.out))) : gb183 ≠ g)); clear HI0; clear HK; clear HB; have HI0 := n0_; have HK := n1_; have HB := n2_; have BK183 := n3_; have GW183 := n4_; have GE183 := n5_; have NB0_183 := n6_; have NB183_0 := n7_; clear n0_ n1_ n2_ n3_ n4_ n5_ n6_ n7_; clear hb hbox hg) | ((with_reducible refine gate_callee (f := 127) rfl ?_); refine zD (some 9) Try.func127 #[.pointer (some ⟨g, 0, none⟩), .int .i64 5] ?_; (with_reducible refine (spec_l1Once.calls g s0_0 s0_1 s0_2 5 false t185 t186 w0 _ ?side1 ?side2 A2.out).mono ?_); (case side1 => exact (zl20_2 HI0.out NB0_183.out)); (case side2 => exact (zl20_3 HB.out (IsS110.ge HI0.out) GE183.out)); rintro e w29 ⟨rfl, hi, hb, hk⟩; refine ⟨_, rfl, ?_⟩; replace BK183 := zKB hk BK183.out NB183_0.out; replace HK := Aside0.mk (KeepBut.trans (zl20_4 HK.out GW183.out) hk (.inl rfl)); replace HI0 := Aside0.mk (hi); replace HB := Aside0.mk (hb); (try clear hb); (try clear hk); (try clear hi)) | ((with_reducible refine gate_callee (f := 148) rfl ?_); refine zD (some 37) Try.func148 #[.pointer (some ⟨g, 0, none⟩)] ?_; (with_reducible refine (spec_l2Draw.calls k g s0_0 t185 t186 t197 t200 t201 w0 _ ?side1 ?side2 A26.out).mono ?_); (case side1 => exact (zl20_2 HI0.out NB0_183.out)); (case side2 => exact (zl20_3 HB.out (IsS110.ge HI0.out) GE183.out)); rintro e w30 ⟨v198, rfl, ho0, hi, hb, hk⟩; refine ⟨_, rfl, ?_⟩; replace BK183 := zKB hk BK183.out NB183_0.out; have HO199 := Aside0.mk (Kd.R_lower ho0 (keep_size (w := w) (g := g) (row := none) (zl20_4 HK.out GW183.out))); replace HK := Aside0.mk (KeepBut.trans (zl20_4 HK.out GW183.out) hk (.inl rfl)); replace HI0 := Aside0.mk (hi); replace HB := Aside0.mk (hb); (try clear hb); (try clear hk); (try clear hi); (try clear ho0); obtain ⟨Ao31, co31, eo31⟩ := Kd.R_slice HO199.out; subst eo31) | ((with_reducible refine gate_callee (f := 27) rfl ?_); refine zD (some 38) Try.func27 #[.slice Ao31 t197.length co31] ?_; (with_reducible refine (spec_SignsOf.calls k _ _ t197 t202 t203 t204 _ ?side1 ?side2 A27.out).mono ?_); (case side1 => repeat (first | exact (Kd.R_reads' HO199.out).2.2 | (with_reducible refine Kd.C_alloc ?_ _) | (with_reducible refine Kd.C_drewN ?_ _) | (with_reducible refine Kd.C_drew ?_))); (case side2 => exact (Kd.R_reads' HO199.out).2.1); rintro e w32 ⟨rfl, hb⟩; refine ⟨_, rfl, ?_⟩; have n0_ := zW HO199.out hb; have n1_ := Aside0.mk (IsS110.below (zl20_2 HI0.out NB0_183.out) hb); have n2_ := zV BK183.out hb; have n3_ := Aside0.mk (KeepBut.trans (zl20_4 HK.out GW183.out) (KeepBut.of_below hb g none) (.inl rfl)); have n4_ := Aside0.mk (below_step (zG2 (IsS110.ge HI0.out) GE183.out) hb); clear HO199; clear HI0; clear BK183; clear HK; clear HB; have HO199 := n0_; have HI0 := n1_; have BK183 := n2_; have HK := n3_; have HB := n4_; clear n0_ n1_ n2_ n3_ n4_; (try clear hb)) | ((with_reducible refine gate_dst (N := 6) rfl ?_); refine zBx (N := 6) #[.int .i64 0, .string (⟨#[]⟩ : ByteArray)] 25 ?_; intro gb205 hg w33 hbox hb; have n0_ := zW HO199.out hb; have n1_ := Aside0.mk (IsS110.below (zl20_2 HI0.out NB0_183.out) hb); have n2_ := zV BK183.out hb; have n3_ := Aside0.mk (KeepBut.trans (zl20_4 HK.out GW183.out) (KeepBut.of_below hb g none) (.inl rfl)); have n4_ := Aside0.mk (below_step (zG2 (IsS110.ge HI0.out) GE183.out) hb); have n5_ := Aside0.mk (hbox); have n6_ := Aside0.mk ((by rw [hg]; exact (keep_size (w := w) (g := g) (row := none) (zl20_4 HK.out GW183.out)) : w.heap.size ≤ gb205)); have n7_ := Aside0.mk ((Nat.le_trans HW0.out (by rw [hg]; exact (keep_size (w := w) (g := g) (row := none) (zl20_4 HK.out GW183.out)) : w.heap.size ≤ gb205) : w0.heap.size ≤ gb205)); have n8_ := zL hg BK183.out; have n9_ := zLg hg BK183.out; have n10_ := Aside0.mk ((by rw [hg]; exact Nat.ne_of_lt (IsS110.lt (show IsS110 w0 _ g s0_0 t200 t201 from (zl20_2 HI0.out NB0_183.out))) : g ≠ gb205)); have n11_ := Aside0.mk ((by rw [hg]; exact Nat.ne_of_gt (IsS110.lt (show IsS110 w0 _ g s0_0 t200 t201 from (zl20_2 HI0.out NB0_183.out))) : gb205 ≠ g)); clear HO199; clear HI0; clear BK183; clear HK; clear HB; have HO199 := n0_; have HI0 := n1_; have BK183 := n2_; have HK := n3_; have HB := n4_; have BK205 := n5_; have GW205 := n6_; have GE205 := n7_; have NB183_205 := n8_; have NB205_183 := n9_; have NB0_205 := n10_; have NB205_0 := n11_; clear n0_ n1_ n2_ n3_ n4_ n5_ n6_ n7_ n8_ n9_ n10_ n11_; clear hb hbox hg; have hnb34 := NB205_183.out; have hnc34 := NB183_205.out; have hnb35 := NB205_0.out; have hnc35 := NB0_205.out; obtain ⟨hcz36_0, hcz36_1, hfz36_0, hfz36_1⟩ := zq2 BK205.out; have hnb37 := NB183_0.out; have hnc37 := NB0_183.out; obtain ⟨hcz38_0, hcz38_1, hfz38_0, hfz38_1⟩ := zq2 BK183.out))
 refine bodyPost_ret (results_cell_row rfl _ _ gb183 25 #[.int .i64 t202, .string t203] (0, 0) _ rfl (zk2 BK183.out NB183_205.out NB183_205.out) Try.underlying25 rfl (by kernel_rfl)) rfl ?_
 exact ⟨zE, (zl20_5 HI0.out NB0_183.out NB0_205.out), zG3 (IsS110.ge HI0.out) GE183.out GE205.out, (zl20_6 HK.out GW183.out GW205.out)⟩
/-! ### spec_l3Bent: function 141 -/
def spec_l3Bent.f (k : Nat) (s0_0 : List Int) (s0_1 : Int) (s0_2 : Int) : Option (Int × ByteArray × Int × Int) := (spec_l3Draw.f k s0_0 s0_1 s0_2).bind fun bt207 => ((spec_l1Below.f s0_0 bt207.2.2.1 bt207.2.2.2 18).bind fun bt212 => (if bt212.1 = 0 then ((spec_l1PickInt.f s0_0 bt212.2.1 bt212.2.2 (([2, 8, 4, 5] : List Int))).bind fun bt218 => (some (bt218.1, bt207.2.1, bt218.2.1, bt218.2.2))) else (if bt212.1 = 1 then ((spec_l1Pick.f s0_0 bt212.2.1 bt212.2.2 (([(⟨#[43]⟩ : ByteArray), (⟨#[48]⟩ : ByteArray)] : List ByteArray))).bind fun bt224 => (if bt207.2.1.size + bt224.1.size ≤ 9223372036854775807 then (some (bt207.1, bt207.2.1 ++ bt224.1, bt224.2.1, bt224.2.2)) else (none))) else (some (bt207.1, bt207.2.1, bt212.2.1, bt212.2.2)))))
def spec_l3Bent.T6 : Bool × List (List Nat × List Nat) := (true, [([], []), ([0], [0]), ([], []), ([], []), ([2, 3], [2, 3]), ([1, 4], [1, 4]), ([0, 1, 2, 3, 4, 5], []), ([6, 5, 4, 0, 1, 2, 3, 4, 5], [5, 6])])
def spec_l3Bent.B6 : List Nat := [0, 1, 0, 0, 12, 31, 63, 127]
theorem spec_l3Bent.tab6 : rtab .any (opsOf Try.f141 6) = spec_l3Bent.T6 := by kernel_rfl
theorem spec_l3Bent.bits6 : waitsOk spec_l3Bent.T6.2 spec_l3Bent.B6 = true := by kernel_rfl
theorem zl21_0 {p q : Prop} (g : p) (h : p → q := by intro zg_; repeat (first | (with_reducible first | exact zg_ | apply IsS110.alloc | apply IsS110.drewN | apply IsS110.drew | apply IsS110.set_1 | apply IsS110.set_2) | exact zg_)) : q := h g
theorem zl21_1 {p q : Prop} (g : p) (h : p → q := by intro zg_; repeat (first | (with_reducible first | exact zg_ | apply KeepBut.set_ | apply keep_drewN | apply keep_drew | apply keep_alloc) | exact zg_)) : q := h g
theorem zl21_2 {p q p0 : Prop} (g : p) (g0 : p0) (h : p → p0 → q := by intro zg_ z0_; repeat (first | (with_reducible first | exact zg_ | apply IsS110.alloc | apply IsS110.drewN | apply IsS110.drew | apply IsS110.set_1 | apply IsS110.set_2 | refine IsS110.far ?_ z0_ _) | exact zg_)) : q := h g g0
theorem zl21_3 {p q p0 p1 : Prop} (g : p) (g0 : p0) (g1 : p1) (h : p → p0 → p1 → q := by intro zg_ z0_ z1_; repeat (first | (with_reducible first | exact zg_ | apply below_alloc | apply pw_below_drewN | apply below_drew1 | refine below_set ?_ z0_ | refine below_set ?_ z1_) | exact zg_)) : q := h g g0 g1
theorem zl21_4 {p q p0 : Prop} (g : p) (g0 : p0) (h : p → p0 → q := by intro zg_ z0_; repeat (first | (with_reducible first | exact zg_ | apply KeepBut.set_ | apply keep_drewN | apply keep_drew | apply keep_alloc | refine keep_far ?_ z0_ _) | exact zg_)) : q := h g g0
theorem zl21_5 {p q p0 p1 : Prop} (g : p) (g0 : p0) (g1 : p1) (h : p → p0 → p1 → q := by intro zg_ z0_ z1_; repeat (first | (with_reducible first | exact zg_ | apply IsS110.alloc | apply IsS110.drewN | apply IsS110.drew | apply IsS110.set_1 | apply IsS110.set_2 | refine IsS110.far ?_ z0_ _ | refine IsS110.far ?_ z1_ _) | exact zg_)) : q := h g g0 g1
theorem zl21_6 {p q p0 p1 p2 : Prop} (g : p) (g0 : p0) (g1 : p1) (g2 : p2) (h : p → p0 → p1 → p2 → q := by intro zg_ z0_ z1_ z2_; repeat (first | (with_reducible first | exact zg_ | apply below_alloc | apply pw_below_drewN | apply below_drew1 | refine below_set ?_ z0_ | refine below_set ?_ z1_ | refine below_set ?_ z2_) | exact zg_)) : q := h g g0 g1 g2
theorem zl21_7 {p q p0 p1 : Prop} (g : p) (g0 : p0) (g1 : p1) (h : p → p0 → p1 → q := by intro zg_ z0_ z1_; repeat (first | (with_reducible first | exact zg_ | apply KeepBut.set_ | apply keep_drewN | apply keep_drew | apply keep_alloc | refine keep_far ?_ z0_ _ | refine keep_far ?_ z1_ _) | exact zg_)) : q := h g g0 g1
set_option maxHeartbeats 8000000 in
set_option maxRecDepth 100000 in
theorem spec_l3Bent.calls (k : Nat) (g : Nat) (s0_0 : List Int) (s0_1 : Int) (s0_2 : Int) (r1 : Int) (r2 : ByteArray) (r3 : Int) (r4 : Int) (w0 w : World) (hI : IsS110 w0 w g s0_0 s0_1 s0_2) (hB : Below w0.heap.size w0 w) (h : spec_l3Bent.f k s0_0 s0_1 s0_2 = some (r1, r2, r3, r4)) :
  Calls Try.prog 141 #[.pointer (some ⟨g, 0, none⟩)] w fun e w' => e = .returned (.agg #[.int .i64 r1, .string r2]) ∧ IsS110 w0 w' g s0_0 r3 r4 ∧ Below w0.heap.size w0 w' ∧ KeepBut w w' g none := by
 have hu25 := Try.underlying25
 have HI0 := Aside0.mk hI
 have HK := Aside0.mk (KeepBut.refl w g none)
 have HL := Aside0.mk hB.size
 clear hI
 have HW0 := Aside0.mk hB.size
 have HB := Aside0.mk hB
 clear hB
 have H : ((spec_l3Draw.f k s0_0 s0_1 s0_2).bind fun bt207 => ((spec_l1Below.f s0_0 bt207.2.2.1 bt207.2.2.2 18).bind fun bt212 => (if bt212.1 = 0 then ((spec_l1PickInt.f s0_0 bt212.2.1 bt212.2.2 (([2, 8, 4, 5] : List Int))).bind fun bt218 => (some (bt218.1, bt207.2.1, bt218.2.1, bt218.2.2))) else (if bt212.1 = 1 then ((spec_l1Pick.f s0_0 bt212.2.1 bt212.2.2 (([(⟨#[43]⟩ : ByteArray), (⟨#[48]⟩ : ByteArray)] : List ByteArray))).bind fun bt224 => (if bt207.2.1.size + bt224.1.size ≤ 9223372036854775807 then (some (bt207.1, bt207.2.1 ++ bt224.1, bt224.2.1, bt224.2.2)) else (none))) else (some (bt207.1, bt207.2.1, bt212.2.1, bt212.2.2)))))) = some (r1, r2, r3, r4) := h
 clear h
 obtain ⟨⟨t207, t208, t209, t210⟩, A2, H⟩ := zO H
 dsimp only at H
 obtain ⟨⟨t212, t213, t214⟩, A3, H⟩ := zO H
 dsimp only at H
 by_cases c4 : t212 = 0
 ·rw [if_pos c4] at H
  have c4b0 := beq_iff_eq.mpr c4
  have c4b1 := bne_eq_false_iff_eq.mpr c4
  clear c4
  obtain ⟨y215, hy215⟩ : ∃ y_ : List Int, y_ = (([2, 8, 4, 5] : List Int)) := ⟨_, rfl⟩
  replace H : ((spec_l1PickInt.f s0_0 t213 t214 y215).bind fun bt218 => (some (bt218.1, t208, bt218.2.1, bt218.2.2))) = some (r1, r2, r3, r4) := by first | (rw [hy215]; with_reducible exact H) | (have H2_ := (Option.bind_some _ _).symm.trans H; rw [hy215]; with_reducible exact H2_) | (have H2_ := (Option.bind_some _ _).symm.trans H; with_reducible exact H2_) | with_reducible exact H | (rw [hy215]; exact H) | exact H
  have Ny215 := Aside0.mk hy215
  clear hy215
  obtain ⟨⟨t218, t219, t220⟩, A5, H⟩ := zO H
  replace H : (some (t218, t208, t219, t220)) = some (r1, r2, r3, r4) := H
  simp only [Option.some.injEq, Prod.mk.injEq] at H
  obtain ⟨rfl, rfl, rfl, rfl⟩ := H
  go_enter Try.func141, Try.ntmps141
  go_wp2_with (first | ((with_reducible refine gate_dst (N := 2) rfl ?_); refine zBx (N := 2) #[.int .i64 0, .string (⟨#[]⟩ : ByteArray)] 25 ?_; intro gb206 hg w6 hbox hb; have n0_ := Aside0.mk (IsS110.below (zl21_0 HI0.out) hb); have n1_ := Aside0.mk (KeepBut.trans (zl21_1 HK.out) (KeepBut.of_below hb g none) (.inl rfl)); have n2_ := Aside0.mk (below_step (zG (IsS110.ge HI0.out)) hb); have n3_ := Aside0.mk (hbox); have n4_ := Aside0.mk ((by rw [hg]; exact (keep_size (w := w) (g := g) (row := none) (zl21_1 HK.out)) : w.heap.size ≤ gb206)); have n5_ := Aside0.mk ((Nat.le_trans HW0.out (by rw [hg]; exact (keep_size (w := w) (g := g) (row := none) (zl21_1 HK.out)) : w.heap.size ≤ gb206) : w0.heap.size ≤ gb206)); have n6_ := Aside0.mk ((by rw [hg]; exact Nat.ne_of_lt (IsS110.lt (show IsS110 w0 _ g s0_0 s0_1 s0_2 from (zl21_0 HI0.out))) : g ≠ gb206)); have n7_ := Aside0.mk ((by rw [hg]; exact Nat.ne_of_gt (IsS110.lt (show IsS110 w0 _ g s0_0 s0_1 s0_2 from (zl21_0 HI0.out))) : gb206 ≠ g)); clear HI0; clear HK; clear HB; have HI0 := n0_; have HK := n1_; have HB := n2_; have BK206 := n3_; have GW206 := n4_; have GE206 := n5_; have NB0_206 := n6_; have NB206_0 := n7_; clear n0_ n1_ n2_ n3_ n4_ n5_ n6_ n7_; clear hb hbox hg) | ((with_reducible refine gate_callee (f := 154) rfl ?_); refine zD (some 5) Try.func154 #[.pointer (some ⟨g, 0, none⟩)] ?_; (with_reducible refine (spec_l3Draw.calls k g s0_0 s0_1 s0_2 t207 t208 t209 t210 w0 _ ?side1 ?side2 A2.out).mono ?_); (case side1 => exact (zl21_2 HI0.out NB0_206.out)); (case side2 => exact (zl21_3 HB.out (IsS110.ge HI0.out) GE206.out)); rintro e w7 ⟨rfl, hi, hb, hk⟩; refine ⟨_, rfl, ?_⟩; replace BK206 := zKB hk BK206.out NB206_0.out; replace HK := Aside0.mk (KeepBut.trans (zl21_4 HK.out GW206.out) hk (.inl rfl)); replace HI0 := Aside0.mk (hi); replace HB := Aside0.mk (hb); (try clear hb); (try clear hk); (try clear hi)) | ((with_reducible refine gate_dst (N := 3) rfl ?_); refine zBx (N := 3) #[.int .i64 0, .string (⟨#[]⟩ : ByteArray)] 25 ?_; intro gb211 hg w8 hbox hb; have n0_ := Aside0.mk (IsS110.below (zl21_2 HI0.out NB0_206.out) hb); have n1_ := zV BK206.out hb; have n2_ := Aside0.mk (KeepBut.trans (zl21_4 HK.out GW206.out) (KeepBut.of_below hb g none) (.inl rfl)); have n3_ := Aside0.mk (below_step (zG2 (IsS110.ge HI0.out) GE206.out) hb); have n4_ := Aside0.mk (hbox); have n5_ := Aside0.mk ((by rw [hg]; exact (keep_size (w := w) (g := g) (row := none) (zl21_4 HK.out GW206.out)) : w.heap.size ≤ gb211)); have n6_ := Aside0.mk ((Nat.le_trans HW0.out (by rw [hg]; exact (keep_size (w := w) (g := g) (row := none) (zl21_4 HK.out GW206.out)) : w.heap.size ≤ gb211) : w0.heap.size ≤ gb211)); have n7_ := zL hg BK206.out; have n8_ := zLg hg BK206.out; have n9_ := Aside0.mk ((by rw [hg]; exact Nat.ne_of_lt (IsS110.lt (show IsS110 w0 _ g s0_0 t209 t210 from (zl21_2 HI0.out NB0_206.out))) : g ≠ gb211)); have n10_ := Aside0.mk ((by rw [hg]; exact Nat.ne_of_gt (IsS110.lt (show IsS110 w0 _ g s0_0 t209 t210 from (zl21_2 HI0.out NB0_206.out))) : gb211 ≠ g)); clear HI0; clear BK206; clear HK; clear HB; have HI0 := n0_; have BK206 := n1_; have HK := n2_; have HB := n3_; have BK211 := n4_; have GW211 := n5_; have GE211 := n6_; have NB206_211 := n7_; have NB211_206 := n8_; have NB0_211 := n9_; have NB211_0 := n10_; clear n0_ n1_ n2_ n3_ n4_ n5_ n6_ n7_ n8_ n9_ n10_; clear hb hbox hg; have hnb9 := NB211_206.out; have hnc9 := NB206_211.out; have hnb10 := NB211_0.out; have hnc10 := NB0_211.out; obtain ⟨hcz11_0, hcz11_1, hfz11_0, hfz11_1⟩ := zq2 BK211.out) | ((with_reducible refine gate_callee (f := 125) rfl ?_); refine zD (some 7) Try.func125 #[.pointer (some ⟨g, 0, none⟩), .int .i64 18] ?_; (with_reducible refine (spec_l1Below.calls g s0_0 t209 t210 18 t212 t213 t214 w0 _ ?side1 ?side2 A3.out).mono ?_); (case side1 => exact (zl21_5 HI0.out NB0_206.out NB0_211.out)); (case side2 => exact (zl21_6 HB.out (IsS110.ge HI0.out) GE206.out GE211.out)); rintro e w12 ⟨rfl, hi, hb, hk⟩; refine ⟨_, rfl, ?_⟩; replace BK206 := Aside0.mk (KeepBut.blk hk (g' := gb206) (o := .cells #[.int .i64 0, .string (⟨#[]⟩ : ByteArray)] 25 (0, 0)) (zk2 BK206.out NB206_211.out NB206_211.out) NB206_0.out (by simp)); replace BK211 := Aside0.mk (KeepBut.blk hk (g' := gb211) (o := .cells #[.int .i64 t207, .string t208] 25 (0, 0)) (zk0 BK211.out) NB211_0.out (by simp)); replace HK := Aside0.mk (KeepBut.trans (zl21_7 HK.out GW206.out GW211.out) hk (.inl rfl)); replace HI0 := Aside0.mk (hi); replace HB := Aside0.mk (hb); (try clear hb); (try clear hk); (try clear hi)) | ((with_reducible refine gate_dst (N := 11) rfl ?_); refine Kd.R_lit (Kd.int .i64) _ 3 ?hg (N := 11) ?hd (xs := ([2, 8, 4, 5] : List Int)) (inner := [.int .i64 2, .int .i64 8, .int .i64 4, .int .i64 5]) (ok := fun _ => True) (okp := fun _ => True) ?hr ?hp (fun _ hk => hk) trivial (Below.refl _ _) (Nat.le_refl _) (by simp) ?_; (case hd => rfl); (case hg => rfl); (case hr => first | (go_simp; done) | (go_simp; rfl)); (case hp => exact (Reps.one (show Kd.M (Kd.int .i64) _ _ _ 2 [.int .i64 2] from rfl) (Reps.one (show Kd.M (Kd.int .i64) _ _ _ 8 [.int .i64 8] from rfl) (Reps.one (show Kd.M (Kd.int .i64) _ _ _ 4 [.int .i64 4] from rfl) (Reps.one (show Kd.M (Kd.int .i64) _ _ _ 5 [.int .i64 5] from rfl) (Reps.none _ _)))))); intro v216 w13 ho14 hb hg_ hnew_; clear hg_ hnew_; (first | rw [← Ny215.out] at ho14 | (simp only [Int.reduceToNat] at ho14; rw [← Ny215.out] at ho14)); have n0_ := Aside0.mk (Kd.R_lower ho14 (keep_size (w := w) (g := g) (row := none) (zl21_7 HK.out GW206.out GW211.out))); have n1_ := Aside0.mk (IsS110.below (zl21_5 HI0.out NB0_206.out NB0_211.out) hb); have n2_ := zV BK206.out hb; have n3_ := zV BK211.out hb; have n4_ := Aside0.mk (KeepBut.trans (zl21_7 HK.out GW206.out GW211.out) (KeepBut.of_below hb g none) (.inl rfl)); have n5_ := Aside0.mk (below_step (zG3 (IsS110.ge HI0.out) GE206.out GE211.out) hb); clear HI0; clear BK206; clear BK211; clear HK; clear HB; have HO217 := n0_; have HI0 := n1_; have BK206 := n2_; have BK211 := n3_; have HK := n4_; have HB := n5_; clear n0_ n1_ n2_ n3_ n4_ n5_; clear hb ho14; obtain ⟨Ao15, co15, eo15⟩ := Kd.R_slice HO217.out; subst eo15) | ((with_reducible refine gate_callee (f := 126) rfl ?_); refine zD (some 12) Try.func126 #[.pointer (some ⟨g, 0, none⟩), .slice Ao15 y215.length co15] ?_; (with_reducible refine (spec_l1PickInt.calls g s0_0 t213 t214 _ _ y215 t218 t219 t220 w0 _ ?side1 ?side2 ?side3 ?side4 ?side5 A5.out).mono ?_); (case side1 => exact (zl21_5 HI0.out NB0_206.out NB0_211.out)); (case side2 => exact (zl21_6 HB.out (IsS110.ge HI0.out) GE206.out GE211.out)); (case side3 => repeat (first | exact (Kd.R_reads' HO217.out).2.2 | (with_reducible refine Kd.C_alloc ?_ _) | (with_reducible refine Kd.C_drewN ?_ _) | (with_reducible refine Kd.C_drew ?_))); (case side4 => exact (Kd.R_reads' HO217.out).2.1); (case side5 => exact far_slice (IsS110.own_ne HI0.out HO217.out (by decide))); rintro e w16 ⟨rfl, hi, hb, hk⟩; refine ⟨_, rfl, ?_⟩; replace BK206 := zKB hk BK206.out NB206_0.out; replace BK211 := zKB hk BK211.out NB211_0.out; replace HO217 := Aside0.mk (Kd.R_mono (Kd.R_keep (IsS110.apart (show IsS110 w0 _ g s0_0 t213 t214 from (zl21_5 HI0.out NB0_206.out NB0_211.out)) (zR HO217.out) (by decide)) hk (fun _ h => h.2)) (fun _ h => h.1)); replace HK := Aside0.mk (KeepBut.trans (zl21_7 HK.out GW206.out GW211.out) hk (.inl rfl)); replace HI0 := Aside0.mk (hi); replace HB := Aside0.mk (hb); (try clear hb); (try clear hk); (try clear hi); obtain ⟨hcz17_0, hcz17_1, hfz17_0, hfz17_1⟩ := zq2 BK211.out; have hnb18 := NB206_0.out; have hnc18 := NB0_206.out; obtain ⟨hcz19_0, hcz19_1, hfz19_0, hfz19_1⟩ := zq2 BK206.out))
  refine bodyPost_ret (results_cell_row rfl _ _ gb206 25 #[.int .i64 t218, .string t208] (0, 0) _ rfl (zk1 BK206.out NB206_211.out) Try.underlying25 rfl (by kernel_rfl)) rfl ?_
  exact ⟨zE, (zl21_5 HI0.out NB0_206.out NB0_211.out), zG3 (IsS110.ge HI0.out) GE206.out GE211.out, (zl21_7 HK.out GW206.out GW211.out)⟩
 rw [if_neg c4] at H
 have c4b0 := beq_eq_false_iff_ne.mpr c4
 have c4b1 := bne_iff_ne.mpr c4
 by_cases c20 : t212 = 1
 ·rw [if_pos c20] at H
  have c20b0 := beq_iff_eq.mpr c20
  have c20b1 := bne_eq_false_iff_eq.mpr c20
  clear c20
  obtain ⟨y221, hy221⟩ : ∃ y_ : List ByteArray, y_ = (([(⟨#[43]⟩ : ByteArray), (⟨#[48]⟩ : ByteArray)] : List ByteArray)) := ⟨_, rfl⟩
  replace H : ((spec_l1Pick.f s0_0 t213 t214 y221).bind fun bt224 => (if t208.size + bt224.1.size ≤ 9223372036854775807 then (some (t207, t208 ++ bt224.1, bt224.2.1, bt224.2.2)) else (none))) = some (r1, r2, r3, r4) := by first | (rw [hy221]; with_reducible exact H) | (have H2_ := (Option.bind_some _ _).symm.trans H; rw [hy221]; with_reducible exact H2_) | (have H2_ := (Option.bind_some _ _).symm.trans H; with_reducible exact H2_) | with_reducible exact H | (rw [hy221]; exact H) | exact H
  have Ny221 := Aside0.mk hy221
  clear hy221
  obtain ⟨⟨t224, t225, t226⟩, A21, H⟩ := zO H
  dsimp only at H
  by_cases c22 : t208.size + t224.size ≤ 9223372036854775807
  ·rw [if_pos c22] at H
   have c22b0 := eq_true c22
   have c22b1 := decide_eq_true c22
   try have c22b2 : (9223372036854775807 < t208.size + t224.size) = False := eq_false (Nat.not_lt.2 c22)
   simp only [Option.some.injEq, Prod.mk.injEq] at H
   obtain ⟨rfl, rfl, rfl, rfl⟩ := H
   go_enter Try.func141, Try.ntmps141
   try go_wp2_with (first | ((with_reducible refine gate_dst (N := 2) rfl ?_); refine zBx (N := 2) #[.int .i64 0, .string (⟨#[]⟩ : ByteArray)] 25 ?_; intro gb206 hg w23 hbox hb; have n0_ := Aside0.mk (IsS110.below (zl21_0 HI0.out) hb); have n1_ := Aside0.mk (KeepBut.trans (zl21_1 HK.out) (KeepBut.of_below hb g none) (.inl rfl)); have n2_ := Aside0.mk (below_step (zG (IsS110.ge HI0.out)) hb); have n3_ := Aside0.mk (hbox); have n4_ := Aside0.mk ((by rw [hg]; exact (keep_size (w := w) (g := g) (row := none) (zl21_1 HK.out)) : w.heap.size ≤ gb206)); have n5_ := Aside0.mk ((Nat.le_trans HW0.out (by rw [hg]; exact (keep_size (w := w) (g := g) (row := none) (zl21_1 HK.out)) : w.heap.size ≤ gb206) : w0.heap.size ≤ gb206)); have n6_ := Aside0.mk ((by rw [hg]; exact Nat.ne_of_lt (IsS110.lt (show IsS110 w0 _ g s0_0 s0_1 s0_2 from (zl21_0 HI0.out))) : g ≠ gb206)); have n7_ := Aside0.mk ((by rw [hg]; exact Nat.ne_of_gt (IsS110.lt (show IsS110 w0 _ g s0_0 s0_1 s0_2 from (zl21_0 HI0.out))) : gb206 ≠ g)); clear HI0; clear HK; clear HB; have HI0 := n0_; have HK := n1_; have HB := n2_; have BK206 := n3_; have GW206 := n4_; have GE206 := n5_; have NB0_206 := n6_; have NB206_0 := n7_; clear n0_ n1_ n2_ n3_ n4_ n5_ n6_ n7_; clear hb hbox hg) | ((with_reducible refine gate_callee (f := 154) rfl ?_); refine zD (some 5) Try.func154 #[.pointer (some ⟨g, 0, none⟩)] ?_; (with_reducible refine (spec_l3Draw.calls k g s0_0 s0_1 s0_2 t207 t208 t209 t210 w0 _ ?side1 ?side2 A2.out).mono ?_); (case side1 => exact (zl21_2 HI0.out NB0_206.out)); (case side2 => exact (zl21_3 HB.out (IsS110.ge HI0.out) GE206.out)); rintro e w24 ⟨rfl, hi, hb, hk⟩; refine ⟨_, rfl, ?_⟩; replace BK206 := zKB hk BK206.out NB206_0.out; replace HK := Aside0.mk (KeepBut.trans (zl21_4 HK.out GW206.out) hk (.inl rfl)); replace HI0 := Aside0.mk (hi); replace HB := Aside0.mk (hb); (try clear hb); (try clear hk); (try clear hi)) | ((with_reducible refine gate_dst (N := 3) rfl ?_); refine zBx (N := 3) #[.int .i64 0, .string (⟨#[]⟩ : ByteArray)] 25 ?_; intro gb211 hg w25 hbox hb; have n0_ := Aside0.mk (IsS110.below (zl21_2 HI0.out NB0_206.out) hb); have n1_ := zV BK206.out hb; have n2_ := Aside0.mk (KeepBut.trans (zl21_4 HK.out GW206.out) (KeepBut.of_below hb g none) (.inl rfl)); have n3_ := Aside0.mk (below_step (zG2 (IsS110.ge HI0.out) GE206.out) hb); have n4_ := Aside0.mk (hbox); have n5_ := Aside0.mk ((by rw [hg]; exact (keep_size (w := w) (g := g) (row := none) (zl21_4 HK.out GW206.out)) : w.heap.size ≤ gb211)); have n6_ := Aside0.mk ((Nat.le_trans HW0.out (by rw [hg]; exact (keep_size (w := w) (g := g) (row := none) (zl21_4 HK.out GW206.out)) : w.heap.size ≤ gb211) : w0.heap.size ≤ gb211)); have n7_ := zL hg BK206.out; have n8_ := zLg hg BK206.out; have n9_ := Aside0.mk ((by rw [hg]; exact Nat.ne_of_lt (IsS110.lt (show IsS110 w0 _ g s0_0 t209 t210 from (zl21_2 HI0.out NB0_206.out))) : g ≠ gb211)); have n10_ := Aside0.mk ((by rw [hg]; exact Nat.ne_of_gt (IsS110.lt (show IsS110 w0 _ g s0_0 t209 t210 from (zl21_2 HI0.out NB0_206.out))) : gb211 ≠ g)); clear HI0; clear BK206; clear HK; clear HB; have HI0 := n0_; have BK206 := n1_; have HK := n2_; have HB := n3_; have BK211 := n4_; have GW211 := n5_; have GE211 := n6_; have NB206_211 := n7_; have NB211_206 := n8_; have NB0_211 := n9_; have NB211_0 := n10_; clear n0_ n1_ n2_ n3_ n4_ n5_ n6_ n7_ n8_ n9_ n10_; clear hb hbox hg; have hnb26 := NB211_206.out; have hnc26 := NB206_211.out; have hnb27 := NB211_0.out; have hnc27 := NB0_211.out; obtain ⟨hcz28_0, hcz28_1, hfz28_0, hfz28_1⟩ := zq2 BK211.out) | ((with_reducible refine gate_callee (f := 125) rfl ?_); refine zD (some 7) Try.func125 #[.pointer (some ⟨g, 0, none⟩), .int .i64 18] ?_; (with_reducible refine (spec_l1Below.calls g s0_0 t209 t210 18 t212 t213 t214 w0 _ ?side1 ?side2 A3.out).mono ?_); (case side1 => exact (zl21_5 HI0.out NB0_206.out NB0_211.out)); (case side2 => exact (zl21_6 HB.out (IsS110.ge HI0.out) GE206.out GE211.out)); rintro e w29 ⟨rfl, hi, hb, hk⟩; refine ⟨_, rfl, ?_⟩; replace BK206 := Aside0.mk (KeepBut.blk hk (g' := gb206) (o := .cells #[.int .i64 0, .string (⟨#[]⟩ : ByteArray)] 25 (0, 0)) (zk2 BK206.out NB206_211.out NB206_211.out) NB206_0.out (by simp)); replace BK211 := Aside0.mk (KeepBut.blk hk (g' := gb211) (o := .cells #[.int .i64 t207, .string t208] 25 (0, 0)) (zk0 BK211.out) NB211_0.out (by simp)); replace HK := Aside0.mk (KeepBut.trans (zl21_7 HK.out GW206.out GW211.out) hk (.inl rfl)); replace HI0 := Aside0.mk (hi); replace HB := Aside0.mk (hb); (try clear hb); (try clear hk); (try clear hi)))
   replace BK206 := Aside0.mk (blk_drew BK206.out)
   replace BK211 := Aside0.mk (blk_drew BK211.out)
   replace HI0 := Aside0.mk (IsS110.drew HI0.out)
   replace HK := Aside0.mk (keep_drew HK.out)
   replace HB := Aside0.mk (below_drew1 HB.out)
   refine start_ (n := 8) (S := fun w' => w'.cell? ⟨gb211, 0, none⟩ = some (.int .i64 t207) ∧ w'.cell? ⟨gb211, 1, none⟩ = some (.string t208)) (ds := [7]) #[false, false, false, false, false, false, false, false] (by kernel_rfl) rfl rfl ⟨(blk_cell BK211.out 0).trans rfl, (blk_cell BK211.out 1).trans rfl⟩ (fun hHeld => ?_); refine with_tabW spec_l3Bent.tab6 spec_l3Bent.bits6 (fun HT_ HW_ => ?_)
   generalize w29.drew = w30 at BK206 BK211 HI0 HK HB hHeld ⊢
   refine zP 0 (some 16) rfl rfl ?_
   refine zP 2 (some 18) rfl rfl ?_
   refine zY2 1 (some 17) rfl rfl hHeld ?_
   refine zU 3 (some 19) rfl rfl (fun K hK => ?_)
   refine Kd.R_lit_step Kd.string _ 9 ?hg (N := 19) ?hd (xs := ([(⟨#[43]⟩ : ByteArray), (⟨#[48]⟩ : ByteArray)] : List ByteArray)) (inner := [.string (⟨#[43]⟩ : ByteArray), .string (⟨#[48]⟩ : ByteArray)]) (ok := fun _ => True) (okp := fun _ => True) ?hr ?hp (fun _ hk => hk) trivial (Below.refl _ _) (Nat.le_refl _) (by simp) ?_; (case hd => rfl); (case hg => rfl); (case hr => first | (go_simp; done) | (go_simp; rfl)); (case hp => exact (Reps.one (show Kd.M Kd.string _ _ _ (⟨#[43]⟩ : ByteArray) [.string (⟨#[43]⟩ : ByteArray)] from rfl) (Reps.one (show Kd.M Kd.string _ _ _ (⟨#[48]⟩ : ByteArray) [.string (⟨#[48]⟩ : ByteArray)] from rfl) (Reps.none _ _))))
   intro v222 w31 ho32 hb hg_ hnew_
   clear hg_ hnew_
   (first | rw [← Ny221.out] at ho32 | (simp only [Int.reduceToNat] at ho32; rw [← Ny221.out] at ho32))
   have n0_ := Aside0.mk (Kd.R_lower ho32 (keep_size (w := w) (g := g) (row := none) (zl21_7 HK.out GW206.out GW211.out)))
   have n1_ := Aside0.mk (IsS110.below (zl21_5 HI0.out NB0_206.out NB0_211.out) hb)
   have n2_ := zV BK206.out hb
   have n3_ := zV BK211.out hb
   have n4_ := Aside0.mk (KeepBut.trans (zl21_7 HK.out GW206.out GW211.out) (KeepBut.of_below hb g none) (.inl rfl))
   have n5_ := Aside0.mk (below_step (zG3 (IsS110.ge HI0.out) GE206.out GE211.out) hb)
   clear HI0
   clear BK206
   clear BK211
   clear HK
   clear HB
   have HO223 := n0_
   have HI0 := n1_
   have BK206 := n2_
   have BK211 := n3_
   have HK := n4_
   have HB := n5_
   clear n0_ n1_ n2_ n3_ n4_ n5_
   clear hb ho32
   obtain ⟨Ao33, co33, eo33⟩ := Kd.R_slice HO223.out
   (first | subst eo33 | (injection eo33 with f1_ f2_ f3_; have f4_ := f1_.symm; have f5_ := f3_.symm; clear f1_ f2_ f3_; subst f4_; subst f5_))
   refine hK.out _ _ (zh2 BK211.out) (fun hHeld => ?_)
   clear hK K
   refine zN ?_
   refine zU 4 (some 20) rfl rfl (fun K hK => ?_)
   refine goes_ Try.func155 (by kernel_rfl) rfl #[.pointer (some ⟨g, 0, none⟩), .slice Ao33 y221.length co33] (by rfl) rfl rfl zM ?_
   with_reducible refine (spec_l1Pick.calls g s0_0 t213 t214 _ _ y221 t224 t225 t226 w0 _ ?side1 ?side2 ?side3 ?side4 ?side5 A21.out).mono ?_
   (case side1 => exact (zl21_5 HI0.out NB0_206.out NB0_211.out))
   (case side2 => exact (zl21_6 HB.out (IsS110.ge HI0.out) GE206.out GE211.out))
   (case side3 => repeat (first | exact (Kd.R_reads' HO223.out).2.2 | (with_reducible refine Kd.C_alloc ?_ _) | (with_reducible refine Kd.C_drewN ?_ _) | (with_reducible refine Kd.C_drew ?_)))
   (case side4 => exact (Kd.R_reads' HO223.out).2.1)
   (case side5 => exact far_slice (IsS110.own_ne HI0.out HO223.out (by decide)))
   rintro e w34 ⟨rfl, hi, hb, hk⟩
   refine ⟨_, rfl, ?_⟩
   replace BK206 := zKB hk BK206.out NB206_0.out
   replace BK211 := zKB hk BK211.out NB211_0.out
   replace HO223 := Aside0.mk (Kd.R_mono (Kd.R_keep (IsS110.apart (show IsS110 w0 _ g s0_0 t213 t214 from (zl21_5 HI0.out NB0_206.out NB0_211.out)) (zR HO223.out) (by decide)) hk (fun _ h => h.2)) (fun _ h => h.1))
   replace HK := Aside0.mk (KeepBut.trans (zl21_7 HK.out GW206.out GW211.out) hk (.inl rfl))
   replace HI0 := Aside0.mk (hi)
   replace HB := Aside0.mk (hb)
   (try clear hb)
   (try clear hk)
   (try clear hi)
   refine hK.out _ _ (zh2 BK211.out) (fun hHeld => ?_)
   clear hK K
   refine zN ?_
   refine zP 5 (some 21) rfl rfl ?_
   refine zP 6 (some 22) rfl rfl ?_
   refine last_ (i := 7) (N := none) #[true, true, true, true, true, true, true, true] rfl rfl (one_of HT_.out (by kernel_rfl)) (by decide) (fun K hK => ?_)
   have hs35 : w34.cell? ⟨gb211, 1, none⟩ = some (.string t208) := (blk_cell BK211.out 1).trans rfl
   have hfs35 := blk_frozen BK211.out 1
   have hns35_0 := NB206_211.out
   have hms35_0 := NB211_206.out
   refine skip_ (w1 := ?_) (by rfl) rfl ?_ ?_
   rotate_left
   ·go_simp
    rfl
   refine hK.out _ _ ?_
   clear hK K
   refine done_ (done_of HT_.out (by kernel_rfl)) ?_
   obtain ⟨hcz36_0, hcz36_1, hfz36_0, hfz36_1⟩ := zq2 BK211.out
   have hnb37 := NB206_0.out
   have hnc37 := NB0_206.out
   obtain ⟨hcz38_0, hcz38_1, hfz38_0, hfz38_1⟩ := zq2 BK206.out
   try go_wp2
   refine bodyPost_ret (results_cell_row rfl _ _ gb206 25 #[.int .i64 t207, .string (t208 ++ t224)] (0, 0) _ rfl (zk1 BK206.out NB206_211.out) Try.underlying25 rfl (by kernel_rfl)) rfl ?_
   exact ⟨zE, (zl21_5 HI0.out NB0_206.out NB0_211.out), zG3 (IsS110.ge HI0.out) GE206.out GE211.out, (zl21_7 HK.out GW206.out GW211.out)⟩
  rw [if_neg c22] at H
  exact absurd H (by simp)
 rw [if_neg c20] at H
 have c20b0 := beq_eq_false_iff_ne.mpr c20
 have c20b1 := bne_iff_ne.mpr c20
 simp only [Option.some.injEq, Prod.mk.injEq] at H
 obtain ⟨rfl, rfl, rfl, rfl⟩ := H
 go_enter Try.func141, Try.ntmps141
 go_wp2_with (first | ((with_reducible refine gate_dst (N := 2) rfl ?_); refine zBx (N := 2) #[.int .i64 0, .string (⟨#[]⟩ : ByteArray)] 25 ?_; intro gb206 hg w39 hbox hb; have n0_ := Aside0.mk (IsS110.below (zl21_0 HI0.out) hb); have n1_ := Aside0.mk (KeepBut.trans (zl21_1 HK.out) (KeepBut.of_below hb g none) (.inl rfl)); have n2_ := Aside0.mk (below_step (zG (IsS110.ge HI0.out)) hb); have n3_ := Aside0.mk (hbox); have n4_ := Aside0.mk ((by rw [hg]; exact (keep_size (w := w) (g := g) (row := none) (zl21_1 HK.out)) : w.heap.size ≤ gb206)); have n5_ := Aside0.mk ((Nat.le_trans HW0.out (by rw [hg]; exact (keep_size (w := w) (g := g) (row := none) (zl21_1 HK.out)) : w.heap.size ≤ gb206) : w0.heap.size ≤ gb206)); have n6_ := Aside0.mk ((by rw [hg]; exact Nat.ne_of_lt (IsS110.lt (show IsS110 w0 _ g s0_0 s0_1 s0_2 from (zl21_0 HI0.out))) : g ≠ gb206)); have n7_ := Aside0.mk ((by rw [hg]; exact Nat.ne_of_gt (IsS110.lt (show IsS110 w0 _ g s0_0 s0_1 s0_2 from (zl21_0 HI0.out))) : gb206 ≠ g)); clear HI0; clear HK; clear HB; have HI0 := n0_; have HK := n1_; have HB := n2_; have BK206 := n3_; have GW206 := n4_; have GE206 := n5_; have NB0_206 := n6_; have NB206_0 := n7_; clear n0_ n1_ n2_ n3_ n4_ n5_ n6_ n7_; clear hb hbox hg) | ((with_reducible refine gate_callee (f := 154) rfl ?_); refine zD (some 5) Try.func154 #[.pointer (some ⟨g, 0, none⟩)] ?_; (with_reducible refine (spec_l3Draw.calls k g s0_0 s0_1 s0_2 t207 t208 t209 t210 w0 _ ?side1 ?side2 A2.out).mono ?_); (case side1 => exact (zl21_2 HI0.out NB0_206.out)); (case side2 => exact (zl21_3 HB.out (IsS110.ge HI0.out) GE206.out)); rintro e w40 ⟨rfl, hi, hb, hk⟩; refine ⟨_, rfl, ?_⟩; replace BK206 := zKB hk BK206.out NB206_0.out; replace HK := Aside0.mk (KeepBut.trans (zl21_4 HK.out GW206.out) hk (.inl rfl)); replace HI0 := Aside0.mk (hi); replace HB := Aside0.mk (hb); (try clear hb); (try clear hk); (try clear hi)) | ((with_reducible refine gate_dst (N := 3) rfl ?_); refine zBx (N := 3) #[.int .i64 0, .string (⟨#[]⟩ : ByteArray)] 25 ?_; intro gb211 hg w41 hbox hb; have n0_ := Aside0.mk (IsS110.below (zl21_2 HI0.out NB0_206.out) hb); have n1_ := zV BK206.out hb; have n2_ := Aside0.mk (KeepBut.trans (zl21_4 HK.out GW206.out) (KeepBut.of_below hb g none) (.inl rfl)); have n3_ := Aside0.mk (below_step (zG2 (IsS110.ge HI0.out) GE206.out) hb); have n4_ := Aside0.mk (hbox); have n5_ := Aside0.mk ((by rw [hg]; exact (keep_size (w := w) (g := g) (row := none) (zl21_4 HK.out GW206.out)) : w.heap.size ≤ gb211)); have n6_ := Aside0.mk ((Nat.le_trans HW0.out (by rw [hg]; exact (keep_size (w := w) (g := g) (row := none) (zl21_4 HK.out GW206.out)) : w.heap.size ≤ gb211) : w0.heap.size ≤ gb211)); have n7_ := zL hg BK206.out; have n8_ := zLg hg BK206.out; have n9_ := Aside0.mk ((by rw [hg]; exact Nat.ne_of_lt (IsS110.lt (show IsS110 w0 _ g s0_0 t209 t210 from (zl21_2 HI0.out NB0_206.out))) : g ≠ gb211)); have n10_ := Aside0.mk ((by rw [hg]; exact Nat.ne_of_gt (IsS110.lt (show IsS110 w0 _ g s0_0 t209 t210 from (zl21_2 HI0.out NB0_206.out))) : gb211 ≠ g)); clear HI0; clear BK206; clear HK; clear HB; have HI0 := n0_; have BK206 := n1_; have HK := n2_; have HB := n3_; have BK211 := n4_; have GW211 := n5_; have GE211 := n6_; have NB206_211 := n7_; have NB211_206 := n8_; have NB0_211 := n9_; have NB211_0 := n10_; clear n0_ n1_ n2_ n3_ n4_ n5_ n6_ n7_ n8_ n9_ n10_; clear hb hbox hg; have hnb42 := NB211_206.out; have hnc42 := NB206_211.out; have hnb43 := NB211_0.out; have hnc43 := NB0_211.out; obtain ⟨hcz44_0, hcz44_1, hfz44_0, hfz44_1⟩ := zq2 BK211.out) | ((with_reducible refine gate_callee (f := 125) rfl ?_); refine zD (some 7) Try.func125 #[.pointer (some ⟨g, 0, none⟩), .int .i64 18] ?_; (with_reducible refine (spec_l1Below.calls g s0_0 t209 t210 18 t212 t213 t214 w0 _ ?side1 ?side2 A3.out).mono ?_); (case side1 => exact (zl21_5 HI0.out NB0_206.out NB0_211.out)); (case side2 => exact (zl21_6 HB.out (IsS110.ge HI0.out) GE206.out GE211.out)); rintro e w45 ⟨rfl, hi, hb, hk⟩; refine ⟨_, rfl, ?_⟩; replace BK206 := Aside0.mk (KeepBut.blk hk (g' := gb206) (o := .cells #[.int .i64 0, .string (⟨#[]⟩ : ByteArray)] 25 (0, 0)) (zk2 BK206.out NB206_211.out NB206_211.out) NB206_0.out (by simp)); replace BK211 := Aside0.mk (KeepBut.blk hk (g' := gb211) (o := .cells #[.int .i64 t207, .string t208] 25 (0, 0)) (zk0 BK211.out) NB211_0.out (by simp)); replace HK := Aside0.mk (KeepBut.trans (zl21_7 HK.out GW206.out GW211.out) hk (.inl rfl)); replace HI0 := Aside0.mk (hi); replace HB := Aside0.mk (hb); (try clear hb); (try clear hk); (try clear hi); obtain ⟨hcz46_0, hcz46_1, hfz46_0, hfz46_1⟩ := zq2 BK211.out; have hnb47 := NB206_0.out; have hnc47 := NB0_206.out; obtain ⟨hcz48_0, hcz48_1, hfz48_0, hfz48_1⟩ := zq2 BK206.out))
 refine bodyPost_ret (results_cell_row rfl _ _ gb206 25 #[.int .i64 t207, .string t208] (0, 0) _ rfl (zk0 BK206.out) Try.underlying25 rfl (by kernel_rfl)) rfl ?_
 exact ⟨zE, (zl21_5 HI0.out NB0_206.out NB0_211.out), zG3 (IsS110.ge HI0.out) GE206.out GE211.out, (zl21_7 HK.out GW206.out GW211.out)⟩
/-! ### spec_l4Reverse: function 90 -/
mutual
def spec_l4Reverse.l0 : Nat → Int → Int → Int → ByteArray → Int → ByteArray → Option (Int × ByteArray)
 | 0, _, _, _, _, _, _ => none
 | k + 1, x1, x6, x107000, x107001, x109000, x109001 => if x6 < x107000 then (spec_l4Reverse.l1 k x1 x6 (wrap64 (x6 + 1)) x107000 x107001 x109000 x109001) else (some (x109000, x109001))
def spec_l4Reverse.l1 : Nat → Int → Int → Int → Int → ByteArray → Int → ByteArray → Option (Int × ByteArray)
 | 0, _, _, _, _, _, _, _ => none
 | k + 1, x1, x6, x7, x107000, x107001, x109000, x109001 => if x7 < x107000 then (spec_l4Reverse.l2 k x1 x6 x7 (wrap64 (x7 + 1)) x107000 x107001 x109000 x109001) else (spec_l4Reverse.l0 k x1 (wrap64 (x6 + 1)) x107000 x107001 x109000 x109001)
def spec_l4Reverse.l2 : Nat → Int → Int → Int → Int → Int → ByteArray → Int → ByteArray → Option (Int × ByteArray)
 | 0, _, _, _, _, _, _, _, _ => none
 | k + 1, x1, x6, x7, x8, x107000, x107001, x109000, x109001 => if x8 < x107000 then ((spec_l3At.f k x107000 x107001 x6 x7 x8).bind fun t109 => (if 0 ≤ (IntKind.u64.wrap (x6)) then (if 0 ≤ (IntKind.u64.wrap (x7)) then (if 0 ≤ (IntKind.u64.wrap (x8)) then (if (Go.bits .and .i64 (wrap64 ((wrap64 ((shr .i64 x1 (IntKind.u64.wrap (x6))) + (shr .i64 x1 (IntKind.u64.wrap (x7))))) + (shr .i64 x1 (IntKind.u64.wrap (x8))))) 1) = 1 then ((spec_l3Byte.f (wrap64 (-t109))).bind fun t110 => (if x109001.size + t110.size ≤ 9223372036854775807 then (spec_l4Reverse.l2 k x1 x6 x7 (wrap64 (x8 + 1)) x107000 x107001 x109000 (x109001 ++ t110)) else (none))) else ((spec_l3Byte.f t109).bind fun t111 => (if x109001.size + t111.size ≤ 9223372036854775807 then (spec_l4Reverse.l2 k x1 x6 x7 (wrap64 (x8 + 1)) x107000 x107001 x109000 (x109001 ++ t111)) else (none)))) else (none)) else (none)) else (none))) else (spec_l4Reverse.l1 k x1 x6 (wrap64 (x7 + 1)) x107000 x107001 x109000 x109001)
end
def spec_l4Reverse.f (k : Nat) (a0_0 : Int) (a0_1 : ByteArray) (a1 : Int) : Option (Int × ByteArray) := spec_l4Reverse.l0 k a1 0 a0_0 a0_1 a0_0 (⟨#[]⟩ : ByteArray)
set_option maxHeartbeats 8000000 in
set_option maxRecDepth 100000 in
theorem spec_l4Reverse.calls (k : Nat) (a0_0 : Int) (a0_1 : ByteArray) (a1 : Int) (r1 : Int) (r2 : ByteArray) (w : World) (h : spec_l4Reverse.f k a0_0 a0_1 a1 = some (r1, r2)) :
  Calls Try.prog 90 #[.agg #[.int .i64 a0_0, .string a0_1], .int .i64 a1] w fun e w' => e = .returned (.agg #[.int .i64 r1, .string r2]) ∧ Below w.heap.size w w' := by
 have hu25 := Try.underlying25
 have HB := Aside0.mk (Below.refl w.heap.size w)
 have H : (spec_l4Reverse.l0 k a1 0 a0_0 a0_1 a0_0 (⟨#[]⟩ : ByteArray)) = some (r1, r2) := h
 clear h
 have H' := Aside0.mk H; clear H
 go_enter Try.func90, Try.ntmps90
 go_wp2_with (first | ((with_reducible refine gate_dst (N := 2) rfl ?_); refine zBx (N := 2) #[.int .i64 a0_0, .string a0_1] 25 ?_; intro gb106 hg w3 hbox hb; have BK106 := Aside0.mk (hbox); have GW106 := zS hg; have GE106 := zS hg; replace HB := zX hb; clear hb hbox hg) | ((with_reducible refine gate_dst (N := 4) rfl ?_); refine zBx (N := 4) #[.int .i64 0, .string (⟨#[]⟩ : ByteArray)] 25 ?_; intro gb107 hg w4 hbox hb; have BK107 := Aside0.mk (hbox); have GW107 := zSg hg (zG GE106.out); have GE107 := zSg hg (zG GE106.out); have NB106_107 := zL hg BK106.out; have NB107_106 := zLg hg BK106.out; replace BK106 := zV BK106.out hb; replace HB := zX1 GE106.out hb; clear hb hbox hg; have hnb5 := NB106_107.out; have hnc5 := NB107_106.out; obtain ⟨hcz6_0, hcz6_1, hfz6_0, hfz6_1⟩ := zq2 BK106.out) | ((with_reducible refine gate_dst (N := 5) rfl ?_); refine zBx (N := 5) #[.int .i64 0, .string (⟨#[]⟩ : ByteArray)] 25 ?_; intro gb108 hg w7 hbox hb; have BK108 := Aside0.mk (hbox); have GW108 := zSg hg (zG2 GE106.out GE107.out); have GE108 := zSg hg (zG2 GE106.out GE107.out); have NB106_108 := zL hg BK106.out; have NB108_106 := zLg hg BK106.out; replace BK106 := zV BK106.out hb; have NB107_108 := zL hg BK107.out; have NB108_107 := zLg hg BK107.out; replace BK107 := zV BK107.out hb; replace HB := Aside0.mk (below_step (zG2 GE106.out GE107.out) hb); clear hb hbox hg; have hnb8 := NB108_106.out; have hnc8 := NB106_108.out; have hnb9 := NB108_107.out; have hnc9 := NB107_108.out; obtain ⟨hcz10_0, hcz10_1, hfz10_0, hfz10_1⟩ := zq2 BK108.out))
 go_loopg [6] k (fun kq v6 w' => ∃ (x6_1 : Int) (x109001_1 : ByteArray), v6 = .int .i64 x6_1 ∧ Aside0 (spec_l4Reverse.l0 kq a1 x6_1 a0_0 a0_1 a0_0 x109001_1 = some (r1, r2)) ∧ Aside0 (kq ≤ k) ∧ Aside0 (w'.heap[gb106]? = some (.cells #[.int .i64 a0_0, .string a0_1] 25 (0, 0))) ∧ Aside0 (w'.heap[gb107]? = some (.cells #[.int .i64 0, .string (⟨#[]⟩ : ByteArray)] 25 (0, 0))) ∧ Aside0 (w'.heap[gb108]? = some (.cells #[.int .i64 a0_0, .string x109001_1] 25 (0, 0))) ∧ Aside0 (Below w.heap.size w w'))
 case atStart => exact ⟨(0), ((⟨#[]⟩ : ByteArray)), zF, H', ⟨Nat.le_refl _⟩, ⟨zk2 BK106.out NB106_108.out NB106_108.out⟩, ⟨zk2 BK107.out NB107_108.out NB107_108.out⟩, ⟨zk0 BK108.out⟩, ⟨zG3 GE106.out GE107.out GE108.out⟩⟩
 case round =>
 clear H'
 try clear hcz10_0
 try clear hcz10_1
 try clear hcz6_0
 try clear hcz6_1
 try clear hfz10_0
 try clear hfz10_1
 try clear hfz6_0
 try clear hfz6_1
 obtain ⟨x6_1, x109001_1, rfl, HA, HK1, BK106, BK107, BK108, HB⟩ := hrel
 cases gk with
 | zero => exact absurd HA.out (by simp [spec_l4Reverse.l0])
 | succ k1 =>
 have H := HA.out
 clear HA
 simp only [spec_l4Reverse.l0] at H
 by_cases c11 : x6_1 < a0_0
 ·rw [if_pos c11] at H
  have c11b0 := decide_eq_true c11
  clear c11
  have H' := Aside0.mk H; clear H
  have hnb12 := NB106_107.out
  have hnc12 := NB107_106.out
  have hnb13 := NB106_108.out
  have hnc13 := NB108_106.out
  obtain ⟨hcz14_0, hcz14_1, hfz14_0, hfz14_1⟩ := zq2 BK106.out
  go_wp2
  go_loopg [7] k1 (fun kq v7 w' => ∃ (x7_2 : Int) (x109001_2 : ByteArray), v7 = .int .i64 x7_2 ∧ Aside0 (spec_l4Reverse.l1 kq a1 x6_1 x7_2 a0_0 a0_1 a0_0 x109001_2 = some (r1, r2)) ∧ Aside0 (kq ≤ k1) ∧ Aside0 (w'.heap[gb106]? = some (.cells #[.int .i64 a0_0, .string a0_1] 25 (0, 0))) ∧ Aside0 (w'.heap[gb107]? = some (.cells #[.int .i64 0, .string (⟨#[]⟩ : ByteArray)] 25 (0, 0))) ∧ Aside0 (w'.heap[gb108]? = some (.cells #[.int .i64 a0_0, .string x109001_2] 25 (0, 0))) ∧ Aside0 (Below w.heap.size w w'))
  case atStart => exact ⟨(wrap64 (x6_1 + 1)), (x109001_1), zF, H', ⟨Nat.le_refl _⟩, ⟨zK BK106.out⟩, ⟨zK BK107.out⟩, ⟨zK BK108.out⟩, ⟨zG3 GE106.out GE107.out GE108.out⟩⟩
  case round =>
  clear H'
  try clear c11
  try clear c11b0
  try clear hcz10_0
  try clear hcz10_1
  try clear hcz14_0
  try clear hcz14_1
  try clear hcz6_0
  try clear hcz6_1
  try clear hfz10_0
  try clear hfz10_1
  try clear hfz14_0
  try clear hfz14_1
  try clear hfz6_0
  try clear hfz6_1
  obtain ⟨x7_2, x109001_2, rfl, HA, HK2, BK106, BK107, BK108, HB⟩ := hrel
  cases gk with
  | zero => exact absurd HA.out (by simp [spec_l4Reverse.l1])
  | succ k2 =>
  have H := HA.out
  clear HA
  simp only [spec_l4Reverse.l1] at H
  by_cases c15 : x7_2 < a0_0
  ·rw [if_pos c15] at H
   have c15b0 := decide_eq_true c15
   clear c15
   have H' := Aside0.mk H; clear H
   have hnb16 := NB106_107.out
   have hnc16 := NB107_106.out
   have hnb17 := NB106_108.out
   have hnc17 := NB108_106.out
   obtain ⟨hcz18_0, hcz18_1, hfz18_0, hfz18_1⟩ := zq2 BK106.out
   go_wp2
   go_loopg [8] k2 (fun kq v8 w' => ∃ (x8_3 : Int) (x109001_3 : ByteArray), v8 = .int .i64 x8_3 ∧ Aside0 (spec_l4Reverse.l2 kq a1 x6_1 x7_2 x8_3 a0_0 a0_1 a0_0 x109001_3 = some (r1, r2)) ∧ Aside0 (kq ≤ k2) ∧ Aside0 (w'.heap[gb106]? = some (.cells #[.int .i64 a0_0, .string a0_1] 25 (0, 0))) ∧ Aside0 (w'.heap[gb107]? = some (.cells #[.int .i64 0, .string (⟨#[]⟩ : ByteArray)] 25 (0, 0))) ∧ Aside0 (w'.heap[gb108]? = some (.cells #[.int .i64 a0_0, .string x109001_3] 25 (0, 0))) ∧ Aside0 (Below w.heap.size w w'))
   case atStart => exact ⟨(wrap64 (x7_2 + 1)), (x109001_2), zF, H', ⟨Nat.le_refl _⟩, ⟨zK BK106.out⟩, ⟨zK BK107.out⟩, ⟨zK BK108.out⟩, ⟨zG3 GE106.out GE107.out GE108.out⟩⟩
   case round =>
   clear H'
   try clear c11
   try clear c11b0
   try clear c15
   try clear c15b0
   try clear hcz10_0
   try clear hcz10_1
   try clear hcz14_0
   try clear hcz14_1
   try clear hcz18_0
   try clear hcz18_1
   try clear hcz6_0
   try clear hcz6_1
   try clear hfz10_0
   try clear hfz10_1
   try clear hfz14_0
   try clear hfz14_1
   try clear hfz18_0
   try clear hfz18_1
   try clear hfz6_0
   try clear hfz6_1
   obtain ⟨x8_3, x109001_3, rfl, HA, HK3, BK106, BK107, BK108, HB⟩ := hrel
   cases gk with
   | zero => exact absurd HA.out (by simp [spec_l4Reverse.l2])
   | succ k3 =>
   have H := HA.out
   clear HA
   simp only [spec_l4Reverse.l2] at H
   by_cases c19 : x8_3 < a0_0
   ·rw [if_pos c19] at H
    have c19b0 := decide_eq_true c19
    clear c19
    obtain ⟨t109, A20, H⟩ := zO H
    obtain ⟨ji21, hji21⟩ : ∃ j_ : Int, (IntKind.u64.wrap (x6_1)) = j_ := ⟨_, rfl⟩
    replace H : (if 0 ≤ (ji21) then (if 0 ≤ (IntKind.u64.wrap (x7_2)) then (if 0 ≤ (IntKind.u64.wrap (x8_3)) then (if (Go.bits .and .i64 (wrap64 ((wrap64 ((shr .i64 a1 (ji21)) + (shr .i64 a1 (IntKind.u64.wrap (x7_2))))) + (shr .i64 a1 (IntKind.u64.wrap (x8_3))))) 1) = 1 then ((spec_l3Byte.f (wrap64 (-t109))).bind fun t110 => (if x109001_3.size + t110.size ≤ 9223372036854775807 then (spec_l4Reverse.l2 k3 a1 x6_1 x7_2 (wrap64 (x8_3 + 1)) a0_0 a0_1 a0_0 (x109001_3 ++ t110)) else (none))) else ((spec_l3Byte.f t109).bind fun t111 => (if x109001_3.size + t111.size ≤ 9223372036854775807 then (spec_l4Reverse.l2 k3 a1 x6_1 x7_2 (wrap64 (x8_3 + 1)) a0_0 a0_1 a0_0 (x109001_3 ++ t111)) else (none)))) else (none)) else (none)) else (none)) = some (r1, r2) := by first | (rw [hji21] at H; exact H) | (simp only [hji21] at H ⊢; exact H)
    (try rw [hji21] at A20)
    by_cases c22 : 0 ≤ (ji21)
    ·rw [if_pos c22] at H
     have c22b0 := eq_true c22
     have c22b1 := decide_eq_true c22
     clear c22
     obtain ⟨ji23, hji23⟩ : ∃ j_ : Int, (shr .i64 a1 (ji21)) = j_ := ⟨_, rfl⟩
     replace H : (if 0 ≤ (IntKind.u64.wrap (x7_2)) then (if 0 ≤ (IntKind.u64.wrap (x8_3)) then (if (Go.bits .and .i64 (wrap64 ((wrap64 ((ji23) + (shr .i64 a1 (IntKind.u64.wrap (x7_2))))) + (shr .i64 a1 (IntKind.u64.wrap (x8_3))))) 1) = 1 then ((spec_l3Byte.f (wrap64 (-t109))).bind fun t110 => (if x109001_3.size + t110.size ≤ 9223372036854775807 then (spec_l4Reverse.l2 k3 a1 x6_1 x7_2 (wrap64 (x8_3 + 1)) a0_0 a0_1 a0_0 (x109001_3 ++ t110)) else (none))) else ((spec_l3Byte.f t109).bind fun t111 => (if x109001_3.size + t111.size ≤ 9223372036854775807 then (spec_l4Reverse.l2 k3 a1 x6_1 x7_2 (wrap64 (x8_3 + 1)) a0_0 a0_1 a0_0 (x109001_3 ++ t111)) else (none)))) else (none)) else (none)) = some (r1, r2) := by first | (rw [hji23] at H; exact H) | (simp only [hji23] at H ⊢; exact H)
     (try rw [hji23] at A20)
     have hji23_ : (a1 / 2 ^ min (ji21).toNat 64) = ji23 := hji23
     have hji23z : (ji21) ≤ 64 → (a1 / 2 ^ (ji21).toNat) = ji23 := shr_small hji23
     obtain ⟨ji24, hji24⟩ : ∃ j_ : Int, (IntKind.u64.wrap (x7_2)) = j_ := ⟨_, rfl⟩
     replace H : (if 0 ≤ (ji24) then (if 0 ≤ (IntKind.u64.wrap (x8_3)) then (if (Go.bits .and .i64 (wrap64 ((wrap64 ((ji23) + (shr .i64 a1 (ji24)))) + (shr .i64 a1 (IntKind.u64.wrap (x8_3))))) 1) = 1 then ((spec_l3Byte.f (wrap64 (-t109))).bind fun t110 => (if x109001_3.size + t110.size ≤ 9223372036854775807 then (spec_l4Reverse.l2 k3 a1 x6_1 x7_2 (wrap64 (x8_3 + 1)) a0_0 a0_1 a0_0 (x109001_3 ++ t110)) else (none))) else ((spec_l3Byte.f t109).bind fun t111 => (if x109001_3.size + t111.size ≤ 9223372036854775807 then (spec_l4Reverse.l2 k3 a1 x6_1 x7_2 (wrap64 (x8_3 + 1)) a0_0 a0_1 a0_0 (x109001_3 ++ t111)) else (none)))) else (none)) else (none)) = some (r1, r2) := by first | (rw [hji24] at H; exact H) | (simp only [hji24] at H ⊢; exact H)
     (try rw [hji24] at A20)
     by_cases c25 : 0 ≤ (ji24)
     ·rw [if_pos c25] at H
      have c25b0 := eq_true c25
      have c25b1 := decide_eq_true c25
      clear c25
      obtain ⟨ji26, hji26⟩ : ∃ j_ : Int, (shr .i64 a1 (ji24)) = j_ := ⟨_, rfl⟩
      replace H : (if 0 ≤ (IntKind.u64.wrap (x8_3)) then (if (Go.bits .and .i64 (wrap64 ((wrap64 ((ji23) + (ji26))) + (shr .i64 a1 (IntKind.u64.wrap (x8_3))))) 1) = 1 then ((spec_l3Byte.f (wrap64 (-t109))).bind fun t110 => (if x109001_3.size + t110.size ≤ 9223372036854775807 then (spec_l4Reverse.l2 k3 a1 x6_1 x7_2 (wrap64 (x8_3 + 1)) a0_0 a0_1 a0_0 (x109001_3 ++ t110)) else (none))) else ((spec_l3Byte.f t109).bind fun t111 => (if x109001_3.size + t111.size ≤ 9223372036854775807 then (spec_l4Reverse.l2 k3 a1 x6_1 x7_2 (wrap64 (x8_3 + 1)) a0_0 a0_1 a0_0 (x109001_3 ++ t111)) else (none)))) else (none)) = some (r1, r2) := by first | (rw [hji26] at H; exact H) | (simp only [hji26] at H ⊢; exact H)
      (try rw [hji26] at A20)
      have hji26_ : (a1 / 2 ^ min (ji24).toNat 64) = ji26 := hji26
      have hji26z : (ji24) ≤ 64 → (a1 / 2 ^ (ji24).toNat) = ji26 := shr_small hji26
      obtain ⟨ji27, hji27⟩ : ∃ j_ : Int, (IntKind.u64.wrap (x8_3)) = j_ := ⟨_, rfl⟩
      replace H : (if 0 ≤ (ji27) then (if (Go.bits .and .i64 (wrap64 ((wrap64 ((ji23) + (ji26))) + (shr .i64 a1 (ji27)))) 1) = 1 then ((spec_l3Byte.f (wrap64 (-t109))).bind fun t110 => (if x109001_3.size + t110.size ≤ 9223372036854775807 then (spec_l4Reverse.l2 k3 a1 x6_1 x7_2 (wrap64 (x8_3 + 1)) a0_0 a0_1 a0_0 (x109001_3 ++ t110)) else (none))) else ((spec_l3Byte.f t109).bind fun t111 => (if x109001_3.size + t111.size ≤ 9223372036854775807 then (spec_l4Reverse.l2 k3 a1 x6_1 x7_2 (wrap64 (x8_3 + 1)) a0_0 a0_1 a0_0 (x109001_3 ++ t111)) else (none)))) else (none)) = some (r1, r2) := by first | (rw [hji27] at H; exact H) | (simp only [hji27] at H ⊢; exact H)
      (try rw [hji27] at A20)
      by_cases c28 : 0 ≤ (ji27)
      ·rw [if_pos c28] at H
       have c28b0 := eq_true c28
       have c28b1 := decide_eq_true c28
       clear c28
       obtain ⟨ji29, hji29⟩ : ∃ j_ : Int, (shr .i64 a1 (ji27)) = j_ := ⟨_, rfl⟩
       replace H : (if (Go.bits .and .i64 (wrap64 ((wrap64 ((ji23) + (ji26))) + (ji29))) 1) = 1 then ((spec_l3Byte.f (wrap64 (-t109))).bind fun t110 => (if x109001_3.size + t110.size ≤ 9223372036854775807 then (spec_l4Reverse.l2 k3 a1 x6_1 x7_2 (wrap64 (x8_3 + 1)) a0_0 a0_1 a0_0 (x109001_3 ++ t110)) else (none))) else ((spec_l3Byte.f t109).bind fun t111 => (if x109001_3.size + t111.size ≤ 9223372036854775807 then (spec_l4Reverse.l2 k3 a1 x6_1 x7_2 (wrap64 (x8_3 + 1)) a0_0 a0_1 a0_0 (x109001_3 ++ t111)) else (none)))) = some (r1, r2) := by first | (rw [hji29] at H; exact H) | (simp only [hji29] at H ⊢; exact H)
       (try rw [hji29] at A20)
       have hji29_ : (a1 / 2 ^ min (ji27).toNat 64) = ji29 := hji29
       have hji29z : (ji27) ≤ 64 → (a1 / 2 ^ (ji27).toNat) = ji29 := shr_small hji29
       by_cases c30 : (Go.bits .and .i64 (wrap64 ((wrap64 ((ji23) + (ji26))) + (ji29))) 1) = 1
       ·rw [if_pos c30] at H
        have c30b0 := beq_iff_eq.mpr c30
        have c30b1 := bne_eq_false_iff_eq.mpr c30
        clear c30
        obtain ⟨t110, A31, H⟩ := zO H
        by_cases c32 : x109001_3.size + t110.size ≤ 9223372036854775807
        ·rw [if_pos c32] at H
         have c32b0 := eq_true c32
         have c32b1 := decide_eq_true c32
         try have c32b2 : (9223372036854775807 < x109001_3.size + t110.size) = False := eq_false (Nat.not_lt.2 c32)
         have H' := Aside0.mk H; clear H
         have hnb33 := NB106_107.out
         have hnc33 := NB107_106.out
         have hnb34 := NB106_108.out
         have hnc34 := NB108_106.out
         obtain ⟨hcz35_0, hcz35_1, hfz35_0, hfz35_1⟩ := zq2 BK106.out
         try go_wp2_with (first | ((with_reducible refine gate_callee (f := 144) rfl ?_); refine zD (some 39) Try.func144 #[.agg #[.int .i64 a0_0, .string a0_1], .int .i64 x6_1, .int .i64 x7_2, .int .i64 x8_3] ?_; (with_reducible refine (spec_l3At.calls k3 a0_0 a0_1 x6_1 x7_2 x8_3 t109 _ A20.out).mono ?_); rintro e w36 ⟨rfl, hb⟩; refine ⟨_, rfl, ?_⟩; replace BK106 := zV BK106.out hb; replace BK107 := zV BK107.out hb; replace BK108 := zV BK108.out hb; replace HB := Aside0.mk (below_step (zG3 GE106.out GE107.out GE108.out) hb); (try clear hb)))
         replace BK106 := Aside0.mk (blk_drew BK106.out)
         replace BK107 := Aside0.mk (blk_drew BK107.out)
         replace BK108 := Aside0.mk (blk_drew BK108.out)
         replace HB := Aside0.mk (below_drew1 HB.out)
         refine start_ (n := 7) (S := fun w' => w'.cell? ⟨gb108, 0, none⟩ = some (.int .i64 a0_0) ∧ w'.cell? ⟨gb108, 1, none⟩ = some (.string x109001_3)) (ds := [6]) #[false, false, false, false, false, false, false] (by kernel_rfl) rfl rfl ⟨(blk_cell BK108.out 0).trans rfl, (blk_cell BK108.out 1).trans rfl⟩ (fun hHeld => ?_)
         generalize w36.drew = w37 at BK106 BK107 BK108 HB hHeld ⊢
         refine pure_ (i := 0) (N := some 58) (v := ?_) (a' := ?_) #[true, false, false, false, false, false, false] rfl rfl (by kernel_rfl) (fun _ _ _ h => h) (Or.inl ⟨by rfl, ?_⟩) ?_ ?_
         rotate_left
         ·intro w'
          go_simp
          with_reducible rfl
         rotate_left
         ·simp only [Act.put, List.setIfInBounds_toArray, List.set_cons_zero, List.set_cons_succ, i64_w, i32_w]
          rfl
         refine pure_ (i := 2) (N := some 60) (v := ?_) (a' := ?_) #[true, false, true, false, false, false, false] rfl rfl (by kernel_rfl) (fun _ _ _ h => h) (Or.inl ⟨by rfl, ?_⟩) ?_ ?_
         rotate_left
         ·intro w'
          go_simp
          with_reducible rfl
         rotate_left
         ·simp only [Act.put, List.setIfInBounds_toArray, List.set_cons_zero, List.set_cons_succ, i64_w, i32_w]
          rfl
         refine take_ (i := 1) (N := some 59) (v := ?_) (a' := ?_) #[true, true, true, false, false, false, false] rfl rfl (by kernel_rfl) (fun _ _ _ h => h) (Or.inl ⟨by rfl, ?_⟩) hHeld ?_ ?_
         rotate_left
         ·rintro w' ⟨s0, s1⟩
          go_simp
          with_reducible rfl
         rotate_left
         ·simp only [Act.put, List.setIfInBounds_toArray, List.set_cons_zero, List.set_cons_succ, i64_w, i32_w]
          rfl
         refine one_ (i := 3) (N := some 61) #[true, true, true, true, false, false, false] rfl rfl (by kernel_rfl) (by decide) (fun K hK => ?_)
         refine goes_ Try.func102 (by kernel_rfl) rfl #[.int .i64 (wrap64 (-t109))] (by rfl) rfl rfl zM ?_
         with_reducible refine (spec_l3Byte.calls (wrap64 (-t109)) t110 _ A31.out).mono ?_
         rintro e w' ⟨rfl, ⟨nd, rfl⟩⟩
         refine ⟨_, rfl, ?_⟩
         refine hK.out _ _ (zh2 BK108.out) (fun hHeld => ?_)
         clear hK K
         refine zN ?_
         refine pure_ (i := 4) (N := some 62) (v := ?_) (a' := ?_) #[true, true, true, true, true, false, false] rfl rfl (by kernel_rfl) (fun _ _ _ h => h) (Or.inl ⟨by rfl, ?_⟩) ?_ ?_
         rotate_left
         ·intro w'
          go_simp
          with_reducible rfl
         rotate_left
         ·simp only [Act.put, List.setIfInBounds_toArray, List.set_cons_zero, List.set_cons_succ, i64_w, i32_w]
          rfl
         refine pure_ (i := 5) (N := some 63) (v := ?_) (a' := ?_) #[true, true, true, true, true, true, false] rfl rfl (by kernel_rfl) (fun _ _ _ h => h) (Or.inl ⟨by rfl, ?_⟩) ?_ ?_
         rotate_left
         ·intro w'
          go_simp
          with_reducible rfl
         rotate_left
         ·simp only [Act.put, List.setIfInBounds_toArray, List.set_cons_zero, List.set_cons_succ, i64_w, i32_w]
          rfl
         refine last_ (i := 6) (N := none) #[true, true, true, true, true, true, true] rfl rfl (by kernel_rfl) (by decide) (fun K hK => ?_)
         have hs38 : w37.cell? ⟨gb108, 1, none⟩ = some (.string x109001_3) := (blk_cell BK108.out 1).trans rfl
         have hfs38 := blk_frozen BK108.out 1
         have hns38_0 := NB106_108.out
         have hns38_1 := NB107_108.out
         have hms38_0 := NB108_106.out
         have hms38_1 := NB108_107.out
         refine skip_ (w1 := ?_) (by rfl) rfl ?_ ?_
         rotate_left
         ·go_simp
          rfl
         refine hK.out _ _ ?_
         clear hK K
         refine done_ (by kernel_rfl) ?_
         try go_wp2
         go_roundg k3
         case measure => have := HK1.out; have := HK2.out; have := HK3.out; omega
         case rel => exact ⟨(wrap64 (x8_3 + 1)), (x109001_3 ++ t110), zF, H', ⟨by have := HK1.out; have := HK2.out; have := HK3.out; omega⟩, ⟨zk1 BK106.out NB106_108.out⟩, ⟨zk1 BK107.out NB107_108.out⟩, ⟨zk0 BK108.out⟩, ⟨zG3 GE106.out GE107.out GE108.out⟩⟩
        rw [if_neg c32] at H
        exact absurd H (by simp)
       rw [if_neg c30] at H
       have c30b0 := beq_eq_false_iff_ne.mpr c30
       have c30b1 := bne_iff_ne.mpr c30
       obtain ⟨t111, A39, H⟩ := zO H
       by_cases c40 : x109001_3.size + t111.size ≤ 9223372036854775807
       ·rw [if_pos c40] at H
        have c40b0 := eq_true c40
        have c40b1 := decide_eq_true c40
        try have c40b2 : (9223372036854775807 < x109001_3.size + t111.size) = False := eq_false (Nat.not_lt.2 c40)
        have H' := Aside0.mk H; clear H
        have hnb41 := NB106_107.out
        have hnc41 := NB107_106.out
        have hnb42 := NB106_108.out
        have hnc42 := NB108_106.out
        obtain ⟨hcz43_0, hcz43_1, hfz43_0, hfz43_1⟩ := zq2 BK106.out
        try go_wp2_with (first | ((with_reducible refine gate_callee (f := 144) rfl ?_); refine zD (some 39) Try.func144 #[.agg #[.int .i64 a0_0, .string a0_1], .int .i64 x6_1, .int .i64 x7_2, .int .i64 x8_3] ?_; (with_reducible refine (spec_l3At.calls k3 a0_0 a0_1 x6_1 x7_2 x8_3 t109 _ A20.out).mono ?_); rintro e w44 ⟨rfl, hb⟩; refine ⟨_, rfl, ?_⟩; replace BK106 := zV BK106.out hb; replace BK107 := zV BK107.out hb; replace BK108 := zV BK108.out hb; replace HB := Aside0.mk (below_step (zG3 GE106.out GE107.out GE108.out) hb); (try clear hb)))
        replace BK106 := Aside0.mk (blk_drew BK106.out)
        replace BK107 := Aside0.mk (blk_drew BK107.out)
        replace BK108 := Aside0.mk (blk_drew BK108.out)
        replace HB := Aside0.mk (below_drew1 HB.out)
        refine start_ (n := 7) (S := fun w' => w'.cell? ⟨gb108, 0, none⟩ = some (.int .i64 a0_0) ∧ w'.cell? ⟨gb108, 1, none⟩ = some (.string x109001_3)) (ds := [6]) #[false, false, false, false, false, false, false] (by kernel_rfl) rfl rfl ⟨(blk_cell BK108.out 0).trans rfl, (blk_cell BK108.out 1).trans rfl⟩ (fun hHeld => ?_)
        generalize w44.drew = w45 at BK106 BK107 BK108 HB hHeld ⊢
        refine pure_ (i := 0) (N := some 58) (v := ?_) (a' := ?_) #[true, false, false, false, false, false, false] rfl rfl (by kernel_rfl) (fun _ _ _ h => h) (Or.inl ⟨by rfl, ?_⟩) ?_ ?_
        rotate_left
        ·intro w'
         go_simp
         with_reducible rfl
        rotate_left
        ·simp only [Act.put, List.setIfInBounds_toArray, List.set_cons_zero, List.set_cons_succ, i64_w, i32_w]
         rfl
        refine pure_ (i := 2) (N := some 60) (v := ?_) (a' := ?_) #[true, false, true, false, false, false, false] rfl rfl (by kernel_rfl) (fun _ _ _ h => h) (Or.inl ⟨by rfl, ?_⟩) ?_ ?_
        rotate_left
        ·intro w'
         go_simp
         with_reducible rfl
        rotate_left
        ·simp only [Act.put, List.setIfInBounds_toArray, List.set_cons_zero, List.set_cons_succ, i64_w, i32_w]
         rfl
        refine take_ (i := 1) (N := some 59) (v := ?_) (a' := ?_) #[true, true, true, false, false, false, false] rfl rfl (by kernel_rfl) (fun _ _ _ h => h) (Or.inl ⟨by rfl, ?_⟩) hHeld ?_ ?_
        rotate_left
        ·rintro w' ⟨s0, s1⟩
         go_simp
         with_reducible rfl
        rotate_left
        ·simp only [Act.put, List.setIfInBounds_toArray, List.set_cons_zero, List.set_cons_succ, i64_w, i32_w]
         rfl
        refine one_ (i := 3) (N := some 61) #[true, true, true, true, false, false, false] rfl rfl (by kernel_rfl) (by decide) (fun K hK => ?_)
        refine goes_ Try.func102 (by kernel_rfl) rfl #[.int .i64 t109] (by rfl) rfl rfl zM ?_
        with_reducible refine (spec_l3Byte.calls t109 t111 _ A39.out).mono ?_
        rintro e w' ⟨rfl, ⟨nd, rfl⟩⟩
        refine ⟨_, rfl, ?_⟩
        refine hK.out _ _ (zh2 BK108.out) (fun hHeld => ?_)
        clear hK K
        refine zN ?_
        refine pure_ (i := 4) (N := some 62) (v := ?_) (a' := ?_) #[true, true, true, true, true, false, false] rfl rfl (by kernel_rfl) (fun _ _ _ h => h) (Or.inl ⟨by rfl, ?_⟩) ?_ ?_
        rotate_left
        ·intro w'
         go_simp
         with_reducible rfl
        rotate_left
        ·simp only [Act.put, List.setIfInBounds_toArray, List.set_cons_zero, List.set_cons_succ, i64_w, i32_w]
         rfl
        refine pure_ (i := 5) (N := some 63) (v := ?_) (a' := ?_) #[true, true, true, true, true, true, false] rfl rfl (by kernel_rfl) (fun _ _ _ h => h) (Or.inl ⟨by rfl, ?_⟩) ?_ ?_
        rotate_left
        ·intro w'
         go_simp
         with_reducible rfl
        rotate_left
        ·simp only [Act.put, List.setIfInBounds_toArray, List.set_cons_zero, List.set_cons_succ, i64_w, i32_w]
         rfl
        refine last_ (i := 6) (N := none) #[true, true, true, true, true, true, true] rfl rfl (by kernel_rfl) (by decide) (fun K hK => ?_)
        have hs46 : w45.cell? ⟨gb108, 1, none⟩ = some (.string x109001_3) := (blk_cell BK108.out 1).trans rfl
        have hfs46 := blk_frozen BK108.out 1
        have hns46_0 := NB106_108.out
        have hns46_1 := NB107_108.out
        have hms46_0 := NB108_106.out
        have hms46_1 := NB108_107.out
        refine skip_ (w1 := ?_) (by rfl) rfl ?_ ?_
        rotate_left
        ·go_simp
         rfl
        refine hK.out _ _ ?_
        clear hK K
        refine done_ (by kernel_rfl) ?_
        try go_wp2
        go_roundg k3
        case measure => have := HK1.out; have := HK2.out; have := HK3.out; omega
        case rel => exact ⟨(wrap64 (x8_3 + 1)), (x109001_3 ++ t111), zF, H', ⟨by have := HK1.out; have := HK2.out; have := HK3.out; omega⟩, ⟨zk1 BK106.out NB106_108.out⟩, ⟨zk1 BK107.out NB107_108.out⟩, ⟨zk0 BK108.out⟩, ⟨zG3 GE106.out GE107.out GE108.out⟩⟩
       rw [if_neg c40] at H
       exact absurd H (by simp)
      rw [if_neg c28] at H
      exact absurd H (by simp)
     rw [if_neg c25] at H
     exact absurd H (by simp)
    rw [if_neg c22] at H
    exact absurd H (by simp)
   rw [if_neg c19] at H
   have c19b0 := decide_eq_false c19
   clear c19
   have H' := Aside0.mk H; clear H
   have hnb47 := NB106_107.out
   have hnc47 := NB107_106.out
   have hnb48 := NB106_108.out
   have hnc48 := NB108_106.out
   obtain ⟨hcz49_0, hcz49_1, hfz49_0, hfz49_1⟩ := zq2 BK106.out
   go_wp2
   go_roundg k3
   case measure => have := HK1.out; have := HK2.out; have := HK3.out; omega
   case rel => exact ⟨(wrap64 (x7_2 + 1)), (x109001_3), zF, H', ⟨by have := HK1.out; have := HK2.out; have := HK3.out; omega⟩, ⟨zK BK106.out⟩, ⟨zK BK107.out⟩, ⟨zK BK108.out⟩, ⟨zG3 GE106.out GE107.out GE108.out⟩⟩
  rw [if_neg c15] at H
  have c15b0 := decide_eq_false c15
  clear c15
  have H' := Aside0.mk H; clear H
  have hnb50 := NB106_107.out
  have hnc50 := NB107_106.out
  have hnb51 := NB106_108.out
  have hnc51 := NB108_106.out
  obtain ⟨hcz52_0, hcz52_1, hfz52_0, hfz52_1⟩ := zq2 BK106.out
  go_wp2
  go_roundg k2
  case measure => have := HK1.out; have := HK2.out; omega
  case rel => exact ⟨(wrap64 (x6_1 + 1)), (x109001_2), zF, H', ⟨by have := HK1.out; have := HK2.out; omega⟩, ⟨zK BK106.out⟩, ⟨zK BK107.out⟩, ⟨zK BK108.out⟩, ⟨zG3 GE106.out GE107.out GE108.out⟩⟩
 rw [if_neg c11] at H
 have c11b0 := decide_eq_false c11
 clear c11
 simp only [Option.some.injEq, Prod.mk.injEq] at H
 obtain ⟨rfl, rfl⟩ := H
 have hnb53 := NB106_107.out
 have hnc53 := NB107_106.out
 have hnb54 := NB106_108.out
 have hnc54 := NB108_106.out
 obtain ⟨hcz55_0, hcz55_1, hfz55_0, hfz55_1⟩ := zq2 BK106.out
 have hnb56 := NB108_107.out
 have hnc56 := NB107_108.out
 obtain ⟨hcz57_0, hcz57_1, hfz57_0, hfz57_1⟩ := zq2 BK108.out
 obtain ⟨hcz58_0, hcz58_1, hfz58_0, hfz58_1⟩ := zq2 BK107.out
 go_wp2
 refine bodyPost_ret (results_cell_row rfl _ _ gb107 25 #[.int .i64 a0_0, .string x109001_1] (0, 0) _ rfl (zk0 BK107.out) Try.underlying25 rfl (by kernel_rfl)) rfl ?_
 exact ⟨zE, zG3 GE106.out GE107.out GE108.out⟩
/-! ### spec_l4Draw: function 80 -/
def spec_l4Draw.j0 : Nat → Bool → List Int → Int → Int → Int → ByteArray → Option (Int × ByteArray × Int × Int)
 | 0, _, _, _, _, _, _ => none
 | k + 1, x11, x1000, x1001, x1002, x233000, x233001 => if x11 = true then ((spec_l1Below.f x1000 x1001 x1002 x233000).bind fun bt237 => (if 0 ≤ (IntKind.u64.wrap (bt237.1)) then ((spec_l4Reverse.f k x233000 x233001 (shl .i64 1 (IntKind.u64.wrap (bt237.1)))).bind fun bt240 => (some (bt240.1, bt240.2, bt237.2.1, bt237.2.2))) else (none))) else (some (x233000, x233001, x1001, x1002))
def spec_l4Draw.f (k : Nat) (s0_0 : List Int) (s0_1 : Int) (s0_2 : Int) : Option (Int × ByteArray × Int × Int) := (spec_l3Bent.f k s0_0 s0_1 s0_2).bind fun bt228 => ((spec_AreSigns.f k bt228.1 bt228.2.1).bind fun t233 => (if t233 = true then ((spec_l1Once.f s0_0 bt228.2.2.1 bt228.2.2.2 4).bind fun bt234 => (spec_l4Draw.j0 k bt234.1 s0_0 bt234.2.1 bt234.2.2 bt228.1 bt228.2.1)) else (spec_l4Draw.j0 k false s0_0 bt228.2.2.1 bt228.2.2.2 bt228.1 bt228.2.1)))
def spec_l4Draw.T3 : Bool × List (List Nat × List Nat) := (true, [([], []), ([], []), ([], []), ([2], [2]), ([1, 3], [1, 3]), ([4], [4]), ([5], [5]), ([0, 6, 4], [0, 6]), ([7, 7, 0, 1, 2, 3, 4, 5, 6, 7], [7])])
def spec_l4Draw.B3 : List Nat := [0, 0, 0, 4, 14, 30, 62, 127, 255]
theorem spec_l4Draw.tab3 : rtab .any (opsOf Try.f80 3) = spec_l4Draw.T3 := by kernel_rfl
theorem spec_l4Draw.bits3 : waitsOk spec_l4Draw.T3.2 spec_l4Draw.B3 = true := by kernel_rfl
theorem zl22_0 {p q : Prop} (g : p) (h : p → q := by intro zg_; repeat (first | (with_reducible first | exact zg_ | apply IsS110.alloc | apply IsS110.drewN | apply IsS110.drew | apply IsS110.set_1 | apply IsS110.set_2) | exact zg_)) : q := h g
theorem zl22_1 {p q : Prop} (g : p) (h : p → q := by intro zg_; repeat (first | (with_reducible first | exact zg_ | apply KeepBut.set_ | apply keep_drewN | apply keep_drew | apply keep_alloc) | exact zg_)) : q := h g
theorem zl22_2 {p q p0 : Prop} (g : p) (g0 : p0) (h : p → p0 → q := by intro zg_ z0_; repeat (first | (with_reducible first | exact zg_ | apply IsS110.alloc | apply IsS110.drewN | apply IsS110.drew | apply IsS110.set_1 | apply IsS110.set_2 | refine IsS110.far ?_ z0_ _) | exact zg_)) : q := h g g0
theorem zl22_3 {p q p0 p1 : Prop} (g : p) (g0 : p0) (g1 : p1) (h : p → p0 → p1 → q := by intro zg_ z0_ z1_; repeat (first | (with_reducible first | exact zg_ | apply below_alloc | apply pw_below_drewN | apply below_drew1 | refine below_set ?_ z0_ | refine below_set ?_ z1_) | exact zg_)) : q := h g g0 g1
theorem zl22_4 {p q p0 : Prop} (g : p) (g0 : p0) (h : p → p0 → q := by intro zg_ z0_; repeat (first | (with_reducible first | exact zg_ | apply KeepBut.set_ | apply keep_drewN | apply keep_drew | apply keep_alloc | refine keep_far ?_ z0_ _) | exact zg_)) : q := h g g0
theorem zl22_5 {p q p0 p1 : Prop} (g : p) (g0 : p0) (g1 : p1) (h : p → p0 → p1 → q := by intro zg_ z0_ z1_; repeat (first | (with_reducible first | exact zg_ | apply IsS110.alloc | apply IsS110.drewN | apply IsS110.drew | apply IsS110.set_1 | apply IsS110.set_2 | refine IsS110.far ?_ z0_ _ | refine IsS110.far ?_ z1_ _) | exact zg_)) : q := h g g0 g1
theorem zl22_6 {p q p0 p1 : Prop} (g : p) (g0 : p0) (g1 : p1) (h : p → p0 → p1 → q := by intro zg_ z0_ z1_; repeat (first | (with_reducible first | exact zg_ | apply KeepBut.set_ | apply keep_drewN | apply keep_drew | apply keep_alloc | refine keep_far ?_ z0_ _ | refine keep_far ?_ z1_ _) | exact zg_)) : q := h g g0 g1
theorem zl22_7 {p q p0 p1 p2 : Prop} (g : p) (g0 : p0) (g1 : p1) (g2 : p2) (h : p → p0 → p1 → p2 → q := by intro zg_ z0_ z1_ z2_; repeat (first | (with_reducible first | exact zg_ | apply below_alloc | apply pw_below_drewN | apply below_drew1 | refine below_set ?_ z0_ | refine below_set ?_ z1_ | refine below_set ?_ z2_) | exact zg_)) : q := h g g0 g1 g2
set_option maxHeartbeats 8000000 in
set_option maxRecDepth 100000 in
theorem spec_l4Draw.calls (k : Nat) (g : Nat) (s0_0 : List Int) (s0_1 : Int) (s0_2 : Int) (r1 : Int) (r2 : ByteArray) (r3 : Int) (r4 : Int) (w0 w : World) (hI : IsS110 w0 w g s0_0 s0_1 s0_2) (hB : Below w0.heap.size w0 w) (h : spec_l4Draw.f k s0_0 s0_1 s0_2 = some (r1, r2, r3, r4)) :
  Calls Try.prog 80 #[.pointer (some ⟨g, 0, none⟩)] w fun e w' => e = .returned (.agg #[.int .i64 r1, .string r2]) ∧ IsS110 w0 w' g s0_0 r3 r4 ∧ Below w0.heap.size w0 w' ∧ KeepBut w w' g none := by
 have hu25 := Try.underlying25
 have HI0 := Aside0.mk hI
 have HK := Aside0.mk (KeepBut.refl w g none)
 have HL := Aside0.mk hB.size
 clear hI
 have HW0 := Aside0.mk hB.size
 have HB := Aside0.mk hB
 clear hB
 have H : ((spec_l3Bent.f k s0_0 s0_1 s0_2).bind fun bt228 => ((spec_AreSigns.f k bt228.1 bt228.2.1).bind fun t233 => (if t233 = true then ((spec_l1Once.f s0_0 bt228.2.2.1 bt228.2.2.2 4).bind fun bt234 => (spec_l4Draw.j0 k bt234.1 s0_0 bt234.2.1 bt234.2.2 bt228.1 bt228.2.1)) else (spec_l4Draw.j0 k false s0_0 bt228.2.2.1 bt228.2.2.2 bt228.1 bt228.2.1)))) = some (r1, r2, r3, r4) := h
 clear h
 obtain ⟨⟨t228, t229, t230, t231⟩, A2, H⟩ := zO H
 dsimp only at H
 have HC3 := Aside0.mk H
 clear H
 go_enter Try.func80, Try.ntmps80
 go_upto_region 2 with (first | ((with_reducible refine gate_dst (N := 2) rfl ?_); refine zBx (N := 2) #[.int .i64 0, .string (⟨#[]⟩ : ByteArray)] 25 ?_; intro gb227 hg w4 hbox hb; have n0_ := Aside0.mk (IsS110.below (zl22_0 HI0.out) hb); have n1_ := Aside0.mk (KeepBut.trans (zl22_1 HK.out) (KeepBut.of_below hb g none) (.inl rfl)); have n2_ := Aside0.mk (below_step (zG (IsS110.ge HI0.out)) hb); have n3_ := Aside0.mk (hbox); have n4_ := Aside0.mk ((by rw [hg]; exact (keep_size (w := w) (g := g) (row := none) (zl22_1 HK.out)) : w.heap.size ≤ gb227)); have n5_ := Aside0.mk ((Nat.le_trans HW0.out (by rw [hg]; exact (keep_size (w := w) (g := g) (row := none) (zl22_1 HK.out)) : w.heap.size ≤ gb227) : w0.heap.size ≤ gb227)); have n6_ := Aside0.mk ((by rw [hg]; exact Nat.ne_of_lt (IsS110.lt (show IsS110 w0 _ g s0_0 s0_1 s0_2 from (zl22_0 HI0.out))) : g ≠ gb227)); have n7_ := Aside0.mk ((by rw [hg]; exact Nat.ne_of_gt (IsS110.lt (show IsS110 w0 _ g s0_0 s0_1 s0_2 from (zl22_0 HI0.out))) : gb227 ≠ g)); clear HI0; clear HK; clear HB; have HI0 := n0_; have HK := n1_; have HB := n2_; have BK227 := n3_; have GW227 := n4_; have GE227 := n5_; have NB0_227 := n6_; have NB227_0 := n7_; clear n0_ n1_ n2_ n3_ n4_ n5_ n6_ n7_; clear hb hbox hg) | ((with_reducible refine gate_callee (f := 141) rfl ?_); refine zD (some 5) Try.func141 #[.pointer (some ⟨g, 0, none⟩)] ?_; (with_reducible refine (spec_l3Bent.calls k g s0_0 s0_1 s0_2 t228 t229 t230 t231 w0 _ ?side1 ?side2 A2.out).mono ?_); (case side1 => exact (zl22_2 HI0.out NB0_227.out)); (case side2 => exact (zl22_3 HB.out (IsS110.ge HI0.out) GE227.out)); rintro e w5 ⟨rfl, hi, hb, hk⟩; refine ⟨_, rfl, ?_⟩; replace BK227 := zKB hk BK227.out NB227_0.out; replace HK := Aside0.mk (KeepBut.trans (zl22_4 HK.out GW227.out) hk (.inl rfl)); replace HI0 := Aside0.mk (hi); replace HB := Aside0.mk (hb); (try clear hb); (try clear hk); (try clear hi)) | ((with_reducible refine gate_dst (N := 3) rfl ?_); refine zBx (N := 3) #[.int .i64 0, .string (⟨#[]⟩ : ByteArray)] 25 ?_; intro gb232 hg w6 hbox hb; have n0_ := Aside0.mk (IsS110.below (zl22_2 HI0.out NB0_227.out) hb); have n1_ := zV BK227.out hb; have n2_ := Aside0.mk (KeepBut.trans (zl22_4 HK.out GW227.out) (KeepBut.of_below hb g none) (.inl rfl)); have n3_ := Aside0.mk (below_step (zG2 (IsS110.ge HI0.out) GE227.out) hb); have n4_ := Aside0.mk (hbox); have n5_ := Aside0.mk ((by rw [hg]; exact (keep_size (w := w) (g := g) (row := none) (zl22_4 HK.out GW227.out)) : w.heap.size ≤ gb232)); have n6_ := Aside0.mk ((Nat.le_trans HW0.out (by rw [hg]; exact (keep_size (w := w) (g := g) (row := none) (zl22_4 HK.out GW227.out)) : w.heap.size ≤ gb232) : w0.heap.size ≤ gb232)); have n7_ := zL hg BK227.out; have n8_ := zLg hg BK227.out; have n9_ := Aside0.mk ((by rw [hg]; exact Nat.ne_of_lt (IsS110.lt (show IsS110 w0 _ g s0_0 t230 t231 from (zl22_2 HI0.out NB0_227.out))) : g ≠ gb232)); have n10_ := Aside0.mk ((by rw [hg]; exact Nat.ne_of_gt (IsS110.lt (show IsS110 w0 _ g s0_0 t230 t231 from (zl22_2 HI0.out NB0_227.out))) : gb232 ≠ g)); clear HI0; clear BK227; clear HK; clear HB; have HI0 := n0_; have BK227 := n1_; have HK := n2_; have HB := n3_; have BK232 := n4_; have GW232 := n5_; have GE232 := n6_; have NB227_232 := n7_; have NB232_227 := n8_; have NB0_232 := n9_; have NB232_0 := n10_; clear n0_ n1_ n2_ n3_ n4_ n5_ n6_ n7_ n8_ n9_ n10_; clear hb hbox hg; have hnb7 := NB232_227.out; have hnc7 := NB227_232.out; have hnb8 := NB232_0.out; have hnc8 := NB0_232.out; obtain ⟨hcz9_0, hcz9_1, hfz9_0, hfz9_1⟩ := zq2 BK232.out))
 (try simp only [Act.put, List.setIfInBounds_toArray, List.set_cons_zero, List.set_cons_succ])
 go_cut [11] (fun v11 wc => ∃ (kq : Nat) (x11_2 : Bool) (x1001_2 : Int) (x1002_2 : Int), v11 = .bool x11_2 ∧ Aside0 (spec_l4Draw.j0 kq x11_2 s0_0 x1001_2 x1002_2 t228 t229 = some (r1, r2, r3, r4)) ∧ Aside0 (kq ≤ k) ∧ Aside0 (wc.heap[gb227]? = some (.cells #[.int .i64 0, .string (⟨#[]⟩ : ByteArray)] 25 (0, 0))) ∧ Aside0 (wc.heap[gb232]? = some (.cells #[.int .i64 t228, .string t229] 25 (0, 0))) ∧ Aside0 (IsS110 w0 wc g s0_0 x1001_2 x1002_2) ∧ Aside0 (KeepBut w wc g none) ∧ Aside0 (Below w0.heap.size w0 wc))
 case first =>
  have H := HC3.out
  clear HC3
  obtain ⟨t233, A10, H⟩ := zO H
  by_cases c11 : t233 = true
  ·subst c11
   replace H := (if_pos rfl).symm.trans H
   obtain ⟨⟨t234, t235, t236⟩, A12, H⟩ := zO H
   replace H : (spec_l4Draw.j0 k t234 s0_0 t235 t236 t228 t229) = some (r1, r2, r3, r4) := H
   have H' := Aside0.mk H; clear H
   have hnb13 := NB232_227.out
   have hnc13 := NB227_232.out
   have hnb14 := NB232_0.out
   have hnc14 := NB0_232.out
   obtain ⟨hcz15_0, hcz15_1, hfz15_0, hfz15_1⟩ := zq2 BK232.out
   go_wp2_with (first | ((with_reducible refine gate_callee (f := 25) rfl ?_); refine zD (some 7) Try.func25 #[.agg #[.int .i64 t228, .string t229]] ?_; (with_reducible refine (spec_AreSigns.calls k t228 t229 true _ A10.out).mono ?_); rintro e w16 ⟨rfl, hb⟩; refine ⟨_, rfl, ?_⟩; have n0_ := Aside0.mk (IsS110.below (show IsS110 w0 ((w6.setCell ⟨gb232, 0, none⟩ (.int .i64 t228)).setCell ⟨gb232, 1, none⟩ (.string t229)) g s0_0 t230 t231 from (zl22_5 HI0.out NB0_227.out NB0_232.out)) hb); have n1_ := Aside0.mk (blk_below (g := gb227) (o := .cells #[.int .i64 0, .string (⟨#[]⟩ : ByteArray)] 25 (0, 0)) (zk2 BK227.out NB227_232.out NB227_232.out) hb); have n2_ := Aside0.mk (blk_below (g := gb232) (o := .cells #[.int .i64 t228, .string t229] 25 (0, 0)) (zk0 BK232.out) hb); have n3_ := Aside0.mk (KeepBut.trans (zl22_6 HK.out GW227.out GW232.out) (KeepBut.of_below hb g none) (.inl rfl)); have n4_ := Aside0.mk (below_step (zG3 (IsS110.ge HI0.out) GE227.out GE232.out) hb); clear HI0; clear BK227; clear BK232; clear HK; clear HB; have HI0 := n0_; have BK227 := n1_; have BK232 := n2_; have HK := n3_; have HB := n4_; clear n0_ n1_ n2_ n3_ n4_; (try clear hb)) | (go_at_call 127; (with_reducible refine (spec_l1Once.calls g s0_0 t230 t231 4 t234 t235 t236 w0 _ ?side1 ?side2 A12.out).mono ?_); (case side1 => exact (zl22_5 HI0.out NB0_227.out NB0_232.out)); (case side2 => exact (zl22_7 HB.out (IsS110.ge HI0.out) GE227.out GE232.out)); rintro e w17 ⟨rfl, hi, hb, hk⟩; replace BK227 := zKB hk BK227.out NB227_0.out; replace BK232 := zKB hk BK232.out NB232_0.out; replace HK := Aside0.mk (KeepBut.trans (zl22_6 HK.out GW227.out GW232.out) hk (.inl rfl)); replace HI0 := Aside0.mk (hi); replace HB := Aside0.mk (hb); (try clear hb); (try clear hb2); (try clear hk); (try clear hi)))
   go_meet
   case rel => exact ⟨_, (t234), (t235), (t236), zF, H', ⟨by first | omega | exact Nat.le_refl _⟩, ⟨zK BK227.out⟩, ⟨zK BK232.out⟩, ⟨(zl22_5 HI0.out NB0_227.out NB0_232.out)⟩, ⟨(zl22_6 HK.out GW227.out GW232.out)⟩, ⟨zG3 (IsS110.ge HI0.out) GE227.out GE232.out⟩⟩
  replace c11 := Bool.eq_false_iff.mpr c11
  subst c11
  replace H := (if_neg zFf).symm.trans H
  have H' := Aside0.mk H; clear H
  have hnb18 := NB232_227.out
  have hnc18 := NB227_232.out
  have hnb19 := NB232_0.out
  have hnc19 := NB0_232.out
  obtain ⟨hcz20_0, hcz20_1, hfz20_0, hfz20_1⟩ := zq2 BK232.out
  go_wp2_with (first | ((with_reducible refine gate_callee (f := 25) rfl ?_); refine zD (some 7) Try.func25 #[.agg #[.int .i64 t228, .string t229]] ?_; (with_reducible refine (spec_AreSigns.calls k t228 t229 false _ A10.out).mono ?_); rintro e w21 ⟨rfl, hb⟩; refine ⟨_, rfl, ?_⟩; have n0_ := Aside0.mk (IsS110.below (show IsS110 w0 ((w6.setCell ⟨gb232, 0, none⟩ (.int .i64 t228)).setCell ⟨gb232, 1, none⟩ (.string t229)) g s0_0 t230 t231 from (zl22_5 HI0.out NB0_227.out NB0_232.out)) hb); have n1_ := Aside0.mk (blk_below (g := gb227) (o := .cells #[.int .i64 0, .string (⟨#[]⟩ : ByteArray)] 25 (0, 0)) (zk2 BK227.out NB227_232.out NB227_232.out) hb); have n2_ := Aside0.mk (blk_below (g := gb232) (o := .cells #[.int .i64 t228, .string t229] 25 (0, 0)) (zk0 BK232.out) hb); have n3_ := Aside0.mk (KeepBut.trans (zl22_6 HK.out GW227.out GW232.out) (KeepBut.of_below hb g none) (.inl rfl)); have n4_ := Aside0.mk (below_step (zG3 (IsS110.ge HI0.out) GE227.out GE232.out) hb); clear HI0; clear BK227; clear BK232; clear HK; clear HB; have HI0 := n0_; have BK227 := n1_; have BK232 := n2_; have HK := n3_; have HB := n4_; clear n0_ n1_ n2_ n3_ n4_; (try clear hb)))
  go_meet
  case rel => exact ⟨_, (false), (t230), (t231), zF, H', ⟨by first | omega | exact Nat.le_refl _⟩, ⟨zK BK227.out⟩, ⟨zK BK232.out⟩, ⟨(zl22_5 HI0.out NB0_227.out NB0_232.out)⟩, ⟨(zl22_6 HK.out GW227.out GW232.out)⟩, ⟨zG3 (IsS110.ge HI0.out) GE227.out GE232.out⟩⟩
 case rest =>
 clear HC3
 try clear hcz9_0
 try clear hcz9_1
 try clear hfz9_0
 try clear hfz9_1
 obtain ⟨kq, x11_2, x1001_2, x1002_2, rfl, HA, HJ2, BK227, BK232, HI0, HK, HB⟩ := hcut
 cases kq with
 | zero => exact absurd HA.out (by simp [spec_l4Draw.j0])
 | succ kj2 =>
 have H := HA.out
 clear HA
 simp only [spec_l4Draw.j0] at H
 by_cases c22 : x11_2 = true
 ·subst c22
  replace H := (if_pos rfl).symm.trans H
  obtain ⟨⟨t237, t238, t239⟩, A23, H⟩ := zO H
  dsimp only at H
  obtain ⟨ji24, hji24⟩ : ∃ j_ : Int, (IntKind.u64.wrap (t237)) = j_ := ⟨_, rfl⟩
  replace H : (if 0 ≤ (ji24) then ((spec_l4Reverse.f kj2 t228 t229 (shl .i64 1 (ji24))).bind fun bt240 => (some (bt240.1, bt240.2, t238, t239))) else (none)) = some (r1, r2, r3, r4) := by first | (rw [hji24] at H; exact H) | (simp only [hji24] at H ⊢; exact H)
  (try rw [hji24] at A23)
  by_cases c25 : 0 ≤ (ji24)
  ·rw [if_pos c25] at H
   have c25b0 := eq_true c25
   have c25b1 := decide_eq_true c25
   clear c25
   obtain ⟨ji26, hji26⟩ : ∃ j_ : Int, (shl .i64 1 (ji24)) = j_ := ⟨_, rfl⟩
   replace H : ((spec_l4Reverse.f kj2 t228 t229 (ji26)).bind fun bt240 => (some (bt240.1, bt240.2, t238, t239))) = some (r1, r2, r3, r4) := by first | (rw [hji26] at H; exact H) | (simp only [hji26] at H ⊢; exact H)
   (try rw [hji26] at A23)
   have hji26_ : (IntKind.i64.wrap (1 * 2 ^ min (ji24).toNat 64)) = ji26 := hji26
   have hji26z : (ji24) ≤ 64 → (IntKind.i64.wrap (1 * 2 ^ (ji24).toNat)) = ji26 := shl_small hji26
   have hji26u : (IntKind.i64.wrap (2 ^ min (ji24).toNat 64)) = ji26 := by have h_ := hji26_; rw [Int.one_mul] at h_; exact h_
   have hji26v : (ji24) ≤ 64 → (IntKind.i64.wrap (2 ^ (ji24).toNat)) = ji26 := fun hle_ => by have h_ := hji26z hle_; rw [Int.one_mul] at h_; exact h_
   have hji26y : (wrap64 (1 * 2 ^ min (ji24).toNat 64)) = ji26 := (i64_w _).symm.trans hji26_
   have hji26x : (ji24) ≤ 64 → (wrap64 (1 * 2 ^ (ji24).toNat)) = ji26 := fun h_ => (i64_w _).symm.trans (hji26z h_)
   obtain ⟨⟨t240, t241⟩, A27, H⟩ := zO H
   replace H : (some (t240, t241, t238, t239)) = some (r1, r2, r3, r4) := H
   simp only [Option.some.injEq, Prod.mk.injEq] at H
   obtain ⟨rfl, rfl, rfl, rfl⟩ := H
   try go_wp2
   replace BK227 := Aside0.mk (blk_drew BK227.out)
   replace BK232 := Aside0.mk (blk_drew BK232.out)
   replace HI0 := Aside0.mk (IsS110.drew HI0.out)
   replace HK := Aside0.mk (keep_drew HK.out)
   replace HB := Aside0.mk (below_drew1 HB.out)
   refine start_ (n := 9) (S := fun w' => w'.cell? ⟨gb232, 0, none⟩ = some (.int .i64 t228) ∧ w'.cell? ⟨gb232, 1, none⟩ = some (.string t229)) (ds := []) #[false, false, false, false, false, false, false, false, false] (by kernel_rfl) rfl rfl ⟨(blk_cell BK232.out 0).trans rfl, (blk_cell BK232.out 1).trans rfl⟩ (fun hHeld => ?_); refine with_tabW spec_l4Draw.tab3 spec_l4Draw.bits3 (fun HT_ HW_ => ?_)
   generalize wc.drew = w28 at BK227 BK232 HI0 HK HB hHeld ⊢
   refine zP 1 (some 13) rfl rfl ?_
   refine zP 2 (some 14) rfl rfl ?_
   refine zY2 0 (some 12) rfl rfl hHeld ?_
   refine zY2 3 (some 15) rfl rfl hHeld ?_
   refine zU 4 (some 16) rfl rfl (fun K hK => ?_)
   refine goes_ Try.func125 (by kernel_rfl) rfl #[.pointer (some ⟨g, 0, none⟩), .int .i64 t228] (by rfl) rfl rfl zM ?_
   with_reducible refine (spec_l1Below.calls g s0_0 x1001_2 x1002_2 t228 t237 t238 t239 w0 _ ?side1 ?side2 A23.out).mono ?_
   (case side1 => exact (zl22_5 HI0.out NB0_227.out NB0_232.out))
   (case side2 => exact (zl22_7 HB.out (IsS110.ge HI0.out) GE227.out GE232.out))
   rintro e w29 ⟨rfl, hi, hb, hk⟩
   refine ⟨_, rfl, ?_⟩
   replace BK227 := zKB hk BK227.out NB227_0.out
   replace BK232 := zKB hk BK232.out NB232_0.out
   replace HK := Aside0.mk (KeepBut.trans (zl22_6 HK.out GW227.out GW232.out) hk (.inl rfl))
   replace HI0 := Aside0.mk (hi)
   replace HB := Aside0.mk (hb)
   (try clear hb)
   (try clear hk)
   (try clear hi)
   refine hK.out _ _ (zh2 BK232.out) (fun hHeld => ?_)
   clear hK K
   refine zN ?_
   refine zP 5 (some 17) rfl rfl ?_
   refine zP 6 (some 18) rfl rfl ?_
   refine zU 7 (some 19) rfl rfl (fun K hK => ?_)
   refine goes_ Try.func90 (by kernel_rfl) rfl #[.agg #[.int .i64 t228, .string t229], .int .i64 ji26] (by rfl) rfl rfl (by (try simp only [List.map_toArray, List.map_cons, List.map_nil]); first | done | (simp only [hji26]; rfl) | rfl | (simp only [List.length_drop, List.length_take]; rfl)) ?_
   with_reducible refine (spec_l4Reverse.calls kj2 t228 t229 ji26 t240 t241 _ A27.out).mono ?_
   rintro e w30 ⟨rfl, hb⟩
   refine ⟨_, rfl, ?_⟩
   have n0_ := zV BK227.out hb
   have n1_ := zV BK232.out hb
   have n2_ := Aside0.mk (IsS110.below (zl22_5 HI0.out NB0_227.out NB0_232.out) hb)
   have n3_ := Aside0.mk (KeepBut.trans (zl22_6 HK.out GW227.out GW232.out) (KeepBut.of_below hb g none) (.inl rfl))
   have n4_ := Aside0.mk (below_step (zG3 (IsS110.ge HI0.out) GE227.out GE232.out) hb)
   clear BK227
   clear BK232
   clear HI0
   clear HK
   clear HB
   have BK227 := n0_
   have BK232 := n1_
   have HI0 := n2_
   have HK := n3_
   have HB := n4_
   clear n0_ n1_ n2_ n3_ n4_
   (try clear hb)
   refine hK.out _ _ (zh2 BK232.out) (fun hHeld => ?_)
   clear hK K
   refine zN ?_
   refine zU 8 none rfl rfl (fun K hK => ?_)
   have hs31 : w30.cell? ⟨gb227, 0, none⟩ = some (.int .i64 0) := (blk_cell BK227.out 0).trans rfl
   have hfs31 := blk_frozen BK227.out 0
   have hns31_1 := NB232_227.out
   have hms31_1 := NB227_232.out
   have hs32 : w30.cell? ⟨gb227, 1, none⟩ = some (.string (⟨#[]⟩ : ByteArray)) := (blk_cell BK227.out 1).trans rfl
   have hfs32 := blk_frozen BK227.out 1
   have hns32_1 := NB232_227.out
   have hms32_1 := NB227_232.out
   refine skip_ (w1 := ?_) (by rfl) rfl ?_ ?_
   rotate_left
   ·go_simp
    rfl
   refine hK.out _ _ ⟨((cell_far (p := ⟨gb227, _, none⟩) NB232_227.out _).trans (((cell_far (p := ⟨gb227, _, none⟩) NB232_227.out _).trans (hHeld.1)))), ((cell_far (p := ⟨gb227, _, none⟩) NB232_227.out _).trans (((cell_far (p := ⟨gb227, _, none⟩) NB232_227.out _).trans (hHeld.2))))⟩ (fun hHeld => ?_)
   clear hK K
   refine done_ (done_of HT_.out (by kernel_rfl)) ?_
   try go_wp2
   refine bodyPost_ret (results_cell_row rfl _ _ gb227 25 #[.int .i64 t240, .string t241] (0, 0) _ rfl (zk0 BK227.out) Try.underlying25 rfl (by kernel_rfl)) rfl ?_
   exact ⟨by first | rfl | (simp [errW_none, errW_some] <;> rfl) | (simp only [← hji24, ← hji26]; first | rfl | (simp [errW_none, errW_some] <;> rfl)) | (simp [*, errW_none, errW_some] <;> rfl), (zl22_5 HI0.out NB0_227.out NB0_232.out), zG3 (IsS110.ge HI0.out) GE227.out GE232.out, (zl22_6 HK.out GW227.out GW232.out)⟩
  rw [if_neg c25] at H
  exact absurd H (by simp)
 replace c22 := Bool.eq_false_iff.mpr c22
 subst c22
 replace H := (if_neg zFf).symm.trans H
 simp only [Option.some.injEq, Prod.mk.injEq] at H
 obtain ⟨rfl, rfl, rfl, rfl⟩ := H
 have hnb33 := NB232_227.out
 have hnc33 := NB227_232.out
 have hnb34 := NB232_0.out
 have hnc34 := NB0_232.out
 obtain ⟨hcz35_0, hcz35_1, hfz35_0, hfz35_1⟩ := zq2 BK232.out
 have hnb36 := NB227_0.out
 have hnc36 := NB0_227.out
 obtain ⟨hcz37_0, hcz37_1, hfz37_0, hfz37_1⟩ := zq2 BK227.out
 go_wp2
 refine bodyPost_ret (results_cell_row rfl _ _ gb227 25 #[.int .i64 t228, .string t229] (0, 0) _ rfl (zk0 BK227.out) Try.underlying25 rfl (by kernel_rfl)) rfl ?_
 exact ⟨zE, (zl22_5 HI0.out NB0_227.out NB0_232.out), zG3 (IsS110.ge HI0.out) GE227.out GE232.out, (zl22_6 HK.out GW227.out GW232.out)⟩
/-! ### spec_l5Draw: function 109 -/
def spec_l5Draw.f (k : Nat) (s0_0 : List Int) (s0_1 : Int) (s0_2 : Int) : Option (Int × ByteArray × Int × Int) := (spec_l1Once.f s0_0 s0_1 s0_2 8).bind fun bt672 => (if bt672.1 = true then ((spec_l4Draw.f k s0_0 bt672.2.1 bt672.2.2).bind fun bt675 => (some (bt675.1, bt675.2.1, bt675.2.2.1, bt675.2.2.2))) else ((spec_l2Draw.f k s0_0 bt672.2.1 bt672.2.2).bind fun bt679 => ((spec_SignsOf.f k bt679.1).bind fun bt684 => (some (bt684.1, bt684.2.1, bt679.2.1, bt679.2.2)))))
theorem zl68_0 {p q : Prop} (g : p) (h : p → q := by intro zg_; repeat (first | (with_reducible first | exact zg_ | apply IsS110.alloc | apply IsS110.drewN | apply IsS110.drew | apply IsS110.set_1 | apply IsS110.set_2) | exact zg_)) : q := h g
theorem zl68_1 {p q : Prop} (g : p) (h : p → q := by intro zg_; repeat (first | (with_reducible first | exact zg_ | apply KeepBut.set_ | apply keep_drewN | apply keep_drew | apply keep_alloc) | exact zg_)) : q := h g
theorem zl68_2 {p q p0 : Prop} (g : p) (g0 : p0) (h : p → p0 → q := by intro zg_ z0_; repeat (first | (with_reducible first | exact zg_ | apply IsS110.alloc | apply IsS110.drewN | apply IsS110.drew | apply IsS110.set_1 | apply IsS110.set_2 | refine IsS110.far ?_ z0_ _) | exact zg_)) : q := h g g0
theorem zl68_3 {p q p0 p1 : Prop} (g : p) (g0 : p0) (g1 : p1) (h : p → p0 → p1 → q := by intro zg_ z0_ z1_; repeat (first | (with_reducible first | exact zg_ | apply below_alloc | apply pw_below_drewN | apply below_drew1 | refine below_set ?_ z0_ | refine below_set ?_ z1_) | exact zg_)) : q := h g g0 g1
theorem zl68_4 {p q p0 : Prop} (g : p) (g0 : p0) (h : p → p0 → q := by intro zg_ z0_; repeat (first | (with_reducible first | exact zg_ | apply KeepBut.set_ | apply keep_drewN | apply keep_drew | apply keep_alloc | refine keep_far ?_ z0_ _) | exact zg_)) : q := h g g0
theorem zl68_5 {p q p0 p1 : Prop} (g : p) (g0 : p0) (g1 : p1) (h : p → p0 → p1 → q := by intro zg_ z0_ z1_; repeat (first | (with_reducible first | exact zg_ | apply IsS110.alloc | apply IsS110.drewN | apply IsS110.drew | apply IsS110.set_1 | apply IsS110.set_2 | refine IsS110.far ?_ z0_ _ | refine IsS110.far ?_ z1_ _) | exact zg_)) : q := h g g0 g1
theorem zl68_6 {p q p0 p1 : Prop} (g : p) (g0 : p0) (g1 : p1) (h : p → p0 → p1 → q := by intro zg_ z0_ z1_; repeat (first | (with_reducible first | exact zg_ | apply KeepBut.set_ | apply keep_drewN | apply keep_drew | apply keep_alloc | refine keep_far ?_ z0_ _ | refine keep_far ?_ z1_ _) | exact zg_)) : q := h g g0 g1
set_option maxHeartbeats 8000000 in
set_option maxRecDepth 100000 in
theorem spec_l5Draw.calls (k : Nat) (g : Nat) (s0_0 : List Int) (s0_1 : Int) (s0_2 : Int) (r1 : Int) (r2 : ByteArray) (r3 : Int) (r4 : Int) (w0 w : World) (hI : IsS110 w0 w g s0_0 s0_1 s0_2) (hB : Below w0.heap.size w0 w) (h : spec_l5Draw.f k s0_0 s0_1 s0_2 = some (r1, r2, r3, r4)) :
  Calls Try.prog 109 #[.pointer (some ⟨g, 0, none⟩)] w fun e w' => e = .returned (.agg #[.int .i64 r1, .string r2]) ∧ IsS110 w0 w' g s0_0 r3 r4 ∧ Below w0.heap.size w0 w' ∧ KeepBut w w' g none := by
 have hu25 := Try.underlying25
 have HI0 := Aside0.mk hI
 have HK := Aside0.mk (KeepBut.refl w g none)
 have HL := Aside0.mk hB.size
 clear hI
 have HW0 := Aside0.mk hB.size
 have HB := Aside0.mk hB
 clear hB
 have H : ((spec_l1Once.f s0_0 s0_1 s0_2 8).bind fun bt672 => (if bt672.1 = true then ((spec_l4Draw.f k s0_0 bt672.2.1 bt672.2.2).bind fun bt675 => (some (bt675.1, bt675.2.1, bt675.2.2.1, bt675.2.2.2))) else ((spec_l2Draw.f k s0_0 bt672.2.1 bt672.2.2).bind fun bt679 => ((spec_SignsOf.f k bt679.1).bind fun bt684 => (some (bt684.1, bt684.2.1, bt679.2.1, bt679.2.2)))))) = some (r1, r2, r3, r4) := h
 clear h
 obtain ⟨⟨t672, t673, t674⟩, A2, H⟩ := zO H
 dsimp only at H
 by_cases c3 : t672 = true
 ·subst c3
  replace H := (if_pos rfl).symm.trans H
  obtain ⟨⟨t675, t676, t677, t678⟩, A4, H⟩ := zO H
  replace H : (some (t675, t676, t677, t678)) = some (r1, r2, r3, r4) := H
  simp only [Option.some.injEq, Prod.mk.injEq] at H
  obtain ⟨rfl, rfl, rfl, rfl⟩ := H
  go_enter Try.func109, Try.ntmps109
  go_wp2_with (first | ((with_reducible refine gate_dst (N := 2) rfl ?_); refine zBx (N := 2) #[.int .i64 0, .string (⟨#[]⟩ : ByteArray)] 25 ?_; intro gb671 hg w5 hbox hb; have n0_ := Aside0.mk (IsS110.below (zl68_0 HI0.out) hb); have n1_ := Aside0.mk (KeepBut.trans (zl68_1 HK.out) (KeepBut.of_below hb g none) (.inl rfl)); have n2_ := Aside0.mk (below_step (zG (IsS110.ge HI0.out)) hb); have n3_ := Aside0.mk (hbox); have n4_ := Aside0.mk ((by rw [hg]; exact (keep_size (w := w) (g := g) (row := none) (zl68_1 HK.out)) : w.heap.size ≤ gb671)); have n5_ := Aside0.mk ((Nat.le_trans HW0.out (by rw [hg]; exact (keep_size (w := w) (g := g) (row := none) (zl68_1 HK.out)) : w.heap.size ≤ gb671) : w0.heap.size ≤ gb671)); have n6_ := Aside0.mk ((by rw [hg]; exact Nat.ne_of_lt (IsS110.lt (show IsS110 w0 _ g s0_0 s0_1 s0_2 from (zl68_0 HI0.out))) : g ≠ gb671)); have n7_ := Aside0.mk ((by rw [hg]; exact Nat.ne_of_gt (IsS110.lt (show IsS110 w0 _ g s0_0 s0_1 s0_2 from (zl68_0 HI0.out))) : gb671 ≠ g)); clear HI0; clear HK; clear HB; have HI0 := n0_; have HK := n1_; have HB := n2_; have BK671 := n3_; have GW671 := n4_; have GE671 := n5_; have NB0_671 := n6_; have NB671_0 := n7_; clear n0_ n1_ n2_ n3_ n4_ n5_ n6_ n7_; clear hb hbox hg) | ((with_reducible refine gate_callee (f := 127) rfl ?_); refine zD (some 6) Try.func127 #[.pointer (some ⟨g, 0, none⟩), .int .i64 8] ?_; (with_reducible refine (spec_l1Once.calls g s0_0 s0_1 s0_2 8 true t673 t674 w0 _ ?side1 ?side2 A2.out).mono ?_); (case side1 => exact (zl68_2 HI0.out NB0_671.out)); (case side2 => exact (zl68_3 HB.out (IsS110.ge HI0.out) GE671.out)); rintro e w6 ⟨rfl, hi, hb, hk⟩; refine ⟨_, rfl, ?_⟩; replace BK671 := zKB hk BK671.out NB671_0.out; replace HK := Aside0.mk (KeepBut.trans (zl68_4 HK.out GW671.out) hk (.inl rfl)); replace HI0 := Aside0.mk (hi); replace HB := Aside0.mk (hb); (try clear hb); (try clear hk); (try clear hi)) | ((with_reducible refine gate_callee (f := 80) rfl ?_); refine zD (some 8) Try.func80 #[.pointer (some ⟨g, 0, none⟩)] ?_; (with_reducible refine (spec_l4Draw.calls k g s0_0 t673 t674 t675 t676 t677 t678 w0 _ ?side1 ?side2 A4.out).mono ?_); (case side1 => exact (zl68_2 HI0.out NB0_671.out)); (case side2 => exact (zl68_3 HB.out (IsS110.ge HI0.out) GE671.out)); rintro e w7 ⟨rfl, hi, hb, hk⟩; refine ⟨_, rfl, ?_⟩; replace BK671 := zKB hk BK671.out NB671_0.out; replace HK := Aside0.mk (KeepBut.trans (zl68_4 HK.out GW671.out) hk (.inl rfl)); replace HI0 := Aside0.mk (hi); replace HB := Aside0.mk (hb); (try clear hb); (try clear hk); (try clear hi); have hnb8 := NB671_0.out; have hnc8 := NB0_671.out; obtain ⟨hcz9_0, hcz9_1, hfz9_0, hfz9_1⟩ := zq2 BK671.out))
  refine bodyPost_ret (results_cell_row rfl _ _ gb671 25 #[.int .i64 t675, .string t676] (0, 0) _ rfl (zk0 BK671.out) Try.underlying25 rfl (by kernel_rfl)) rfl ?_
  exact ⟨zE, (zl68_2 HI0.out NB0_671.out), zG2 (IsS110.ge HI0.out) GE671.out, (zl68_4 HK.out GW671.out)⟩
 replace c3 := Bool.eq_false_iff.mpr c3
 subst c3
 replace H := (if_neg zFf).symm.trans H
 obtain ⟨⟨t679, t682, t683⟩, A10, H⟩ := zO H
 dsimp only at H
 obtain ⟨⟨t684, t685, t686⟩, A11, H⟩ := zO H
 replace H : (some (t684, t685, t682, t683)) = some (r1, r2, r3, r4) := H
 simp only [Option.some.injEq, Prod.mk.injEq] at H
 obtain ⟨rfl, rfl, rfl, rfl⟩ := H
 go_enter Try.func109, Try.ntmps109
 go_wp2_with (first | ((with_reducible refine gate_dst (N := 2) rfl ?_); refine zBx (N := 2) #[.int .i64 0, .string (⟨#[]⟩ : ByteArray)] 25 ?_; intro gb671 hg w12 hbox hb; have n0_ := Aside0.mk (IsS110.below (zl68_0 HI0.out) hb); have n1_ := Aside0.mk (KeepBut.trans (zl68_1 HK.out) (KeepBut.of_below hb g none) (.inl rfl)); have n2_ := Aside0.mk (below_step (zG (IsS110.ge HI0.out)) hb); have n3_ := Aside0.mk (hbox); have n4_ := Aside0.mk ((by rw [hg]; exact (keep_size (w := w) (g := g) (row := none) (zl68_1 HK.out)) : w.heap.size ≤ gb671)); have n5_ := Aside0.mk ((Nat.le_trans HW0.out (by rw [hg]; exact (keep_size (w := w) (g := g) (row := none) (zl68_1 HK.out)) : w.heap.size ≤ gb671) : w0.heap.size ≤ gb671)); have n6_ := Aside0.mk ((by rw [hg]; exact Nat.ne_of_lt (IsS110.lt (show IsS110 w0 _ g s0_0 s0_1 s0_2 from (zl68_0 HI0.out))) : g ≠ gb671)); have n7_ := Aside0.mk ((by rw [hg]; exact Nat.ne_of_gt (IsS110.lt (show IsS110 w0 _ g s0_0 s0_1 s0_2 from (zl68_0 HI0.out))) : gb671 ≠ g)); clear HI0; clear HK; clear HB; have HI0 := n0_; have HK := n1_; have HB := n2_; have BK671 := n3_; have GW671 := n4_; have GE671 := n5_; have NB0_671 := n6_; have NB671_0 := n7_; clear n0_ n1_ n2_ n3_ n4_ n5_ n6_ n7_; clear hb hbox hg) | ((with_reducible refine gate_callee (f := 127) rfl ?_); refine zD (some 6) Try.func127 #[.pointer (some ⟨g, 0, none⟩), .int .i64 8] ?_; (with_reducible refine (spec_l1Once.calls g s0_0 s0_1 s0_2 8 false t673 t674 w0 _ ?side1 ?side2 A2.out).mono ?_); (case side1 => exact (zl68_2 HI0.out NB0_671.out)); (case side2 => exact (zl68_3 HB.out (IsS110.ge HI0.out) GE671.out)); rintro e w13 ⟨rfl, hi, hb, hk⟩; refine ⟨_, rfl, ?_⟩; replace BK671 := zKB hk BK671.out NB671_0.out; replace HK := Aside0.mk (KeepBut.trans (zl68_4 HK.out GW671.out) hk (.inl rfl)); replace HI0 := Aside0.mk (hi); replace HB := Aside0.mk (hb); (try clear hb); (try clear hk); (try clear hi)) | ((with_reducible refine gate_callee (f := 148) rfl ?_); refine zD (some 11) Try.func148 #[.pointer (some ⟨g, 0, none⟩)] ?_; (with_reducible refine (spec_l2Draw.calls k g s0_0 t673 t674 t679 t682 t683 w0 _ ?side1 ?side2 A10.out).mono ?_); (case side1 => exact (zl68_2 HI0.out NB0_671.out)); (case side2 => exact (zl68_3 HB.out (IsS110.ge HI0.out) GE671.out)); rintro e w14 ⟨v680, rfl, ho0, hi, hb, hk⟩; refine ⟨_, rfl, ?_⟩; replace BK671 := zKB hk BK671.out NB671_0.out; have HO681 := Aside0.mk (Kd.R_lower ho0 (keep_size (w := w) (g := g) (row := none) (zl68_4 HK.out GW671.out))); replace HK := Aside0.mk (KeepBut.trans (zl68_4 HK.out GW671.out) hk (.inl rfl)); replace HI0 := Aside0.mk (hi); replace HB := Aside0.mk (hb); (try clear hb); (try clear hk); (try clear hi); (try clear ho0); obtain ⟨Ao15, co15, eo15⟩ := Kd.R_slice HO681.out; subst eo15) | ((with_reducible refine gate_callee (f := 27) rfl ?_); refine zD (some 12) Try.func27 #[.slice Ao15 t679.length co15] ?_; (with_reducible refine (spec_SignsOf.calls k _ _ t679 t684 t685 t686 _ ?side1 ?side2 A11.out).mono ?_); (case side1 => repeat (first | exact (Kd.R_reads' HO681.out).2.2 | (with_reducible refine Kd.C_alloc ?_ _) | (with_reducible refine Kd.C_drewN ?_ _) | (with_reducible refine Kd.C_drew ?_))); (case side2 => exact (Kd.R_reads' HO681.out).2.1); rintro e w16 ⟨rfl, hb⟩; refine ⟨_, rfl, ?_⟩; have n0_ := zW HO681.out hb; have n1_ := Aside0.mk (IsS110.below (zl68_2 HI0.out NB0_671.out) hb); have n2_ := zV BK671.out hb; have n3_ := Aside0.mk (KeepBut.trans (zl68_4 HK.out GW671.out) (KeepBut.of_below hb g none) (.inl rfl)); have n4_ := Aside0.mk (below_step (zG2 (IsS110.ge HI0.out) GE671.out) hb); clear HO681; clear HI0; clear BK671; clear HK; clear HB; have HO681 := n0_; have HI0 := n1_; have BK671 := n2_; have HK := n3_; have HB := n4_; clear n0_ n1_ n2_ n3_ n4_; (try clear hb)) | ((with_reducible refine gate_dst (N := 3) rfl ?_); refine zBx (N := 3) #[.int .i64 0, .string (⟨#[]⟩ : ByteArray)] 25 ?_; intro gb687 hg w17 hbox hb; have n0_ := zW HO681.out hb; have n1_ := Aside0.mk (IsS110.below (zl68_2 HI0.out NB0_671.out) hb); have n2_ := zV BK671.out hb; have n3_ := Aside0.mk (KeepBut.trans (zl68_4 HK.out GW671.out) (KeepBut.of_below hb g none) (.inl rfl)); have n4_ := Aside0.mk (below_step (zG2 (IsS110.ge HI0.out) GE671.out) hb); have n5_ := Aside0.mk (hbox); have n6_ := Aside0.mk ((by rw [hg]; exact (keep_size (w := w) (g := g) (row := none) (zl68_4 HK.out GW671.out)) : w.heap.size ≤ gb687)); have n7_ := Aside0.mk ((Nat.le_trans HW0.out (by rw [hg]; exact (keep_size (w := w) (g := g) (row := none) (zl68_4 HK.out GW671.out)) : w.heap.size ≤ gb687) : w0.heap.size ≤ gb687)); have n8_ := zL hg BK671.out; have n9_ := zLg hg BK671.out; have n10_ := Aside0.mk ((by rw [hg]; exact Nat.ne_of_lt (IsS110.lt (show IsS110 w0 _ g s0_0 t682 t683 from (zl68_2 HI0.out NB0_671.out))) : g ≠ gb687)); have n11_ := Aside0.mk ((by rw [hg]; exact Nat.ne_of_gt (IsS110.lt (show IsS110 w0 _ g s0_0 t682 t683 from (zl68_2 HI0.out NB0_671.out))) : gb687 ≠ g)); clear HO681; clear HI0; clear BK671; clear HK; clear HB; have HO681 := n0_; have HI0 := n1_; have BK671 := n2_; have HK := n3_; have HB := n4_; have BK687 := n5_; have GW687 := n6_; have GE687 := n7_; have NB671_687 := n8_; have NB687_671 := n9_; have NB0_687 := n10_; have NB687_0 := n11_; clear n0_ n1_ n2_ n3_ n4_ n5_ n6_ n7_ n8_ n9_ n10_ n11_; clear hb hbox hg; have hnb18 := NB687_671.out; have hnc18 := NB671_687.out; have hnb19 := NB687_0.out; have hnc19 := NB0_687.out; obtain ⟨hcz20_0, hcz20_1, hfz20_0, hfz20_1⟩ := zq2 BK687.out; have hnb21 := NB671_0.out; have hnc21 := NB0_671.out; obtain ⟨hcz22_0, hcz22_1, hfz22_0, hfz22_1⟩ := zq2 BK671.out))
 refine bodyPost_ret (results_cell_row rfl _ _ gb671 25 #[.int .i64 t684, .string t685] (0, 0) _ rfl (zk2 BK671.out NB671_687.out NB671_687.out) Try.underlying25 rfl (by kernel_rfl)) rfl ?_
 exact ⟨zE, (zl68_5 HI0.out NB0_671.out NB0_687.out), zG3 (IsS110.ge HI0.out) GE671.out GE687.out, (zl68_6 HK.out GW671.out GW687.out)⟩
end Go.Proofs.Ytckkfjdkaimmhaa.PX
