/- A part of proofs about signs and points: what some functions answer, and that their calls answer so. No condition. -/
import Derived.Test.YtbjncemaeagjjaaProg
import Derived.BigFrame
import Derived.Laws.Cover3
import Derived.Test.YtbjncemaeagjjaaV1
import Derived.Test.YtbjncemaeagjjaaBtdqkke1
set_option linter.unusedVariables false
set_option linter.unusedSimpArgs false
namespace Go.Proofs.Ytbjncemaeagjjaa.PX
open Go.RowKit Go.Proofs.Ytbjncemaeagjjaa.G Go.Proofs.YtbjncemaeagjjaaW.PrintWords Go.Proofs.YtbjncemaeagjjaaW.PrintLast Go.Proofs.YtbjncemaeagjjaaW.PrintMore
attribute [local go_sem] max2_int min2_int max_two min_two max_three min_three max_four min_four   -- for this text's walks alone
set_option linter.unusedVariables false
set_option linter.unusedSimpArgs false
/-! ### spec_AreSigns: function 79 -/
mutual
def spec_AreSigns.j0 : Nat → Bool → Int → ByteArray → Option (Bool)
 | 0, _, _, _ => none
 | k + 1, x24, x103000, x103001 => if x24 = true then (some false) else (spec_AreSigns.l0 k 0 x103000 x103001)
def spec_AreSigns.l0 : Nat → Int → Int → ByteArray → Option (Bool)
 | 0, _, _, _ => none
 | k + 1, x3, x103000, x103001 => if x3 < (x103001.size : Int) then (if 0 ≤ x3 then (if (bt x103001 x3) = 43 then (spec_AreSigns.l0 k (wrap64 (x3 + 1)) x103000 x103001) else (if (bt x103001 x3) = 45 then (spec_AreSigns.l0 k (wrap64 (x3 + 1)) x103000 x103001) else (some false))) else (none)) else (some true)
end
def spec_AreSigns.f (k : Nat) (a0_0 : Int) (a0_1 : ByteArray) : Option (Bool) := (spec_l1In.f a0_0 3 7).bind fun t103 => (if t103 = true then (spec_AreSigns.j0 k ((a0_1.size : Int) != (wrap64 (Int.tdiv (wrap64 ((wrap64 (a0_0 * (wrap64 (a0_0 - 1)))) * (wrap64 (a0_0 - 2)))) 6))) a0_0 a0_1) else (spec_AreSigns.j0 k true a0_0 a0_1))
theorem spec_AreSigns.mono_l : ∀ k, (∀ y0 y1 y2, LeO (spec_AreSigns.j0 k y0 y1 y2) (spec_AreSigns.j0 (k + 1) y0 y1 y2)) ∧ (∀ y0 y1 y2, LeO (spec_AreSigns.l0 k y0 y1 y2) (spec_AreSigns.l0 (k + 1) y0 y1 y2))
 | 0 => ⟨fun _ _ _ r h => by simp [spec_AreSigns.j0] at h, fun _ _ _ r h => by simp [spec_AreSigns.l0] at h⟩
 | k + 1 => by
  obtain ⟨ih0, ih1⟩ := spec_AreSigns.mono_l k
  refine ⟨?_, ?_⟩ <;> intros <;> (first | unfold spec_AreSigns.j0 | unfold spec_AreSigns.l0) <;> repeat' first
  | (with_reducible exact ih0 _ _ _)
  | (with_reducible exact ih1 _ _ _)
  | (with_reducible exact LeO.refl _)
  | (with_reducible exact LeO.none _)
  | (with_reducible refine LeO.ite ?_ ?_)
  | (with_reducible refine LeO.bind ?_ (fun _ => ?_))
  | exact ih0 _ _ _
  | exact ih1 _ _ _
  | exact LeO.none _
  | refine LeO.ite ?_ ?_
  | refine LeO.bind ?_ (fun _ => ?_)
theorem spec_AreSigns.mono : ∀ a0 a1 k, LeO (spec_AreSigns.f k a0 a1) (spec_AreSigns.f (k + 1) a0 a1) := by
 intro a0 a1 k
 obtain ⟨ih0, ih1⟩ := spec_AreSigns.mono_l k
 unfold spec_AreSigns.f
 repeat' first
   | (with_reducible exact ih0 _ _ _)
   | (with_reducible exact ih1 _ _ _)
   | (with_reducible exact LeO.refl _)
   | (with_reducible exact LeO.none _)
   | (with_reducible refine LeO.ite ?_ ?_)
   | (with_reducible refine LeO.bind ?_ (fun _ => ?_))
   | exact ih0 _ _ _
   | exact ih1 _ _ _
   | exact LeO.none _
   | refine LeO.ite ?_ ?_
   | refine LeO.bind ?_ (fun _ => ?_)
set_option maxHeartbeats 8000000 in
set_option maxRecDepth 100000 in
theorem spec_AreSigns.calls (k : Nat) (a0_0 : Int) (a0_1 : ByteArray) (r : Bool) (w : World) (h : spec_AreSigns.f k a0_0 a0_1 = some r) :
  Calls Try.prog 79 #[.agg #[.int .i64 a0_0, .string a0_1]] w fun e w' => e = .returned (.bool r) ∧ Below w.heap.size w w' := by
 have hu26 := Try.underlying26
 have HB := Aside0.mk (Below.refl w.heap.size w)
 have H : ((spec_l1In.f a0_0 3 7).bind fun t103 => (if t103 = true then (spec_AreSigns.j0 k ((a0_1.size : Int) != (wrap64 (Int.tdiv (wrap64 ((wrap64 (a0_0 * (wrap64 (a0_0 - 1)))) * (wrap64 (a0_0 - 2)))) 6))) a0_0 a0_1) else (spec_AreSigns.j0 k true a0_0 a0_1))) = some r := h
 clear h
 have HC2 := Aside0.mk H
 clear H
 go_enter Try.func79, Try.ntmps79
 go_upto_region 1 with (first | ((with_reducible refine gate_dst (N := 1) rfl ?_); (try (refine gate_guard (by rfl) ?_; dsimp only)); refine box_event ?hg (N := 1) ?hd (cs := #[.int .i64 a0_0, .string a0_1]) (t := 26) ?hr ?_; (case hd => rfl); (case hg => rfl); (case hr => first | (go_simp; done) | (go_simp; rfl)); intro gb102 hg w3 hbox hb; have BK102 := Aside0.mk (hbox); have GW102 := Aside0.mk ((by rw [hg]; exact (below_size zB) : w.heap.size ≤ gb102)); have GE102 := Aside0.mk ((by rw [hg]; exact (below_size zB) : w.heap.size ≤ gb102)); replace HB := Aside0.mk (below_step zB hb); clear hb hbox hg))
 (try simp only [Act.put, List.setIfInBounds_toArray, List.set_cons_zero, List.set_cons_succ])
 go_cut [24] (fun v24 wc => ∃ (kq : Nat) (x24_1 : Bool), v24 = .bool x24_1 ∧ Aside0 (spec_AreSigns.j0 kq x24_1 a0_0 a0_1 = some r) ∧ Aside0 (kq ≤ k) ∧ Aside0 (wc.heap[gb102]? = some (.cells #[.int .i64 a0_0, .string a0_1] 26 (0, 0))) ∧ Aside0 (Below w.heap.size w wc))
 case first =>
  have H := HC2.out
  clear HC2
  replace H := Option.bind_eq_some_iff.mp H
  obtain ⟨t103, A40, H⟩ := H
  replace H : (if t103 = true then (spec_AreSigns.j0 k ((a0_1.size : Int) != (wrap64 (Int.tdiv (wrap64 ((wrap64 (a0_0 * (wrap64 (a0_0 - 1)))) * (wrap64 (a0_0 - 2)))) 6))) a0_0 a0_1) else (spec_AreSigns.j0 k true a0_0 a0_1)) = some r := H
  have A4 := Aside0.mk A40
  clear A40
  by_cases c5 : t103 = true
  ·subst c5
   have H1 : (spec_AreSigns.j0 k ((a0_1.size : Int) != (wrap64 (Int.tdiv (wrap64 ((wrap64 (a0_0 * (wrap64 (a0_0 - 1)))) * (wrap64 (a0_0 - 2)))) 6))) a0_0 a0_1) = some r := by rw [if_pos rfl] at H; exact H
   clear H
   have H := H1
   clear H1
   have H' := Aside0.mk H
   clear H
   have hcz6_0 : w3.cell? ⟨gb102, 0, none⟩ = some (.int .i64 a0_0) := (blk_cell BK102.out 0).trans rfl
   have hcz6_1 : w3.cell? ⟨gb102, 1, none⟩ = some (.string a0_1) := (blk_cell BK102.out 1).trans rfl
   have hfz6_0 := blk_frozen BK102.out 0
   have hfz6_1 := blk_frozen BK102.out 1
   go_wp2_with (first | ((with_reducible refine gate_callee (f := 45) rfl ?_); refine goesL_ (some 6) rfl rfl Try.func45 (by kernel_rfl) rfl #[.int .i64 a0_0, .int .i64 3, .int .i64 7] rfl zM ?_; (with_reducible refine (spec_l1In.calls a0_0 3 7 true _ A4.out).mono ?_); rintro e w' ⟨rfl, ⟨nd, rfl⟩⟩; refine ⟨_, rfl, ?_⟩))
   go_meet
   case rel => exact ⟨_, (((a0_1.size : Int) != (wrap64 (Int.tdiv (wrap64 ((wrap64 (a0_0 * (wrap64 (a0_0 - 1)))) * (wrap64 (a0_0 - 2)))) 6)))), zF, H', ⟨by first | omega | exact Nat.le_refl _⟩, ⟨zK BK102.out⟩, ⟨zG GE102.out⟩⟩
  ·replace c5 := Bool.eq_false_iff.mpr c5
   subst c5
   have H1 : (spec_AreSigns.j0 k true a0_0 a0_1) = some r := by rw [if_neg (show ¬ (false = true) by decide)] at H; exact H
   clear H
   have H := H1
   clear H1
   have H' := Aside0.mk H
   clear H
   have hcz7_0 : w3.cell? ⟨gb102, 0, none⟩ = some (.int .i64 a0_0) := (blk_cell BK102.out 0).trans rfl
   have hcz7_1 : w3.cell? ⟨gb102, 1, none⟩ = some (.string a0_1) := (blk_cell BK102.out 1).trans rfl
   have hfz7_0 := blk_frozen BK102.out 0
   have hfz7_1 := blk_frozen BK102.out 1
   go_wp2_with (first | ((with_reducible refine gate_callee (f := 45) rfl ?_); refine goesL_ (some 6) rfl rfl Try.func45 (by kernel_rfl) rfl #[.int .i64 a0_0, .int .i64 3, .int .i64 7] rfl zM ?_; (with_reducible refine (spec_l1In.calls a0_0 3 7 false _ A4.out).mono ?_); rintro e w' ⟨rfl, ⟨nd, rfl⟩⟩; refine ⟨_, rfl, ?_⟩))
   go_meet
   case rel => exact ⟨_, (true), zF, H', ⟨by first | omega | exact Nat.le_refl _⟩, ⟨zK BK102.out⟩, ⟨zG GE102.out⟩⟩
 case rest =>
  clear HC2
  try clear p2
  try clear c4
  try clear c5
  try clear p6
  try clear c7
  try clear hcz6_0
  try clear hcz6_1
  try clear hcz7_0
  try clear hcz7_1
  try clear hfz6_0
  try clear hfz6_1
  try clear hfz7_0
  try clear hfz7_1
  obtain ⟨kq, x24_1, rfl, HA, HJ1, BK102, HB⟩ := hcut
  cases kq with
  | zero => exact absurd HA.out (by simp [spec_AreSigns.j0])
  | succ kj1 =>
   have H := HA.out
   clear HA
   simp only [spec_AreSigns.j0] at H
   by_cases c8 : x24_1 = true
   ·subst c8
    have H1 : (some false) = some r := by rw [if_pos rfl] at H; exact H
    clear H
    have H := H1
    clear H1
    obtain rfl := Option.some.inj H
    go_wp2
    go_ret
    exact ⟨zE, zG GE102.out⟩
   ·replace c8 := Bool.eq_false_iff.mpr c8
    subst c8
    have H1 : (spec_AreSigns.l0 kj1 0 a0_0 a0_1) = some r := by rw [if_neg (show ¬ (false = true) by decide)] at H; exact H
    clear H
    have H := H1
    clear H1
    have H' := Aside0.mk H
    clear H
    go_wp2
    go_loopg [3] kj1 (fun kq v3 w' => ∃ (x3_2 : Int), v3 = .int .i64 x3_2 ∧ Aside0 (spec_AreSigns.l0 kq x3_2 a0_0 a0_1 = some r) ∧ Aside0 (kq ≤ kj1) ∧ Aside0 (w'.heap[gb102]? = some (.cells #[.int .i64 a0_0, .string a0_1] 26 (0, 0))) ∧ Aside0 (Below w.heap.size w w'))
    case atStart => exact ⟨(0), zF, H', ⟨Nat.le_refl _⟩, ⟨zK BK102.out⟩, ⟨zG GE102.out⟩⟩
    case round =>
     clear H'
     try clear p2
     try clear c4
     try clear c5
     try clear p6
     try clear c7
     try clear c8
     try clear hcz6_0
     try clear hcz6_1
     try clear hcz7_0
     try clear hcz7_1
     try clear hfz6_0
     try clear hfz6_1
     try clear hfz7_0
     try clear hfz7_1
     try clear p2
     try clear p6
     obtain ⟨x3_2, rfl, HA, HK2, BK102, HB⟩ := hrel
     cases gk with
     | zero => exact absurd HA.out (by simp [spec_AreSigns.l0])
     | succ k2 =>
      have H := HA.out
      clear HA
      simp only [spec_AreSigns.l0] at H
      by_cases c9 : x3_2 < (a0_1.size : Int)
      ·rw [if_pos c9] at H
       have c9b0 : decide (x3_2 < (a0_1.size : Int)) = true := decide_eq_true c9
       clear c9
       by_cases c10 : 0 ≤ x3_2
       ·rw [if_pos c10] at H
        have c10b0 : decide (0 ≤ x3_2) = true := decide_eq_true c10
        clear c10
        by_cases c12 : (bt a0_1 x3_2) = 43
        ·rw [if_pos c12] at H
         have c12b0 : ((bt a0_1 x3_2) == 43) = true := beq_iff_eq.mpr c12
         have c12b1 : ((bt a0_1 x3_2) != 43) = false := bne_eq_false_iff_eq.mpr c12
         clear c12
         have H' := Aside0.mk H
         clear H
         have hcz13_0 : wr.cell? ⟨gb102, 0, none⟩ = some (.int .i64 a0_0) := (blk_cell BK102.out 0).trans rfl
         have hcz13_1 : wr.cell? ⟨gb102, 1, none⟩ = some (.string a0_1) := (blk_cell BK102.out 1).trans rfl
         have hfz13_0 := blk_frozen BK102.out 0
         have hfz13_1 := blk_frozen BK102.out 1
         have p11 : 0 ≤ (x3_2 : Int) := zA
         have q11 : x3_2 < (a0_1.size : Int) := zA
         have hx11 := bt_at a0_1 x3_2
         replace p11 := eq_true p11
         replace q11 := eq_true q11
         go_wp2
         go_roundg k2
         case measure => have := HJ1.out; have := HK2.out; omega
         case rel => exact ⟨(wrap64 (x3_2 + 1)), zF, H', ⟨by have := HJ1.out; have := HK2.out; omega⟩, ⟨zK BK102.out⟩, ⟨zG GE102.out⟩⟩
        ·rw [if_neg c12] at H
         have c12b0 : ((bt a0_1 x3_2) == 43) = false := beq_eq_false_iff_ne.mpr c12
         have c12b1 : ((bt a0_1 x3_2) != 43) = true := bne_iff_ne.mpr c12
         by_cases c15 : (bt a0_1 x3_2) = 45
         ·rw [if_pos c15] at H
          have c15b0 : ((bt a0_1 x3_2) == 45) = true := beq_iff_eq.mpr c15
          have c15b1 : ((bt a0_1 x3_2) != 45) = false := bne_eq_false_iff_eq.mpr c15
          clear c15
          have H' := Aside0.mk H
          clear H
          have hcz16_0 : wr.cell? ⟨gb102, 0, none⟩ = some (.int .i64 a0_0) := (blk_cell BK102.out 0).trans rfl
          have hcz16_1 : wr.cell? ⟨gb102, 1, none⟩ = some (.string a0_1) := (blk_cell BK102.out 1).trans rfl
          have hfz16_0 := blk_frozen BK102.out 0
          have hfz16_1 := blk_frozen BK102.out 1
          have p11 : 0 ≤ (x3_2 : Int) := zA
          have q11 : x3_2 < (a0_1.size : Int) := zA
          have hx11 := bt_at a0_1 x3_2
          replace p11 := eq_true p11
          replace q11 := eq_true q11
          have p14 : 0 ≤ (x3_2 : Int) := zA
          have q14 : x3_2 < (a0_1.size : Int) := zA
          have hx14 := bt_at a0_1 x3_2
          replace p14 := eq_true p14
          replace q14 := eq_true q14
          go_wp2
          go_roundg k2
          case measure => have := HJ1.out; have := HK2.out; omega
          case rel => exact ⟨(wrap64 (x3_2 + 1)), zF, H', ⟨by have := HJ1.out; have := HK2.out; omega⟩, ⟨zK BK102.out⟩, ⟨zG GE102.out⟩⟩
         ·rw [if_neg c15] at H
          have c15b0 : ((bt a0_1 x3_2) == 45) = false := beq_eq_false_iff_ne.mpr c15
          have c15b1 : ((bt a0_1 x3_2) != 45) = true := bne_iff_ne.mpr c15
          obtain rfl := Option.some.inj H
          have hcz17_0 : wr.cell? ⟨gb102, 0, none⟩ = some (.int .i64 a0_0) := (blk_cell BK102.out 0).trans rfl
          have hcz17_1 : wr.cell? ⟨gb102, 1, none⟩ = some (.string a0_1) := (blk_cell BK102.out 1).trans rfl
          have hfz17_0 := blk_frozen BK102.out 0
          have hfz17_1 := blk_frozen BK102.out 1
          have p11 : 0 ≤ (x3_2 : Int) := zA
          have q11 : x3_2 < (a0_1.size : Int) := zA
          have hx11 := bt_at a0_1 x3_2
          replace p11 := eq_true p11
          replace q11 := eq_true q11
          have p14 : 0 ≤ (x3_2 : Int) := zA
          have q14 : x3_2 < (a0_1.size : Int) := zA
          have hx14 := bt_at a0_1 x3_2
          replace p14 := eq_true p14
          replace q14 := eq_true q14
          go_wp2
          go_ret
          exact ⟨zE, zG GE102.out⟩
       ·rw [if_neg c10] at H
        exact absurd H (by simp)
      ·rw [if_neg c9] at H
       have c9b0 : decide (x3_2 < (a0_1.size : Int)) = false := decide_eq_false c9
       clear c9
       obtain rfl := Option.some.inj H
       have hcz18_0 : wr.cell? ⟨gb102, 0, none⟩ = some (.int .i64 a0_0) := (blk_cell BK102.out 0).trans rfl
       have hcz18_1 : wr.cell? ⟨gb102, 1, none⟩ = some (.string a0_1) := (blk_cell BK102.out 1).trans rfl
       have hfz18_0 := blk_frozen BK102.out 0
       have hfz18_1 := blk_frozen BK102.out 1
       go_wp2
       go_ret
       exact ⟨zE, zG GE102.out⟩
end Go.Proofs.Ytbjncemaeagjjaa.PX
namespace Go.Proofs.Ytbjncemaeagjjaa.M
open Go.RowKit Go.Proofs.YtbjncemaeagjjaaW.PrintWords Go.Proofs.Ytbjncemaeagjjaa.PX
theorem impl_are_loop (n : Int) (t : ByteArray) (hs : t.data.toList.length ≤ 9223372036854775807) (d : Nat) : ∀ i : Nat, i + d = t.data.toList.length → Ev (fun k => impl_AreSigns.l0 k (i : Int) n t) ((t.data.toList.drop i).all isSg) := by
  induction d with
  | zero =>
    intro i hi
    rw [List.drop_of_length_le (by omega)]
    refine ev_step ?_
    simp only [impl_AreSigns.l0]
    exact ev_neg (by rw [size_list]; omega) (Ev.now _)
  | succ d ih =>
    intro i hi
    have hlt : i < t.data.toList.length := by omega
    rw [List.drop_eq_getElem_cons hlt, List.all_cons]
    refine ev_step ?_
    simp only [impl_AreSigns.l0]
    refine ev_pos (by rw [size_list]; omega) (ev_pos (by omega) ?_)
    rw [bt_nat hlt, wrap_id (by omega) (by omega)]
    have hn := ih (i + 1) (by omega)
    by_cases h1 : t.data.toList[i] = 43
    · refine ev_pos ((u8_43 _).2 h1) ?_
      rw [show isSg t.data.toList[i] = true by simp [isSg, h1], Bool.true_and]
      exact hn
    · refine ev_neg (fun h => h1 ((u8_43 _).1 h)) ?_
      by_cases h2 : t.data.toList[i] = 45
      · refine ev_pos ((u8_45 _).2 h2) ?_
        rw [show isSg t.data.toList[i] = true by simp [isSg, h2], Bool.true_and]
        exact hn
      · refine ev_neg (fun h => h2 ((u8_45 _).1 h)) ?_
        rw [show isSg t.data.toList[i] = false by unfold isSg; rw [decide_eq_false h1, decide_eq_false h2]; rfl, Bool.false_and]
        exact Ev.now _
theorem impl_are (n : Int) (t : ByteArray) (hs : t.size ≤ 9223372036854775807) : Ev (fun k => impl_AreSigns.f k n t) (areOk n t) := by
  rw [size_list] at hs
  unfold impl_AreSigns.f areOk
  have hj : ∀ r, Ev (fun k => impl_AreSigns.j0 k true n t) r ↔ r = false := fun r => by
    constructor
    · rintro ⟨K, hK⟩
      have := hK (K + 1) (by omega)
      simp only [impl_AreSigns.j0, if_true] at this
      exact (Option.some.inj this).symm
    · rintro rfl
      refine ev_step ?_
      simp only [impl_AreSigns.j0]
      exact ev_pos (by trivial) (Ev.now _)
  by_cases h0 : n < 3
  · refine ev_pos h0 ((hj _).2 ?_)
    simp; omega
  · refine ev_neg h0 ?_
    by_cases h1 : n > 7
    · refine ev_pos h1 ((hj _).2 ?_)
      simp; omega
    · refine ev_neg h1 ?_
      refine ev_step ?_
      simp only [impl_AreSigns.j0]
      rw [show decide (3 ≤ n) = true from decide_eq_true (by omega), show decide (n ≤ 7) = true from decide_eq_true (by omega), Bool.true_and, Bool.true_and]
      by_cases h2 : (t.size : Int) = cntW n
      · refine ev_neg (by simp only [bne_iff_ne, ne_eq, Decidable.not_not]; exact h2) ?_
        rw [decide_eq_true h2, Bool.true_and]
        exact impl_are_loop n t hs t.data.toList.length 0 (by omega)
      · refine ev_pos (by simp only [bne_iff_ne, ne_eq]; exact h2) ?_
        rw [decide_eq_false h2, Bool.false_and]
        exact Ev.now _
theorem spec_are_loop (n : Int) (t : ByteArray) (hs : t.data.toList.length ≤ 9223372036854775807) (d : Nat) : ∀ i : Nat, i + d = t.data.toList.length → Ev (fun k => spec_AreSigns.l0 k (i : Int) n t) ((t.data.toList.drop i).all isSg) := by
  induction d with
  | zero =>
    intro i hi
    rw [List.drop_of_length_le (by omega)]
    refine ev_step ?_
    simp only [spec_AreSigns.l0]
    exact ev_neg (by rw [size_list]; omega) (Ev.now _)
  | succ d ih =>
    intro i hi
    have hlt : i < t.data.toList.length := by omega
    rw [List.drop_eq_getElem_cons hlt, List.all_cons]
    refine ev_step ?_
    simp only [spec_AreSigns.l0]
    refine ev_pos (by rw [size_list]; omega) (ev_pos (by omega) ?_)
    rw [bt_nat hlt, wrap_id (by omega) (by omega)]
    have hn := ih (i + 1) (by omega)
    by_cases h1 : t.data.toList[i] = 43
    · refine ev_pos ((u8_43 _).2 h1) ?_
      rw [show isSg t.data.toList[i] = true by simp [isSg, h1], Bool.true_and]
      exact hn
    · refine ev_neg (fun h => h1 ((u8_43 _).1 h)) ?_
      by_cases h2 : t.data.toList[i] = 45
      · refine ev_pos ((u8_45 _).2 h2) ?_
        rw [show isSg t.data.toList[i] = true by simp [isSg, h2], Bool.true_and]
        exact hn
      · refine ev_neg (fun h => h2 ((u8_45 _).1 h)) ?_
        rw [show isSg t.data.toList[i] = false by unfold isSg; rw [decide_eq_false h1, decide_eq_false h2]; rfl, Bool.false_and]
        exact Ev.now _
theorem spec_in (x lo hi : Int) : spec_l1In.f x lo hi = some (decide (lo ≤ x) && decide (x ≤ hi)) := by
  unfold spec_l1In.f
  by_cases h : x ≥ lo
  · rw [if_pos h, show decide (lo ≤ x) = true from decide_eq_true h, Bool.true_and]
  · rw [if_neg h, show decide (lo ≤ x) = false from decide_eq_false h, Bool.false_and]
theorem spec_are (n : Int) (t : ByteArray) (hs : t.size ≤ 9223372036854775807) : Ev (fun k => spec_AreSigns.f k n t) (areOk n t) := by
  rw [size_list] at hs
  unfold spec_AreSigns.f areOk
  refine ev_call (spec_in n 3 7) ?_
  by_cases h0 : (decide (3 ≤ n) && decide (n ≤ 7)) = true
  · refine ev_pos h0 ?_
    rw [h0, Bool.true_and]
    refine ev_step ?_
    simp only [spec_AreSigns.j0]
    by_cases h2 : (t.size : Int) = cntW n
    · refine ev_neg (by simp only [bne_iff_ne, ne_eq, Decidable.not_not]; exact h2) ?_
      rw [decide_eq_true h2, Bool.true_and]
      exact spec_are_loop n t hs t.data.toList.length 0 (by omega)
    · refine ev_pos (by simp only [bne_iff_ne, ne_eq]; exact h2) ?_
      rw [decide_eq_false h2, Bool.false_and]
      exact Ev.now _
  · refine ev_neg h0 ?_
    rw [Bool.eq_false_iff.mpr h0, Bool.false_and, Bool.false_and]
    refine ev_step ?_
    simp only [spec_AreSigns.j0]
    exact ev_pos (by trivial) (Ev.now _)
end Go.Proofs.Ytbjncemaeagjjaa.M
namespace Go.Proofs.Ytbjncemaeagjjaa.M
open Go.RowKit Go.Proofs.YtbjncemaeagjjaaW.PrintWords Go.Proofs.Ytbjncemaeagjjaa.PX Go.Proofs.Ytbjncemaeagjjaa.G
/-- The sign at a place of a text. -/
def sgB (t : ByteArray) (m : Nat) : Int := if bt t (m : Int) = 45 then -1 else 1
theorem sgB_cases (t : ByteArray) (m : Nat) : sgB t m = 1 ∨ sgB t m = -1 := by unfold sgB; split <;> simp
/-- The ascending threes of n elements. -/
def tripN (n : Nat) : List S85 := (List.range n).flatMap fun (i : Nat) => (List.range n).flatMap fun (j : Nat) => (List.range n).flatMap fun (k : Nat) => if i < j ∧ j < k then [(⟨(i : Int), (j : Int), (k : Int)⟩ : S85)] else []
theorem triples_closed : (impl_triplesOf.f 200 3 = some (tripN 3) ∧ impl_triplesOf.f 200 4 = some (tripN 4) ∧ impl_triplesOf.f 200 5 = some (tripN 5)) ∧ impl_triplesOf.f 200 6 = some (tripN 6) ∧ impl_triplesOf.f 200 7 = some (tripN 7) := by
  refine ⟨⟨?_, ?_, ?_⟩, ?_, ?_⟩ <;> kernel_rfl
theorem five {n : Nat} (h0 : 3 ≤ n) (h1 : n ≤ 7) {p : Nat → Prop} (a : p 3) (b : p 4) (c : p 5) (d : p 6) (e : p 7) : p n := by
  have : n = 3 ∨ n = 4 ∨ n = 5 ∨ n = 6 ∨ n = 7 := by omega
  rcases this with rfl | rfl | rfl | rfl | rfl <;> assumption
theorem triples_ev {n : Nat} (h0 : 3 ≤ n) (h1 : n ≤ 7) : Ev (fun k => impl_triplesOf.f k (n : Int)) (tripN n) := by
  obtain ⟨⟨h3, h4, h5⟩, h6, h7⟩ := triples_closed
  refine five (p := fun n => Ev (fun k => impl_triplesOf.f k (n : Int)) (tripN n)) h0 h1 ?_ ?_ ?_ ?_ ?_
  · exact Ev.of (impl_triplesOf.mono 3) h3
  · exact Ev.of (impl_triplesOf.mono 4) h4
  · exact Ev.of (impl_triplesOf.mono 5) h5
  · exact Ev.of (impl_triplesOf.mono 6) h6
  · exact Ev.of (impl_triplesOf.mono 7) h7
/-- Which sign a place of the table has: whether it is turned, and its place in the text. -/
def six (i j k m x : Nat) : Option (Bool × Nat) :=
  if x = ix3 j i k then some (true, m) else if x = ix3 k j i then some (true, m) else if x = ix3 i k j then some (true, m)
  else if x = ix3 k i j then some (false, m) else if x = ix3 j k i then some (false, m) else if x = ix3 i j k then some (false, m) else none
def lookT : List S85 → Nat → Nat → Option (Bool × Nat)
  | [], _, _ => none
  | y :: r, m, x => match lookT r (m + 1) x with
    | some z => some z
    | none => six y.f0.toNat y.f1.toNat y.f2.toNat m x
def sgv (neg : Bool) (s : Int) : Int := if neg then -s else s
def foldTbl (t : ByteArray) : List Int → List S85 → Nat → List Int
  | l, [], _ => l
  | l, y :: r, m => foldTbl t (set6 l y.f0.toNat y.f1.toNat y.f2.toNat (sgB t m)) r (m + 1)
theorem set_getD (l : List Int) (m x : Nat) (v : Int) (hx : x < l.length) : (l.set m v).getD x 0 = if x = m then v else l.getD x 0 := by
  simp only [List.getD_eq_getElem?_getD, List.getElem?_set]
  by_cases h : m = x
  · subst h; simp [hx]
  · rw [if_neg h, if_neg (fun e => h e.symm)]
theorem set6_getD (l : List Int) (i j k m x : Nat) (s : Int) (hx : x < l.length) :
    (set6 l i j k s).getD x 0 = match six i j k m x with | some z => sgv z.1 s | none => l.getD x 0 := by
  unfold set6 six
  rw [set_getD _ _ _ _ (by simp only [List.length_set]; exact hx), set_getD _ _ _ _ (by simp only [List.length_set]; exact hx), set_getD _ _ _ _ (by simp only [List.length_set]; exact hx),
    set_getD _ _ _ _ (by simp only [List.length_set]; exact hx), set_getD _ _ _ _ (by simp only [List.length_set]; exact hx), set_getD _ _ _ _ hx]
  split
  · rfl
  split
  · rfl
  split
  · rfl
  split
  · rfl
  split
  · rfl
  split <;> rfl
theorem six_snd {i j k m x : Nat} {z : Bool × Nat} (h : six i j k m x = some z) : z.2 = m := by
  unfold six at h
  (repeat' split at h) <;> first | (cases h; rfl) | cases h
theorem foldTbl_length (t : ByteArray) : ∀ (ts : List S85) (l : List Int) (m : Nat), (foldTbl t l ts m).length = l.length
  | [], _, _ => rfl
  | y :: r, l, m => by rw [foldTbl, foldTbl_length t r, set6_length]
theorem foldTbl_getD (t : ByteArray) (x : Nat) : ∀ (ts : List S85) (l : List Int) (m : Nat), x < l.length →
    (foldTbl t l ts m).getD x 0 = match lookT ts m x with | some z => sgv z.1 (sgB t z.2) | none => l.getD x 0
  | [], _, _, _ => rfl
  | y :: r, l, m, hx => by
    rw [foldTbl, foldTbl_getD t x r _ _ (by rw [set6_length]; exact hx), lookT]
    cases lookT r (m + 1) x with
    | some z => rfl
    | none =>
      simp only []
      rw [set6_getD _ _ _ _ m _ _ hx]
      cases hz : six y.f0.toNat y.f1.toNat y.f2.toNat m x with
      | none => rfl
      | some z => rw [← six_snd hz]
/-- The table of signs. -/
def tblL (n : Nat) (t : ByteArray) : List Int := foldTbl t ((n : Int) :: List.replicate 343 (0 : Int)) (tripN n) 0
theorem tblL_length (n : Nat) (t : ByteArray) : (tblL n t).length = 344 := by
  unfold tblL
  rw [foldTbl_length, List.length_cons, List.length_replicate]
/-- The sign of three elements (0 where two are equal). -/
def chi (n : Nat) (t : ByteArray) (i j k : Nat) : Int := match lookT (tripN n) 0 (ix3 i j k) with | some z => sgv z.1 (sgB t z.2) | none => 0
theorem tbl_rd (n : Nat) (t : ByteArray) (i j k : Nat) (hi : i < 7) (hj : j < 7) (hk : k < 7) : rd3 (tblL n t) (i : Int) (j : Int) (k : Int) = chi n t i j k := by
  have hx : ix3 i j k < 344 := by unfold ix3; omega
  have e : rd3 (tblL n t) (i : Int) (j : Int) (k : Int) = (tblL n t).getD (ix3 i j k) 0 := by
    unfold rd3 rd
    have : (1 + (i : Int) * 49 + (j : Int) * 7 + (k : Int)).toNat = ix3 i j k := by unfold ix3; omega
    rw [this]
  rw [e]
  unfold tblL chi
  rw [foldTbl_getD t _ _ _ _ (by rw [List.length_cons, List.length_replicate]; exact hx)]
  have h0 : ((n : Int) :: List.replicate 343 (0 : Int)).getD (ix3 i j k) 0 = 0 := by
    have : ix3 i j k = (i * 49 + j * 7 + k) + 1 := by unfold ix3; omega
    rw [this, List.getD_cons_succ, List.getD_eq_getElem?_getD, List.getElem?_replicate]
    split <;> rfl
  rw [h0]
theorem tbl_n (n : Nat) (t : ByteArray) : rd (tblL n t) 0 = n := by
  have e : rd (tblL n t) 0 = (tblL n t).getD 0 0 := rfl
  rw [e]
  unfold tblL
  rw [foldTbl_getD t 0 _ _ _ (by rw [List.length_cons]; omega)]
  have h : ∀ (ts : List S85) (m : Nat), lookT ts m 0 = none := by
    intro ts
    induction ts with
    | nil => intro m; rfl
    | cons y r ih =>
      intro m
      rw [lookT, ih]
      have hp : ∀ a b c : Nat, ¬ 0 = ix3 a b c := fun a b c => by unfold ix3; omega
      simp only [six]
      rw [if_neg (hp _ _ _), if_neg (hp _ _ _), if_neg (hp _ _ _), if_neg (hp _ _ _), if_neg (hp _ _ _), if_neg (hp _ _ _)]
  rw [h]
  rfl
def smallT (ts : List S85) : Bool := ts.all fun y => decide (0 ≤ y.f0) && decide (y.f0 < 7) && decide (0 ≤ y.f1) && decide (y.f1 < 7) && decide (0 ≤ y.f2) && decide (y.f2 < 7)
theorem set_some (l : List Int) (a b c s : Int) (hl : l.length = 344) (ha : 0 ≤ a ∧ a < 7) (hb : 0 ≤ b ∧ b < 7) (hc : 0 ≤ c ∧ c < 7) (hs : s = 1 ∨ s = -1) : impl_chi_set.f l a b c s = some (set6 l a.toNat b.toNat c.toNat s) := by
  unfold impl_chi_set.f
  rw [if_pos ⟨hl, ha, hb, hc, by omega, by omega⟩]
theorem tableOf_loop (n : Int) (t : ByteArray) (ts : List S85) (hts : smallT ts = true) (hn : ts.length ≤ 100) (htt : ts.length ≤ t.size) (d : Nat) : ∀ (i : Nat) (l : List Int), i + d = ts.length → l.length = 344 →
    Ev (fun k => impl_tableOf.l0 k l ts (ts.length : Int) (i : Int) n t) (foldTbl t l (ts.drop i) i) := by
  induction d with
  | zero =>
    intro i l hi hl
    rw [List.drop_of_length_le (by omega)]
    refine ev_step ?_
    simp only [impl_tableOf.l0]
    exact ev_neg (by omega) (Ev.now _)
  | succ d ih =>
    intro i l hi hl
    have hlt : i < ts.length := by omega
    rw [List.drop_eq_getElem_cons hlt, foldTbl]
    have hy := List.all_eq_true.1 hts ts[i] (List.getElem_mem hlt)
    simp only [Bool.and_eq_true, decide_eq_true_eq] at hy
    obtain ⟨⟨⟨⟨⟨a0, a1⟩, b0⟩, b1⟩, c0⟩, c1⟩ := hy
    have hr : rd_T85 ts (i : Int) = ts[i] := by
      unfold rd_T85
      rw [Int.toNat_natCast, List.getD_eq_getElem?_getD, List.getElem?_eq_getElem hlt]
      rfl
    refine ev_step ?_
    simp only [impl_tableOf.l0, hr]
    refine ev_pos (by omega) (ev_pos (by omega) (ev_pos (by omega) (ev_pos (by omega) ?_)))
    rw [wrap_id (by omega) (by omega)]
    have hn := fun s => ih (i + 1) (set6 l ts[i].f0.toNat ts[i].f1.toNat ts[i].f2.toNat s) (by omega) (by rw [set6_length]; exact hl)
    by_cases h : bt t (i : Int) = 45
    · have hsg : sgB t i = -1 := by unfold sgB; rw [if_pos h]
      rw [hsg]
      exact ev_pos h (ev_pos hl (ev_call (set_some l _ _ _ (-1) hl ⟨a0, a1⟩ ⟨b0, b1⟩ ⟨c0, c1⟩ (Or.inr rfl)) (hn _)))
    · have hsg : sgB t i = 1 := by unfold sgB; rw [if_neg h]
      rw [hsg]
      exact ev_neg h (ev_pos hl (ev_call (set_some l _ _ _ 1 hl ⟨a0, a1⟩ ⟨b0, b1⟩ ⟨c0, c1⟩ (Or.inl rfl)) (hn _)))
def smallC (n : Nat) : Bool := smallT (tripN n) && decide (((tripN n).length : Int) = cntW n)
theorem trip_small {n : Nat} (h0 : 3 ≤ n) (h1 : n ≤ 7) : smallT (tripN n) = true ∧ ((tripN n).length : Int) = cntW n := by
  have h : smallC n = true := by refine five (p := fun n => smallC n = true) h0 h1 ?_ ?_ ?_ ?_ ?_ <;> decide +kernel
  simpa [smallC] using h
theorem tableOf_ev {n : Nat} {t : ByteArray} (h : areOk n t = true) : Ev (fun k => impl_tableOf.f k (n : Int) t) (tblL n t) := by
  obtain ⟨⟨h0, h1⟩, h2, _⟩ := (areOk_iff _ _).1 h
  have h0 : 3 ≤ n := by omega
  have h1 : n ≤ 7 := by omega
  obtain ⟨hs, hc⟩ := trip_small h0 h1
  have hz := areOk_size h
  unfold impl_tableOf.f tblL
  refine Ev.bind (triples_ev h0 h1) ?_
  have := tableOf_loop n t (tripN n) hs (by omega) (by omega) (tripN n).length 0 ((n : Int) :: List.replicate 343 (0 : Int)) (by omega) (by rw [List.length_cons, List.length_replicate])
  exact this
end Go.Proofs.Ytbjncemaeagjjaa.M
namespace Go.Proofs.Ytbjncemaeagjjaa.M
open Go.RowKit Go.Proofs.YtbjncemaeagjjaaW.PrintWords Go.Proofs.Ytbjncemaeagjjaa.G
def negT (z : Option (Bool × Nat)) : Option (Bool × Nat) := z.map fun z => (!z.1, z.2)
def chkS (n a b c : Nat) : Bool := decide (lookT (tripN n) 0 (ix3 b a c) = negT (lookT (tripN n) 0 (ix3 a b c))) && decide (lookT (tripN n) 0 (ix3 a c b) = negT (lookT (tripN n) 0 (ix3 a b c))) && (!(decide (a < n) && decide (b < n) && decide (c < n) && decide (a ≠ b) && decide (b ≠ c) && decide (a ≠ c)) || (lookT (tripN n) 0 (ix3 a b c)).isSome)
def chkSN (n : Nat) : Bool := (List.range 7).all fun a => (List.range 7).all fun b => (List.range 7).all fun c => chkS n a b c
theorem chkSN_all {n : Nat} (h0 : 3 ≤ n) (h1 : n ≤ 7) : chkSN n = true := by
  refine five (p := fun n => chkSN n = true) h0 h1 ?_ ?_ ?_ ?_ ?_ <;> decide +kernel
theorem chkS_at {n a b c : Nat} (h0 : 3 ≤ n) (h1 : n ≤ 7) (ha : a < 7) (hb : b < 7) (hc : c < 7) : chkS n a b c = true := by
  have h := chkSN_all h0 h1
  have h := List.all_eq_true.1 h a (List.mem_range.2 ha)
  have h := List.all_eq_true.1 h b (List.mem_range.2 hb)
  exact List.all_eq_true.1 h c (List.mem_range.2 hc)
theorem chi_neg {n a b c a' b' c' : Nat} (t : ByteArray) (h : lookT (tripN n) 0 (ix3 a' b' c') = negT (lookT (tripN n) 0 (ix3 a b c))) : chi n t a' b' c' = -chi n t a b c := by
  unfold chi
  rw [h]
  cases lookT (tripN n) 0 (ix3 a b c) with
  | none => rfl
  | some z =>
    obtain ⟨b, m⟩ := z
    cases b
    · rfl
    · show sgB t m = - -sgB t m
      omega
theorem chi_swap1 {n a b c : Nat} (t : ByteArray) (h0 : 3 ≤ n) (h1 : n ≤ 7) (ha : a < 7) (hb : b < 7) (hc : c < 7) : chi n t b a c = -chi n t a b c := by
  have h := chkS_at h0 h1 ha hb hc
  simp only [chkS, Bool.and_eq_true, decide_eq_true_eq] at h
  exact chi_neg t h.1.1
theorem chi_swap2 {n a b c : Nat} (t : ByteArray) (h0 : 3 ≤ n) (h1 : n ≤ 7) (ha : a < 7) (hb : b < 7) (hc : c < 7) : chi n t a c b = -chi n t a b c := by
  have h := chkS_at h0 h1 ha hb hc
  simp only [chkS, Bool.and_eq_true, decide_eq_true_eq] at h
  exact chi_neg t h.1.2
theorem chi_pm {n a b c : Nat} (t : ByteArray) (h0 : 3 ≤ n) (h1 : n ≤ 7) (ha : a < n) (hb : b < n) (hc : c < n) (hab : a ≠ b) (hbc : b ≠ c) (hac : a ≠ c) : chi n t a b c = 1 ∨ chi n t a b c = -1 := by
  have h := chkS_at (n := n) (a := a) (b := b) (c := c) h0 h1 (by omega) (by omega) (by omega)
  simp only [chkS, Bool.and_eq_true] at h
  have h := h.2
  rw [decide_eq_true ha, decide_eq_true hb, decide_eq_true hc, decide_eq_true hab, decide_eq_true hbc, decide_eq_true hac] at h
  simp only [Bool.and_self, Bool.not_true, Bool.false_or] at h
  unfold chi
  cases hl : lookT (tripN n) 0 (ix3 a b c) with
  | none => rw [hl] at h; cases h
  | some z =>
    obtain ⟨b, m⟩ := z
    rcases sgB_cases t m with e | e <;> cases b <;> simp [sgv, e]
/-- For any three elements the sign is -1, 0 or 1. -/
theorem chi_three (n : Nat) (t : ByteArray) (a b c : Nat) : chi n t a b c = 1 ∨ chi n t a b c = -1 ∨ chi n t a b c = 0 := by
  unfold chi
  cases lookT (tripN n) 0 (ix3 a b c) with
  | none => exact Or.inr (Or.inr rfl)
  | some z =>
    obtain ⟨b, m⟩ := z
    rcases sgB_cases t m with e | e <;> cases b <;> simp [sgv, e]
end Go.Proofs.Ytbjncemaeagjjaa.M
namespace Go.Proofs.Ytbjncemaeagjjaa.PX
open Go.RowKit Go.Proofs.Ytbjncemaeagjjaa.G Go.Proofs.YtbjncemaeagjjaaW.PrintWords Go.Proofs.YtbjncemaeagjjaaW.PrintLast Go.Proofs.YtbjncemaeagjjaaW.PrintMore
attribute [local go_sem] max2_int min2_int max_two min_two max_three min_three max_four min_four   -- for this text's walks alone
set_option linter.unusedVariables false
set_option linter.unusedSimpArgs false
/-! ### spec_l3Index: function 82 -/
mutual
def spec_l3Index.l0 : Nat → Int → Int → Int → Int → Int → Int → Option (Int)
 | 0, _, _, _, _, _, _ => none
 | k + 1, x0, x1, x2, x3, x9, x10 => if x10 < x1 then (spec_l3Index.l0 k x0 x1 x2 x3 (wrap64 (x9 + (wrap64 (Int.tdiv (wrap64 ((wrap64 ((wrap64 (x0 - 1)) - x10)) * (wrap64 ((wrap64 (x0 - 2)) - x10)))) 2)))) (wrap64 (x10 + 1))) else (spec_l3Index.l1 k x0 x2 x3 x9 (wrap64 (x1 + 1)))
def spec_l3Index.l1 : Nat → Int → Int → Int → Int → Int → Option (Int)
 | 0, _, _, _, _, _ => none
 | k + 1, x0, x2, x3, x9, x11 => if x11 < x2 then (spec_l3Index.l1 k x0 x2 x3 (wrap64 ((wrap64 ((wrap64 (x9 + x0)) - 1)) - x11)) (wrap64 (x11 + 1))) else (some (wrap64 ((wrap64 ((wrap64 (x9 + x3)) - x2)) - 1)))
end
def spec_l3Index.f (k : Nat) (a0 : Int) (a1 : Int) (a2 : Int) (a3 : Int) : Option (Int) := spec_l3Index.l0 k a0 a1 a2 a3 0 0
theorem spec_l3Index.mono_l : ∀ k, (∀ y0 y1 y2 y3 y4 y5, LeO (spec_l3Index.l0 k y0 y1 y2 y3 y4 y5) (spec_l3Index.l0 (k + 1) y0 y1 y2 y3 y4 y5)) ∧ (∀ y0 y1 y2 y3 y4, LeO (spec_l3Index.l1 k y0 y1 y2 y3 y4) (spec_l3Index.l1 (k + 1) y0 y1 y2 y3 y4))
 | 0 => ⟨fun _ _ _ _ _ _ r h => by simp [spec_l3Index.l0] at h, fun _ _ _ _ _ r h => by simp [spec_l3Index.l1] at h⟩
 | k + 1 => by
  obtain ⟨ih0, ih1⟩ := spec_l3Index.mono_l k
  refine ⟨?_, ?_⟩ <;> intros <;> (first | unfold spec_l3Index.l0 | unfold spec_l3Index.l1) <;> repeat' first
  | (with_reducible exact ih0 _ _ _ _ _ _)
  | (with_reducible exact ih1 _ _ _ _ _)
  | (with_reducible exact LeO.refl _)
  | (with_reducible exact LeO.none _)
  | (with_reducible refine LeO.ite ?_ ?_)
  | (with_reducible refine LeO.bind ?_ (fun _ => ?_))
  | exact ih0 _ _ _ _ _ _
  | exact ih1 _ _ _ _ _
  | exact LeO.none _
  | refine LeO.ite ?_ ?_
  | refine LeO.bind ?_ (fun _ => ?_)
theorem spec_l3Index.mono : ∀ a0 a1 a2 a3 k, LeO (spec_l3Index.f k a0 a1 a2 a3) (spec_l3Index.f (k + 1) a0 a1 a2 a3) := by
 intro a0 a1 a2 a3 k
 obtain ⟨ih0, ih1⟩ := spec_l3Index.mono_l k
 unfold spec_l3Index.f
 repeat' first
   | (with_reducible exact ih0 _ _ _ _ _ _)
   | (with_reducible exact ih1 _ _ _ _ _)
   | (with_reducible exact LeO.refl _)
   | (with_reducible exact LeO.none _)
   | (with_reducible refine LeO.ite ?_ ?_)
   | (with_reducible refine LeO.bind ?_ (fun _ => ?_))
   | exact ih0 _ _ _ _ _ _
   | exact ih1 _ _ _ _ _
   | exact LeO.none _
   | refine LeO.ite ?_ ?_
   | refine LeO.bind ?_ (fun _ => ?_)
set_option maxHeartbeats 8000000 in
set_option maxRecDepth 100000 in
theorem spec_l3Index.calls (k : Nat) (a0 : Int) (a1 : Int) (a2 : Int) (a3 : Int) (r : Int) (w : World) (h : spec_l3Index.f k a0 a1 a2 a3 = some r) :
  Calls Try.prog 82 #[.int .i64 a0, .int .i64 a1, .int .i64 a2, .int .i64 a3] w fun e w' => e = .returned (.int .i64 r) ∧ Drawn0 w w' := by
 have H : (spec_l3Index.l0 k a0 a1 a2 a3 0 0) = some r := h
 clear h
 have H' := Aside0.mk H
 clear H
 go_enter Try.func82, Try.ntmps82
 go_wp2
 go_loopg [9, 10] k (fun kq v9 v10 w' => ∃ (x9_1 : Int) (x10_1 : Int), v9 = .int .i64 x9_1 ∧ v10 = .int .i64 x10_1 ∧ Aside0 (spec_l3Index.l0 kq a0 a1 a2 a3 x9_1 x10_1 = some r) ∧ Aside0 (kq ≤ k) ∧ Drawn0 w w')
 case atStart => exact ⟨(0), (0), zF, zF, H', ⟨Nat.le_refl _⟩, by repeat (first | exact Drawn0.refl _ | apply Drawn0.step)⟩
 case round =>
  clear H'
  try clear p2
  obtain ⟨x9_1, x10_1, rfl, rfl, HA, HK1, ⟨m1, rfl⟩⟩ := hrel
  cases gk with
  | zero => exact absurd HA.out (by simp [spec_l3Index.l0])
  | succ k1 =>
   have H := HA.out
   clear HA
   simp only [spec_l3Index.l0] at H
   by_cases c5 : x10_1 < a1
   ·rw [if_pos c5] at H
    have c5b0 : decide (x10_1 < a1) = true := decide_eq_true c5
    clear c5
    have H' := Aside0.mk H
    clear H
    go_wp2
    go_roundg k1
    case measure => have := HK1.out; omega
    case rel => exact ⟨(wrap64 (x9_1 + (wrap64 (Int.tdiv (wrap64 ((wrap64 ((wrap64 (a0 - 1)) - x10_1)) * (wrap64 ((wrap64 (a0 - 2)) - x10_1)))) 2)))), (wrap64 (x10_1 + 1)), zF, zF, H', ⟨by have := HK1.out; omega⟩, by repeat (first | exact Drawn0.refl _ | apply Drawn0.step)⟩
   ·rw [if_neg c5] at H
    have c5b0 : decide (x10_1 < a1) = false := decide_eq_false c5
    clear c5
    have H' := Aside0.mk H
    clear H
    go_wp2
    go_loopg [9, 11] k1 (fun kq v9 v11 w' => ∃ (x9_2 : Int) (x11_2 : Int), v9 = .int .i64 x9_2 ∧ v11 = .int .i64 x11_2 ∧ Aside0 (spec_l3Index.l1 kq a0 a2 a3 x9_2 x11_2 = some r) ∧ Aside0 (kq ≤ k1) ∧ Drawn0 w w')
    case atStart => exact ⟨(x9_1), (wrap64 (a1 + 1)), zF, zF, H', ⟨Nat.le_refl _⟩, by repeat (first | exact Drawn0.refl _ | apply Drawn0.step)⟩
    case round =>
     clear H'
     try clear p2
     try clear c5
     try clear c5b0
     try clear p2
     obtain ⟨x9_2, x11_2, rfl, rfl, HA, HK2, ⟨m2, rfl⟩⟩ := hrel
     cases gk with
     | zero => exact absurd HA.out (by simp [spec_l3Index.l1])
     | succ k2 =>
      have H := HA.out
      clear HA
      simp only [spec_l3Index.l1] at H
      by_cases c6 : x11_2 < a2
      ·rw [if_pos c6] at H
       have c6b0 : decide (x11_2 < a2) = true := decide_eq_true c6
       clear c6
       have H' := Aside0.mk H
       clear H
       go_wp2
       go_roundg k2
       case measure => have := HK1.out; have := HK2.out; omega
       case rel => exact ⟨(wrap64 ((wrap64 ((wrap64 (x9_2 + a0)) - 1)) - x11_2)), (wrap64 (x11_2 + 1)), zF, zF, H', ⟨by have := HK1.out; have := HK2.out; omega⟩, by repeat (first | exact Drawn0.refl _ | apply Drawn0.step)⟩
      ·rw [if_neg c6] at H
       have c6b0 : decide (x11_2 < a2) = false := decide_eq_false c6
       clear c6
       obtain rfl := Option.some.inj H
       go_wp2
       go_ret
       exact ⟨by first | rfl | (simp; done) | (simp [*]; done), by repeat (first | exact Drawn0.refl _ | apply Drawn0.step)⟩
/-! ### spec_l3At: function 63 -/
mutual
def spec_l3At.j0 : Nat → Int → Int → Int → Int → Int → ByteArray → Option (Int)
 | 0, _, _, _, _, _, _ => none
 | k + 1, x1, x2, x3, x9, x111000, x111001 => if x2 > x3 then (spec_l3At.j1 k x1 x3 x2 (wrap64 (-x9)) x111000 x111001) else (spec_l3At.j1 k x1 x2 x3 x9 x111000 x111001)
def spec_l3At.j1 : Nat → Int → Int → Int → Int → Int → ByteArray → Option (Int)
 | 0, _, _, _, _, _, _ => none
 | k + 1, x1, x2, x3, x9, x111000, x111001 => if x1 > x2 then ((spec_l3Index.f k x111000 x2 x1 x3).bind fun t111 => (if 0 ≤ t111 then (if t111 < (x111001.size : Int) then (if (bt x111001 t111) = 45 then (some (wrap64 (-(wrap64 (-x9))))) else (some (wrap64 (-x9)))) else (none)) else (none))) else ((spec_l3Index.f k x111000 x1 x2 x3).bind fun t112 => (if 0 ≤ t112 then (if t112 < (x111001.size : Int) then (if (bt x111001 t112) = 45 then (some (wrap64 (-x9))) else (some x9)) else (none)) else (none)))
end
def spec_l3At.f (k : Nat) (a0_0 : Int) (a0_1 : ByteArray) (a1 : Int) (a2 : Int) (a3 : Int) : Option (Int) := if a1 > a2 then (spec_l3At.j0 k a2 a1 a3 (-1) a0_0 a0_1) else (spec_l3At.j0 k a1 a2 a3 1 a0_0 a0_1)
theorem spec_l3At.mono_l : ∀ k, (∀ y0 y1 y2 y3 y4 y5, LeO (spec_l3At.j0 k y0 y1 y2 y3 y4 y5) (spec_l3At.j0 (k + 1) y0 y1 y2 y3 y4 y5)) ∧ (∀ y0 y1 y2 y3 y4 y5, LeO (spec_l3At.j1 k y0 y1 y2 y3 y4 y5) (spec_l3At.j1 (k + 1) y0 y1 y2 y3 y4 y5))
 | 0 => ⟨fun _ _ _ _ _ _ r h => by simp [spec_l3At.j0] at h, fun _ _ _ _ _ _ r h => by simp [spec_l3At.j1] at h⟩
 | k + 1 => by
  obtain ⟨ih0, ih1⟩ := spec_l3At.mono_l k
  refine ⟨?_, ?_⟩ <;> intros <;> (first | unfold spec_l3At.j0 | unfold spec_l3At.j1) <;> repeat' first
  | (with_reducible exact ih0 _ _ _ _ _ _)
  | (with_reducible exact ih1 _ _ _ _ _ _)
  | (with_reducible exact spec_l3Index.mono _ _ _ _ _)
  | (with_reducible exact LeO.refl _)
  | (with_reducible exact LeO.none _)
  | (with_reducible refine LeO.ite ?_ ?_)
  | (with_reducible refine LeO.bind ?_ (fun _ => ?_))
  | exact ih0 _ _ _ _ _ _
  | exact ih1 _ _ _ _ _ _
  | exact spec_l3Index.mono _ _ _ _ _
  | exact LeO.none _
  | refine LeO.ite ?_ ?_
  | refine LeO.bind ?_ (fun _ => ?_)
theorem spec_l3At.mono : ∀ a0 a1 a2 a3 a4 k, LeO (spec_l3At.f k a0 a1 a2 a3 a4) (spec_l3At.f (k + 1) a0 a1 a2 a3 a4) := by
 intro a0 a1 a2 a3 a4 k
 obtain ⟨ih0, ih1⟩ := spec_l3At.mono_l k
 unfold spec_l3At.f
 repeat' first
   | (with_reducible exact ih0 _ _ _ _ _ _)
   | (with_reducible exact ih1 _ _ _ _ _ _)
   | (with_reducible exact spec_l3Index.mono _ _ _ _ _)
   | (with_reducible exact LeO.refl _)
   | (with_reducible exact LeO.none _)
   | (with_reducible refine LeO.ite ?_ ?_)
   | (with_reducible refine LeO.bind ?_ (fun _ => ?_))
   | exact ih0 _ _ _ _ _ _
   | exact ih1 _ _ _ _ _ _
   | exact spec_l3Index.mono _ _ _ _ _
   | exact LeO.none _
   | refine LeO.ite ?_ ?_
   | refine LeO.bind ?_ (fun _ => ?_)
set_option maxHeartbeats 8000000 in
set_option maxRecDepth 100000 in
theorem spec_l3At.calls (k : Nat) (a0_0 : Int) (a0_1 : ByteArray) (a1 : Int) (a2 : Int) (a3 : Int) (r : Int) (w : World) (h : spec_l3At.f k a0_0 a0_1 a1 a2 a3 = some r) :
  Calls Try.prog 63 #[.agg #[.int .i64 a0_0, .string a0_1], .int .i64 a1, .int .i64 a2, .int .i64 a3] w fun e w' => e = .returned (.int .i64 r) ∧ Below w.heap.size w w' := by
 have hu26 := Try.underlying26
 have HB := Aside0.mk (Below.refl w.heap.size w)
 have H : (if a1 > a2 then (spec_l3At.j0 k a2 a1 a3 (-1) a0_0 a0_1) else (spec_l3At.j0 k a1 a2 a3 1 a0_0 a0_1)) = some r := h
 clear h
 have HC5 := Aside0.mk H
 clear H
 go_enter Try.func63, Try.ntmps63
 go_upto_if 15 with (first | ((with_reducible refine gate_dst (N := 4) rfl ?_); refine box_event ?hg (N := 4) ?hd (cs := #[.int .i64 a0_0, .string a0_1]) (t := 26) ?hr ?_; (case hd => rfl); (case hg => rfl); (case hr => first | (go_simp; done) | (go_simp; rfl)); intro gb110 hg w6 hbox hb; have BK110 := Aside0.mk (hbox); have GW110 := Aside0.mk ((by rw [hg]; exact (below_size zB) : w.heap.size ≤ gb110)); have GE110 := Aside0.mk ((by rw [hg]; exact (below_size zB) : w.heap.size ≤ gb110)); replace HB := Aside0.mk (below_step zB hb); clear hb hbox hg))
 repeat (go_quiet (first | ((with_reducible refine gate_dst (N := 4) rfl ?_); refine box_event ?hg (N := 4) ?hd (cs := #[.int .i64 a0_0, .string a0_1]) (t := 26) ?hr ?_; (case hd => rfl); (case hg => rfl); (case hr => first | (go_simp; done) | (go_simp; rfl)); intro gb110 hg w6 hbox hb; have BK110 := Aside0.mk (hbox); have GW110 := Aside0.mk ((by rw [hg]; exact (below_size zB) : w.heap.size ≤ gb110)); have GE110 := Aside0.mk ((by rw [hg]; exact (below_size zB) : w.heap.size ≤ gb110)); replace HB := Aside0.mk (below_step zB hb); clear hb hbox hg)); go_upto_if 15 with (first | ((with_reducible refine gate_dst (N := 4) rfl ?_); refine box_event ?hg (N := 4) ?hd (cs := #[.int .i64 a0_0, .string a0_1]) (t := 26) ?hr ?_; (case hd => rfl); (case hg => rfl); (case hr => first | (go_simp; done) | (go_simp; rfl)); intro gb110 hg w6 hbox hb; have BK110 := Aside0.mk (hbox); have GW110 := Aside0.mk ((by rw [hg]; exact (below_size zB) : w.heap.size ≤ gb110)); have GE110 := Aside0.mk ((by rw [hg]; exact (below_size zB) : w.heap.size ≤ gb110)); replace HB := Aside0.mk (below_step zB hb); clear hb hbox hg)))
 (try simp only [Act.put, List.setIfInBounds_toArray, List.set_cons_zero, List.set_cons_succ])
 go_cut [1, 2, 9] (fun v1 v2 v9 wc => ∃ (kq : Nat) (x1_4 : Int) (x2_4 : Int) (x9_4 : Int), v1 = .int .i64 x1_4 ∧ v2 = .int .i64 x2_4 ∧ v9 = .int .i64 x9_4 ∧ Aside0 (spec_l3At.j0 kq x1_4 x2_4 a3 x9_4 a0_0 a0_1 = some r) ∧ Aside0 (kq ≤ k) ∧ Aside0 (wc.heap[gb110]? = some (.cells #[.int .i64 a0_0, .string a0_1] 26 (0, 0))) ∧ Aside0 (Below w.heap.size w wc))
 case first =>
  have H := HC5.out
  clear HC5
  by_cases c7 : a1 > a2
  ·rw [if_pos c7] at H
   have c7b0 : decide (a2 < a1) = true := decide_eq_true c7
   clear c7
   (first | rw [c7b0] | (simp only [i64_w, i32_w]; rw [c7b0]) | skip)
   have H' := Aside0.mk H
   clear H
   go_wp2
   repeat (go_quiet (fail); try go_wp2)
   go_meet
   case rel => exact ⟨_, (a2), (a1), (-1), zF, zF, zF, H', ⟨by first | omega | exact Nat.le_refl _⟩, ⟨zK BK110.out⟩, ⟨zG GE110.out⟩⟩
  ·rw [if_neg c7] at H
   have c7b0 : decide (a2 < a1) = false := decide_eq_false c7
   clear c7
   (first | rw [c7b0] | (simp only [i64_w, i32_w]; rw [c7b0]) | skip)
   have H' := Aside0.mk H
   clear H
   go_wp2
   repeat (go_quiet (fail); try go_wp2)
   go_meet
   case rel => exact ⟨_, (a1), (a2), (1), zF, zF, zF, H', ⟨by first | omega | exact Nat.le_refl _⟩, ⟨zK BK110.out⟩, ⟨zG GE110.out⟩⟩
 case rest =>
  clear HC5
  try clear p2
  try clear c6
  try clear c7
  try clear c7b0
  obtain ⟨kq, x1_4, x2_4, x9_4, rfl, rfl, rfl, HA, HJ4, BK110, HB⟩ := hcut
  cases kq with
  | zero => exact absurd HA.out (by simp [spec_l3At.j0])
  | succ kj4 =>
   have H := HA.out
   clear HA
   simp only [spec_l3At.j0] at H
   have HC8 := Aside0.mk H
   clear H
   go_upto_if 23 with (fail)
   repeat (go_quiet (fail); go_upto_if 23 with (fail))
   go_cut [2, 3, 9] (fun v2 v3 v9 wc => ∃ (kq : Nat) (x2_7 : Int) (x3_7 : Int) (x9_7 : Int), v2 = .int .i64 x2_7 ∧ v3 = .int .i64 x3_7 ∧ v9 = .int .i64 x9_7 ∧ Aside0 (spec_l3At.j1 kq x1_4 x2_7 x3_7 x9_7 a0_0 a0_1 = some r) ∧ Aside0 (kq ≤ kj4) ∧ Aside0 (wc.heap[gb110]? = some (.cells #[.int .i64 a0_0, .string a0_1] 26 (0, 0))) ∧ Aside0 (Below w.heap.size w wc))
   case first =>
    have H := HC8.out
    clear HC8
    by_cases c9 : x2_4 > a3
    ·rw [if_pos c9] at H
     have c9b0 : decide (a3 < x2_4) = true := decide_eq_true c9
     clear c9
     (first | rw [c9b0] | (simp only [i64_w, i32_w]; rw [c9b0]) | skip)
     have H' := Aside0.mk H
     clear H
     go_wp2
     repeat (go_quiet (fail); try go_wp2)
     go_meet
     case rel => exact ⟨_, (a3), (x2_4), (wrap64 (-x9_4)), zF, zF, zF, H', ⟨by have := HJ4.out; first | omega | exact Nat.le_refl _⟩, ⟨zK BK110.out⟩, ⟨zG GE110.out⟩⟩
    ·rw [if_neg c9] at H
     have c9b0 : decide (a3 < x2_4) = false := decide_eq_false c9
     clear c9
     (first | rw [c9b0] | (simp only [i64_w, i32_w]; rw [c9b0]) | skip)
     have H' := Aside0.mk H
     clear H
     go_wp2
     repeat (go_quiet (fail); try go_wp2)
     go_meet
     case rel => exact ⟨_, (x2_4), (a3), (x9_4), zF, zF, zF, H', ⟨by have := HJ4.out; first | omega | exact Nat.le_refl _⟩, ⟨zK BK110.out⟩, ⟨zG GE110.out⟩⟩
   case rest =>
    clear HC8
    try clear p2
    try clear c6
    try clear p6
    try clear c7
    try clear c7b0
    try clear c9
    try clear c9b0
    try clear p2
    obtain ⟨kq, x2_7, x3_7, x9_7, rfl, rfl, rfl, HA, HJ7, BK110, HB⟩ := hcut
    cases kq with
    | zero => exact absurd HA.out (by simp [spec_l3At.j1])
    | succ kj7 =>
     have H := HA.out
     clear HA
     simp only [spec_l3At.j1] at H
     by_cases c10 : x1_4 > x2_7
     ·rw [if_pos c10] at H
      have c10b0 : decide (x2_7 < x1_4) = true := decide_eq_true c10
      clear c10
      replace H := Option.bind_eq_some_iff.mp H
      obtain ⟨t111, A110, H⟩ := H
      replace H : (if 0 ≤ t111 then (if t111 < (a0_1.size : Int) then (if (bt a0_1 t111) = 45 then (some (wrap64 (-(wrap64 (-x9_7))))) else (some (wrap64 (-x9_7)))) else (none)) else (none)) = some r := H
      have A11 := Aside0.mk A110
      clear A110
      by_cases c12 : 0 ≤ t111
      ·rw [if_pos c12] at H
       have c12b0 : decide (0 ≤ t111) = true := decide_eq_true c12
       clear c12
       by_cases c13 : t111 < (a0_1.size : Int)
       ·rw [if_pos c13] at H
        have c13b0 : decide (t111 < (a0_1.size : Int)) = true := decide_eq_true c13
        clear c13
        by_cases c15 : (bt a0_1 t111) = 45
        ·rw [if_pos c15] at H
         have c15b0 : ((bt a0_1 t111) == 45) = true := beq_iff_eq.mpr c15
         have c15b1 : ((bt a0_1 t111) != 45) = false := bne_eq_false_iff_eq.mpr c15
         clear c15
         obtain rfl := Option.some.inj H
         have hcz16_0 : wc.cell? ⟨gb110, 0, none⟩ = some (.int .i64 a0_0) := (blk_cell BK110.out 0).trans rfl
         have hcz16_1 : wc.cell? ⟨gb110, 1, none⟩ = some (.string a0_1) := (blk_cell BK110.out 1).trans rfl
         have hfz16_0 := blk_frozen BK110.out 0
         have hfz16_1 := blk_frozen BK110.out 1
         go_wp2_with (first | (go_at_call 82; (with_reducible refine (spec_l3Index.calls kj7 a0_0 x2_7 x1_4 x3_7 t111 _ A11.out).mono ?_); rintro e w' ⟨rfl, ⟨nd, rfl⟩⟩; (try first | exact ⟨rfl, _, World.drewN_drewN _ _ _⟩ | exact ⟨rfl, _, Eq.trans (World.drewN_drewN _ _ _) (congrArg (World.drewN _) (Nat.add_assoc _ _ _))⟩); have p14 : 0 ≤ (t111 : Int) := zA; have q14 : t111 < (a0_1.size : Int) := zA; have hx14 := bt_at a0_1 t111; replace p14 := eq_true p14; replace q14 := eq_true q14))
         repeat (go_quiet (first | (go_at_call 82; (with_reducible refine (spec_l3Index.calls kj7 a0_0 x2_7 x1_4 x3_7 t111 _ A11.out).mono ?_); rintro e w' ⟨rfl, ⟨nd, rfl⟩⟩; (try first | exact ⟨rfl, _, World.drewN_drewN _ _ _⟩ | exact ⟨rfl, _, Eq.trans (World.drewN_drewN _ _ _) (congrArg (World.drewN _) (Nat.add_assoc _ _ _))⟩); have p14 : 0 ≤ (t111 : Int) := zA; have q14 : t111 < (a0_1.size : Int) := zA; have hx14 := bt_at a0_1 t111; replace p14 := eq_true p14; replace q14 := eq_true q14)); try go_wp2_with (first | (go_at_call 82; (with_reducible refine (spec_l3Index.calls kj7 a0_0 x2_7 x1_4 x3_7 t111 _ A11.out).mono ?_); rintro e w' ⟨rfl, ⟨nd, rfl⟩⟩; (try first | exact ⟨rfl, _, World.drewN_drewN _ _ _⟩ | exact ⟨rfl, _, Eq.trans (World.drewN_drewN _ _ _) (congrArg (World.drewN _) (Nat.add_assoc _ _ _))⟩); have p14 : 0 ≤ (t111 : Int) := zA; have q14 : t111 < (a0_1.size : Int) := zA; have hx14 := bt_at a0_1 t111; replace p14 := eq_true p14; replace q14 := eq_true q14)))
         go_ret
         exact ⟨zE, zG GE110.out⟩
        ·rw [if_neg c15] at H
         have c15b0 : ((bt a0_1 t111) == 45) = false := beq_eq_false_iff_ne.mpr c15
         have c15b1 : ((bt a0_1 t111) != 45) = true := bne_iff_ne.mpr c15
         obtain rfl := Option.some.inj H
         have hcz17_0 : wc.cell? ⟨gb110, 0, none⟩ = some (.int .i64 a0_0) := (blk_cell BK110.out 0).trans rfl
         have hcz17_1 : wc.cell? ⟨gb110, 1, none⟩ = some (.string a0_1) := (blk_cell BK110.out 1).trans rfl
         have hfz17_0 := blk_frozen BK110.out 0
         have hfz17_1 := blk_frozen BK110.out 1
         go_wp2_with (first | (go_at_call 82; (with_reducible refine (spec_l3Index.calls kj7 a0_0 x2_7 x1_4 x3_7 t111 _ A11.out).mono ?_); rintro e w' ⟨rfl, ⟨nd, rfl⟩⟩; (try first | exact ⟨rfl, _, World.drewN_drewN _ _ _⟩ | exact ⟨rfl, _, Eq.trans (World.drewN_drewN _ _ _) (congrArg (World.drewN _) (Nat.add_assoc _ _ _))⟩); have p14 : 0 ≤ (t111 : Int) := zA; have q14 : t111 < (a0_1.size : Int) := zA; have hx14 := bt_at a0_1 t111; replace p14 := eq_true p14; replace q14 := eq_true q14))
         repeat (go_quiet (first | (go_at_call 82; (with_reducible refine (spec_l3Index.calls kj7 a0_0 x2_7 x1_4 x3_7 t111 _ A11.out).mono ?_); rintro e w' ⟨rfl, ⟨nd, rfl⟩⟩; (try first | exact ⟨rfl, _, World.drewN_drewN _ _ _⟩ | exact ⟨rfl, _, Eq.trans (World.drewN_drewN _ _ _) (congrArg (World.drewN _) (Nat.add_assoc _ _ _))⟩); have p14 : 0 ≤ (t111 : Int) := zA; have q14 : t111 < (a0_1.size : Int) := zA; have hx14 := bt_at a0_1 t111; replace p14 := eq_true p14; replace q14 := eq_true q14)); try go_wp2_with (first | (go_at_call 82; (with_reducible refine (spec_l3Index.calls kj7 a0_0 x2_7 x1_4 x3_7 t111 _ A11.out).mono ?_); rintro e w' ⟨rfl, ⟨nd, rfl⟩⟩; (try first | exact ⟨rfl, _, World.drewN_drewN _ _ _⟩ | exact ⟨rfl, _, Eq.trans (World.drewN_drewN _ _ _) (congrArg (World.drewN _) (Nat.add_assoc _ _ _))⟩); have p14 : 0 ≤ (t111 : Int) := zA; have q14 : t111 < (a0_1.size : Int) := zA; have hx14 := bt_at a0_1 t111; replace p14 := eq_true p14; replace q14 := eq_true q14)))
         go_ret
         exact ⟨zE, zG GE110.out⟩
       ·rw [if_neg c13] at H
        exact absurd H (by simp)
      ·rw [if_neg c12] at H
       exact absurd H (by simp)
     ·rw [if_neg c10] at H
      have c10b0 : decide (x2_7 < x1_4) = false := decide_eq_false c10
      clear c10
      replace H := Option.bind_eq_some_iff.mp H
      obtain ⟨t112, A180, H⟩ := H
      replace H : (if 0 ≤ t112 then (if t112 < (a0_1.size : Int) then (if (bt a0_1 t112) = 45 then (some (wrap64 (-x9_7))) else (some x9_7)) else (none)) else (none)) = some r := H
      have A18 := Aside0.mk A180
      clear A180
      by_cases c19 : 0 ≤ t112
      ·rw [if_pos c19] at H
       have c19b0 : decide (0 ≤ t112) = true := decide_eq_true c19
       clear c19
       by_cases c20 : t112 < (a0_1.size : Int)
       ·rw [if_pos c20] at H
        have c20b0 : decide (t112 < (a0_1.size : Int)) = true := decide_eq_true c20
        clear c20
        by_cases c22 : (bt a0_1 t112) = 45
        ·rw [if_pos c22] at H
         have c22b0 : ((bt a0_1 t112) == 45) = true := beq_iff_eq.mpr c22
         have c22b1 : ((bt a0_1 t112) != 45) = false := bne_eq_false_iff_eq.mpr c22
         clear c22
         obtain rfl := Option.some.inj H
         have hcz23_0 : wc.cell? ⟨gb110, 0, none⟩ = some (.int .i64 a0_0) := (blk_cell BK110.out 0).trans rfl
         have hcz23_1 : wc.cell? ⟨gb110, 1, none⟩ = some (.string a0_1) := (blk_cell BK110.out 1).trans rfl
         have hfz23_0 := blk_frozen BK110.out 0
         have hfz23_1 := blk_frozen BK110.out 1
         go_wp2_with (first | (go_at_call 82; (with_reducible refine (spec_l3Index.calls kj7 a0_0 x1_4 x2_7 x3_7 t112 _ A18.out).mono ?_); rintro e w' ⟨rfl, ⟨nd, rfl⟩⟩; (try first | exact ⟨rfl, _, World.drewN_drewN _ _ _⟩ | exact ⟨rfl, _, Eq.trans (World.drewN_drewN _ _ _) (congrArg (World.drewN _) (Nat.add_assoc _ _ _))⟩); have p21 : 0 ≤ (t112 : Int) := zA; have q21 : t112 < (a0_1.size : Int) := zA; have hx21 := bt_at a0_1 t112; replace p21 := eq_true p21; replace q21 := eq_true q21))
         repeat (go_quiet (first | (go_at_call 82; (with_reducible refine (spec_l3Index.calls kj7 a0_0 x1_4 x2_7 x3_7 t112 _ A18.out).mono ?_); rintro e w' ⟨rfl, ⟨nd, rfl⟩⟩; (try first | exact ⟨rfl, _, World.drewN_drewN _ _ _⟩ | exact ⟨rfl, _, Eq.trans (World.drewN_drewN _ _ _) (congrArg (World.drewN _) (Nat.add_assoc _ _ _))⟩); have p21 : 0 ≤ (t112 : Int) := zA; have q21 : t112 < (a0_1.size : Int) := zA; have hx21 := bt_at a0_1 t112; replace p21 := eq_true p21; replace q21 := eq_true q21)); try go_wp2_with (first | (go_at_call 82; (with_reducible refine (spec_l3Index.calls kj7 a0_0 x1_4 x2_7 x3_7 t112 _ A18.out).mono ?_); rintro e w' ⟨rfl, ⟨nd, rfl⟩⟩; (try first | exact ⟨rfl, _, World.drewN_drewN _ _ _⟩ | exact ⟨rfl, _, Eq.trans (World.drewN_drewN _ _ _) (congrArg (World.drewN _) (Nat.add_assoc _ _ _))⟩); have p21 : 0 ≤ (t112 : Int) := zA; have q21 : t112 < (a0_1.size : Int) := zA; have hx21 := bt_at a0_1 t112; replace p21 := eq_true p21; replace q21 := eq_true q21)))
         go_ret
         exact ⟨zE, zG GE110.out⟩
        ·rw [if_neg c22] at H
         have c22b0 : ((bt a0_1 t112) == 45) = false := beq_eq_false_iff_ne.mpr c22
         have c22b1 : ((bt a0_1 t112) != 45) = true := bne_iff_ne.mpr c22
         obtain rfl := Option.some.inj H
         have hcz24_0 : wc.cell? ⟨gb110, 0, none⟩ = some (.int .i64 a0_0) := (blk_cell BK110.out 0).trans rfl
         have hcz24_1 : wc.cell? ⟨gb110, 1, none⟩ = some (.string a0_1) := (blk_cell BK110.out 1).trans rfl
         have hfz24_0 := blk_frozen BK110.out 0
         have hfz24_1 := blk_frozen BK110.out 1
         go_wp2_with (first | (go_at_call 82; (with_reducible refine (spec_l3Index.calls kj7 a0_0 x1_4 x2_7 x3_7 t112 _ A18.out).mono ?_); rintro e w' ⟨rfl, ⟨nd, rfl⟩⟩; (try first | exact ⟨rfl, _, World.drewN_drewN _ _ _⟩ | exact ⟨rfl, _, Eq.trans (World.drewN_drewN _ _ _) (congrArg (World.drewN _) (Nat.add_assoc _ _ _))⟩); have p21 : 0 ≤ (t112 : Int) := zA; have q21 : t112 < (a0_1.size : Int) := zA; have hx21 := bt_at a0_1 t112; replace p21 := eq_true p21; replace q21 := eq_true q21))
         repeat (go_quiet (first | (go_at_call 82; (with_reducible refine (spec_l3Index.calls kj7 a0_0 x1_4 x2_7 x3_7 t112 _ A18.out).mono ?_); rintro e w' ⟨rfl, ⟨nd, rfl⟩⟩; (try first | exact ⟨rfl, _, World.drewN_drewN _ _ _⟩ | exact ⟨rfl, _, Eq.trans (World.drewN_drewN _ _ _) (congrArg (World.drewN _) (Nat.add_assoc _ _ _))⟩); have p21 : 0 ≤ (t112 : Int) := zA; have q21 : t112 < (a0_1.size : Int) := zA; have hx21 := bt_at a0_1 t112; replace p21 := eq_true p21; replace q21 := eq_true q21)); try go_wp2_with (first | (go_at_call 82; (with_reducible refine (spec_l3Index.calls kj7 a0_0 x1_4 x2_7 x3_7 t112 _ A18.out).mono ?_); rintro e w' ⟨rfl, ⟨nd, rfl⟩⟩; (try first | exact ⟨rfl, _, World.drewN_drewN _ _ _⟩ | exact ⟨rfl, _, Eq.trans (World.drewN_drewN _ _ _) (congrArg (World.drewN _) (Nat.add_assoc _ _ _))⟩); have p21 : 0 ≤ (t112 : Int) := zA; have q21 : t112 < (a0_1.size : Int) := zA; have hx21 := bt_at a0_1 t112; replace p21 := eq_true p21; replace q21 := eq_true q21)))
         go_ret
         exact ⟨zE, zG GE110.out⟩
       ·rw [if_neg c20] at H
        exact absurd H (by simp)
      ·rw [if_neg c19] at H
       exact absurd H (by simp)
end Go.Proofs.Ytbjncemaeagjjaa.PX
namespace Go.Proofs.Ytbjncemaeagjjaa.M
open Go.RowKit Go.Proofs.YtbjncemaeagjjaaW.PrintWords Go.Proofs.Ytbjncemaeagjjaa.PX Go.Proofs.Ytbjncemaeagjjaa.G
def chkT (n a b c : Nat) : Bool :=
  match lookT (tripN n) 0 (ix3 a b c) with
  | some (false, p) => decide (p < (tripN n).length) && (spec_l3Index.f 60 (n : Int) (a : Int) (b : Int) (c : Int) == some (p : Int)) &&
      (lookT (tripN n) 0 (ix3 b c a) == some (false, p)) && (lookT (tripN n) 0 (ix3 c a b) == some (false, p)) &&
      (lookT (tripN n) 0 (ix3 a c b) == some (true, p)) && (lookT (tripN n) 0 (ix3 c b a) == some (true, p)) && (lookT (tripN n) 0 (ix3 b a c) == some (true, p))
  | _ => false
def chkN (n : Nat) : Bool := (List.range n).all fun a => (List.range n).all fun b => (List.range n).all fun c => !(decide (a < b) && decide (b < c)) || chkT n a b c
theorem chkN_all {n : Nat} (h0 : 3 ≤ n) (h1 : n ≤ 7) : chkN n = true := by
  refine five (p := fun n => chkN n = true) h0 h1 ?_ ?_ ?_ ?_ ?_ <;> decide +kernel
/-- Three ascending elements' sign stands at one place of the text; it is the table's in all orders. -/
theorem chi_all {n a b c : Nat} (t : ByteArray) (h0 : 3 ≤ n) (h1 : n ≤ 7) (hab : a < b) (hbc : b < c) (hc : c < n) :
    ∃ p, p < (tripN n).length ∧ Ev (fun k => spec_l3Index.f k (n : Int) (a : Int) (b : Int) (c : Int)) (p : Int) ∧ chi n t a b c = sgB t p ∧ chi n t b c a = sgB t p ∧ chi n t c a b = sgB t p ∧
      chi n t a c b = -sgB t p ∧ chi n t c b a = -sgB t p ∧ chi n t b a c = -sgB t p := by
  have h := chkN_all h0 h1
  have h := List.all_eq_true.1 h a (List.mem_range.2 (by omega))
  have h := List.all_eq_true.1 h b (List.mem_range.2 (by omega))
  have h := List.all_eq_true.1 h c (List.mem_range.2 hc)
  rw [decide_eq_true hab, decide_eq_true hbc] at h
  simp only [Bool.and_self, Bool.not_true, Bool.false_or] at h
  unfold chkT at h
  split at h
  · rename_i p hp
    simp only [Bool.and_eq_true, decide_eq_true_eq, beq_iff_eq] at h
    obtain ⟨⟨⟨⟨⟨⟨g0, g1⟩, g2⟩, g3⟩, g4⟩, g5⟩, g6⟩ := h
    refine ⟨p, g0, Ev.of (spec_l3Index.mono _ _ _ _) g1, ?_⟩
    unfold chi
    rw [hp, g2, g3, g4, g5, g6]
    exact ⟨rfl, rfl, rfl, rfl, rfl, rfl⟩
  · cases h
def chkZ (n : Nat) : Bool := (List.range 7).all fun a => (List.range 7).all fun b => (lookT (tripN n) 0 (ix3 a a b) == none) && (lookT (tripN n) 0 (ix3 a b a) == none) && (lookT (tripN n) 0 (ix3 b a a) == none)
theorem chkZ_all {n : Nat} (h0 : 3 ≤ n) (h1 : n ≤ 7) : chkZ n = true := by
  refine five (p := fun n => chkZ n = true) h0 h1 ?_ ?_ ?_ ?_ ?_ <;> decide +kernel
theorem chi_zero {n a b : Nat} (t : ByteArray) (h0 : 3 ≤ n) (h1 : n ≤ 7) (ha : a < 7) (hb : b < 7) : chi n t a a b = 0 ∧ chi n t a b a = 0 ∧ chi n t b a a = 0 := by
  have h := chkZ_all h0 h1
  have h := List.all_eq_true.1 h a (List.mem_range.2 ha)
  have h := List.all_eq_true.1 h b (List.mem_range.2 hb)
  simp only [Bool.and_eq_true, beq_iff_eq] at h
  obtain ⟨⟨g0, g1⟩, g2⟩ := h
  unfold chi
  rw [g0, g1, g2]
  exact ⟨rfl, rfl, rfl⟩
theorem sgB_text (t : ByteArray) (p : Nat) (x : Int) : (if bt t (p : Int) = 45 then some (-x) else some x) = some (x * sgB t p) := by
  unfold sgB
  split
  · rw [show x * -1 = -x by omega]
  · rw [Int.mul_one]
theorem wrap_neg_one : wrap64 (-1) = -1 := by decide +kernel
theorem wrap_neg_neg : wrap64 (- -1) = 1 := by decide +kernel
theorem wrap_one_ : wrap64 (-(1 : Int)) = -1 := by decide +kernel
/-- The sign at a text's place. -/
theorem at_end {n : Nat} {t : ByteArray} (h : areOk n t = true) {a b c : Nat} {p : Nat} (hp : p < (tripN n).length) (he : Ev (fun k => spec_l3Index.f k (n : Int) (a : Int) (b : Int) (c : Int)) (p : Int)) (x y : Int) :
    Ev (fun k => (spec_l3Index.f k (n : Int) (a : Int) (b : Int) (c : Int)).bind fun z => if 0 ≤ z then (if z < (t.size : Int) then (if bt t z = 45 then some y else some x) else none) else none) (if bt t (p : Int) = 45 then y else x) := by
  obtain ⟨⟨h0, h1⟩, h2, _⟩ := (areOk_iff _ _).1 h
  have hc := (trip_small (n := n) (by omega) (by omega)).2
  refine Ev.bind he (ev_pos (by omega) (ev_pos (by omega) ?_))
  split <;> exact Ev.now _
theorem l3At_ev {n : Nat} {t : ByteArray} (h : areOk n t = true) {i j k : Nat} (hi : i < n) (hj : j < n) (hk : k < n) (hij : i ≠ j) (hjk : j ≠ k) (hik : i ≠ k) :
    Ev (fun q => spec_l3At.f q (n : Int) t (i : Int) (j : Int) (k : Int)) (chi n t i j k) := by
  obtain ⟨⟨h0, h1⟩, _, _⟩ := (areOk_iff _ _).1 h
  have h0 : 3 ≤ n := by omega
  have h1 : n ≤ 7 := by omega
  unfold spec_l3At.f
  rcases Nat.lt_or_gt_of_ne hij with ij | ij
  · refine ev_neg (by omega) (ev_step ?_)
    simp only [spec_l3At.j0]
    rcases Nat.lt_or_gt_of_ne hjk with jk | jk
    · refine ev_neg (by omega) (ev_step ?_)
      simp only [spec_l3At.j1]
      refine ev_neg (by omega) ?_
      obtain ⟨p, hp, he, e1, _⟩ := chi_all t h0 h1 ij jk hk
      refine ev_cast (at_end h hp he _ _) ?_
      rw [e1, wrap_one_]; rfl
    · refine ev_pos (by omega) (ev_step ?_)
      simp only [spec_l3At.j1]
      rcases Nat.lt_or_gt_of_ne hik with ik | ik
      · refine ev_neg (by omega) ?_
        obtain ⟨p, hp, he, _, _, _, e1, _⟩ := chi_all t h0 h1 ik jk hj
        refine ev_cast (at_end h hp he _ _) ?_
        rw [e1, wrap_one_, wrap_neg_neg]; unfold sgB; split <;> rfl
      · refine ev_pos (by omega) ?_
        obtain ⟨p, hp, he, _, e1, _⟩ := chi_all t h0 h1 ik ij hj
        refine ev_cast (at_end h hp he _ _) ?_
        rw [e1, wrap_one_, wrap_neg_neg, wrap_one_]; rfl
  · refine ev_pos (by omega) (ev_step ?_)
    simp only [spec_l3At.j0]
    rcases Nat.lt_or_gt_of_ne hik with ik | ik
    · refine ev_neg (by omega) (ev_step ?_)
      simp only [spec_l3At.j1]
      refine ev_neg (by omega) ?_
      obtain ⟨p, hp, he, _, _, _, _, _, e1⟩ := chi_all t h0 h1 ij ik hk
      refine ev_cast (at_end h hp he _ _) ?_
      rw [e1, wrap_neg_neg]; unfold sgB; split <;> rfl
    · refine ev_pos (by omega) (ev_step ?_)
      simp only [spec_l3At.j1]
      rcases Nat.lt_or_gt_of_ne hjk with jk | jk
      · refine ev_neg (by omega) ?_
        obtain ⟨p, hp, he, _, _, e1, _⟩ := chi_all t h0 h1 jk ik hi
        refine ev_cast (at_end h hp he _ _) ?_
        rw [e1, wrap_neg_neg, wrap_one_]; rfl
      · refine ev_pos (by omega) ?_
        obtain ⟨p, hp, he, _, _, _, _, e1, _⟩ := chi_all t h0 h1 jk ij hi
        refine ev_cast (at_end h hp he _ _) ?_
        rw [e1, wrap_neg_neg, wrap_one_, wrap_neg_neg]; unfold sgB; split <;> rfl
end Go.Proofs.Ytbjncemaeagjjaa.M
namespace Go.Proofs.Ytbjncemaeagjjaa.PX
open Go.RowKit Go.Proofs.Ytbjncemaeagjjaa.G Go.Proofs.YtbjncemaeagjjaaW.PrintWords Go.Proofs.YtbjncemaeagjjaaW.PrintLast Go.Proofs.YtbjncemaeagjjaaW.PrintMore
attribute [local go_sem] max2_int min2_int max_two min_two max_three min_three max_four min_four   -- for this text's walks alone
set_option linter.unusedVariables false
set_option linter.unusedSimpArgs false
/-! ### spec_l3Others: function 91 -/
def spec_l3Others.l0 : Nat → Int → Int → List Int → Int → Option (List Int)
 | 0, _, _, _, _ => none
 | k + 1, x0, x1, x5, x6 => if x6 < x0 then (if x6 = x1 then (spec_l3Others.l0 k x0 x1 x5 (wrap64 (x6 + 1))) else (if x5.length < 17592186044416 then (spec_l3Others.l0 k x0 x1 (x5 ++ [x6]) (wrap64 (x6 + 1))) else (none))) else (some x5)
def spec_l3Others.f (k : Nat) (a0 : Int) (a1 : Int) : Option (List Int) := spec_l3Others.l0 k a0 a1 (([] : List Int)) 0
theorem spec_l3Others.mono_l : ∀ k, (∀ y0 y1 y2 y3, LeO (spec_l3Others.l0 k y0 y1 y2 y3) (spec_l3Others.l0 (k + 1) y0 y1 y2 y3))
 | 0 => fun _ _ _ _ r h => by simp [spec_l3Others.l0] at h
 | k + 1 => by
  have ih0 := spec_l3Others.mono_l k
  ·intro y0 y1 y2 y3
   unfold spec_l3Others.l0
   repeat' first
   | (with_reducible exact ih0 _ _ _ _)
   | (with_reducible exact LeO.refl _)
   | (with_reducible exact LeO.none _)
   | (with_reducible refine LeO.ite ?_ ?_)
   | (with_reducible refine LeO.bind ?_ (fun _ => ?_))
   | exact ih0 _ _ _ _
   | exact LeO.none _
   | refine LeO.ite ?_ ?_
   | refine LeO.bind ?_ (fun _ => ?_)
theorem spec_l3Others.mono : ∀ a0 a1 k, LeO (spec_l3Others.f k a0 a1) (spec_l3Others.f (k + 1) a0 a1) := by
 intro a0 a1 k
 have ih0 := spec_l3Others.mono_l k
 unfold spec_l3Others.f
 repeat' first
   | (with_reducible exact ih0 _ _ _ _)
   | (with_reducible exact LeO.refl _)
   | (with_reducible exact LeO.none _)
   | (with_reducible refine LeO.ite ?_ ?_)
   | (with_reducible refine LeO.bind ?_ (fun _ => ?_))
   | exact ih0 _ _ _ _
   | exact LeO.none _
   | refine LeO.ite ?_ ?_
   | refine LeO.bind ?_ (fun _ => ?_)
set_option maxHeartbeats 8000000 in
set_option maxRecDepth 100000 in
theorem spec_l3Others.calls (k : Nat) (a0 : Int) (a1 : Int) (r : List Int) (w : World) (h : spec_l3Others.f k a0 a1 = some r) :
  Calls Try.prog 91 #[.int .i64 a0, .int .i64 a1] w fun e w' => ∃ v0_ : Value, e = .returned (v0_) ∧ Kd.R (Kd.int .i64) 3 w' w.heap.size (fun _ => True) v0_ r ∧ Below w.heap.size w w' := by
 have HB := Aside0.mk (Below.refl w.heap.size w)
 have H : (spec_l3Others.l0 k a0 a1 (([] : List Int)) 0) = some r := h
 clear h
 obtain ⟨y104, hy104⟩ : ∃ y_ : List Int, y_ = (([] : List Int)) := ⟨_, rfl⟩
 replace H : (spec_l3Others.l0 k a0 a1 y104 0) = some r := by first | (rw [hy104]; with_reducible exact H) | (have H2_ := (Option.bind_some _ _).symm.trans H; rw [hy104]; with_reducible exact H2_) | (have H2_ := (Option.bind_some _ _).symm.trans H; with_reducible exact H2_) | with_reducible exact H | (rw [hy104]; exact H) | exact H
 have Ny104 := Aside0.mk hy104
 clear hy104
 have H' := Aside0.mk H
 clear H
 go_enter Try.func91, Try.ntmps91
 go_wp2_with (first | ((with_reducible refine gate_dst (N := 7) rfl ?_); refine Kd.R_lit (Kd.int .i64) _ 3 ?hg (N := 7) ?hd (xs := ([] : List Int)) (inner := []) (ok := fun _ => True) (okp := fun _ => True) ?hr ?hp (fun _ hk => hk) trivial (Below.refl _ _) (Nat.le_refl _) (by simp) ?_; (case hd => rfl); (case hg => rfl); (case hr => first | (go_simp; done) | (go_simp; rfl)); (case hp => exact (Reps.none _ _)); intro v105 w3 ho4 hb hg_ hnew_; clear hg_ hnew_; (first | rw [← Ny104.out] at ho4 | (simp only [Int.reduceToNat] at ho4; rw [← Ny104.out] at ho4)); have HO106 := Aside0.mk (Kd.R_lower ho4 (below_size zB)); replace HB := Aside0.mk (below_step zB hb); clear hb ho4))
 go_loopg [5, 6] k (fun kq v5 v6 w' => ∃ (x5_1 : List Int) (x6_1 : Int), v6 = .int .i64 x6_1 ∧ Aside0 (spec_l3Others.l0 kq a0 a1 x5_1 x6_1 = some r) ∧ Aside0 (kq ≤ k) ∧ Aside0 (Kd.R (Kd.int .i64) 3 w' w.heap.size (fun _ => True) v5 x5_1) ∧ Aside0 (Below w.heap.size w w'))
 case atStart => exact ⟨(y104), (0), zF, H', ⟨Nat.le_refl _⟩, ⟨zR HO106.out⟩, ⟨zB⟩⟩
 case round =>
  clear H'
  try clear p2
  obtain ⟨x5_1, x6_1, rfl, HA, HK1, HO_5, HB⟩ := hrel
  cases gk with
  | zero => exact absurd HA.out (by simp [spec_l3Others.l0])
  | succ k1 =>
   have H := HA.out
   clear HA
   simp only [spec_l3Others.l0] at H
   by_cases c5 : x6_1 < a0
   ·rw [if_pos c5] at H
    have c5b0 : decide (x6_1 < a0) = true := decide_eq_true c5
    clear c5
    by_cases c6 : x6_1 = a1
    ·rw [if_pos c6] at H
     have c6b0 : (x6_1 == a1) = true := beq_iff_eq.mpr c6
     have c6b1 : (x6_1 != a1) = false := bne_eq_false_iff_eq.mpr c6
     clear c6
     have H' := Aside0.mk H
     clear H
     go_wp2
     go_roundg k1
     case measure => have := HK1.out; omega
     case rel => exact ⟨(x5_1), (wrap64 (x6_1 + 1)), zF, H', ⟨by have := HK1.out; omega⟩, ⟨zR HO_5.out⟩, ⟨zB⟩⟩
    ·rw [if_neg c6] at H
     have c6b0 : (x6_1 == a1) = false := beq_eq_false_iff_ne.mpr c6
     have c6b1 : (x6_1 != a1) = true := bne_iff_ne.mpr c6
     by_cases c7 : x5_1.length < 17592186044416
     ·rw [if_pos c7] at H
      have LMc7 := Aside0.mk c7
      clear c7
      obtain ⟨y107, hy107⟩ : ∃ y_ : List Int, y_ = (x5_1 ++ [x6_1]) := ⟨_, rfl⟩
      replace H : (spec_l3Others.l0 k1 a0 a1 y107 (wrap64 (x6_1 + 1))) = some r := by first | (rw [hy107]; with_reducible exact H) | (have H2_ := (Option.bind_some _ _).symm.trans H; rw [hy107]; with_reducible exact H2_) | (have H2_ := (Option.bind_some _ _).symm.trans H; with_reducible exact H2_) | with_reducible exact H | (rw [hy107]; exact H) | exact H
      have Ny107 := Aside0.mk hy107
      clear hy107
      have H' := Aside0.mk H
      clear H
      go_wp2_with (first | ((with_reducible refine gate_builtin (b := .append) (xs := #[.tmp 16, .tmp 18]) rfl ?_); at_builtin; refine Kd.R_append (Kd.int .i64) (w0 := w) w.heap.size rfl (.tmp 16) (.tmp 18) 34 3 (.int .i64 0) 8 rfl Try.underlying34 info3 rfl (by decide) (by omega) u5 x5_1 x6_1 [.int .i64 x6_1] (fun _ => True) (fun _ => False) rfl rfl ?aP (fun _ hk => hk.elim) ?aF ?aO ?aB ?aS ?aL ?_; (case aP => exact rfl); (case aB => exact zB); (case aF => exact (fun _ _ => trivial)); (case aO => exact (zR HO_5.out)); (case aS => exact (below_size zB)); (case aL => have := LMc7.out; omega); intro v108 w8 ho hb hg hat; rw [← Ny107.out] at ho; have n0_ := Aside0.mk (hb); have n1_ := Aside0.mk (ho); clear HB; clear HO_5; have HB := n0_; have HO109 := n1_; clear n0_ n1_; clear ho hb hg hat))
      go_roundg k1
      case measure => have := HK1.out; omega
      case rel => exact ⟨(y107), (wrap64 (x6_1 + 1)), zF, H', ⟨by have := HK1.out; omega⟩, ⟨zR HO109.out⟩, ⟨zB⟩⟩
     ·rw [if_neg c7] at H
      exact absurd H (by simp)
   ·rw [if_neg c5] at H
    have c5b0 : decide (x6_1 < a0) = false := decide_eq_false c5
    clear c5
    obtain rfl := Option.some.inj H
    go_wp2
    go_ret
    exact ⟨_, zE, zR HO_5.out, zB⟩
end Go.Proofs.Ytbjncemaeagjjaa.PX
namespace Go.Proofs.Ytbjncemaeagjjaa.M
open Go.RowKit Go.Proofs.YtbjncemaeagjjaaW.PrintWords Go.Proofs.Ytbjncemaeagjjaa.PX
/-- The elements of a list as the program holds them. -/
def up (l : List Nat) : List Int := l.map fun (x : Nat) => (x : Int)
theorem up_length (l : List Nat) : (up l).length = l.length := List.length_map ..
theorem rd_up {l : List Nat} {i : Nat} (h : i < l.length) : rd (up l) (i : Int) = ((l.getD i 0 : Nat) : Int) := by
  unfold rd up
  rw [Int.toNat_natCast, List.getD_eq_getElem?_getD, List.getD_eq_getElem?_getD, List.getElem?_map, List.getElem?_eq_getElem h]
  rfl
/-- The other elements. -/
def othersN (n x : Nat) : List Nat := (List.range n).filter (fun y => y != x)
def othersChk : Bool := (List.range 8).all fun n => (List.range 8).all fun x => decide (spec_l3Others.f 30 (n : Int) (x : Int) = some (up (othersN n x)))
theorem othersChk_ok : othersChk = true := by decide +kernel
theorem others_ev {n x : Nat} (hn : n ≤ 7) (hx : x ≤ 7) : Ev (fun k => spec_l3Others.f k (n : Int) (x : Int)) (up (othersN n x)) := by
  have h := othersChk_ok
  have h := List.all_eq_true.1 h n (List.mem_range.2 (by omega))
  have h := List.all_eq_true.1 h x (List.mem_range.2 (by omega))
  exact Ev.of (spec_l3Others.mono _ _) (of_decide_eq_true h)
def chkW (n : Nat) : Bool := (List.range n).all fun x => decide ((othersN n x).length = n - 1) && decide ((othersN n x).Nodup) && (othersN n x).all fun y => decide (y < n)
theorem chkW_ok {n : Nat} (h0 : 3 ≤ n) (h1 : n ≤ 7) : chkW n = true := by
  refine five (p := fun n => chkW n = true) h0 h1 ?_ ?_ ?_ ?_ ?_ <;> decide +kernel
theorem others_facts {n x : Nat} (h0 : 3 ≤ n) (h1 : n ≤ 7) (hx : x < n) : (othersN n x).length = n - 1 ∧ (othersN n x).Nodup ∧ ∀ y ∈ othersN n x, y < n := by
  have h := List.all_eq_true.1 (chkW_ok h0 h1) x (List.mem_range.2 hx)
  simp only [Bool.and_eq_true, decide_eq_true_eq, List.all_eq_true] at h
  exact ⟨h.1.1, h.1.2, h.2⟩
end Go.Proofs.Ytbjncemaeagjjaa.M
namespace Go.Proofs.Ytbjncemaeagjjaa.PX
open Go.RowKit Go.Proofs.Ytbjncemaeagjjaa.G Go.Proofs.YtbjncemaeagjjaaW.PrintWords Go.Proofs.YtbjncemaeagjjaaW.PrintLast Go.Proofs.YtbjncemaeagjjaaW.PrintMore
attribute [local go_sem] max2_int min2_int max_two min_two max_three min_three max_four min_four   -- for this text's walks alone
set_option linter.unusedVariables false
set_option linter.unusedSimpArgs false
/-! ### spec_l4Breaks: function 92 -/
def spec_l4Breaks.f (k : Nat) (a0_0 : Int) (a0_1 : ByteArray) (a1 : Int) (a2 : Int) (a3 : Int) (a4 : Int) (a5 : Int) : Option (Bool) := (spec_l3At.f k a0_0 a0_1 a1 a2 a3).bind fun t114 => ((spec_l3At.f k a0_0 a0_1 a1 a4 a5).bind fun t115 => ((spec_l3At.f k a0_0 a0_1 a1 a2 a5).bind fun t116 => ((spec_l3At.f k a0_0 a0_1 a1 a3 a4).bind fun t117 => ((spec_l3At.f k a0_0 a0_1 a1 a2 a4).bind fun t118 => ((spec_l3At.f k a0_0 a0_1 a1 a3 a5).bind fun t119 => (if (wrap64 (t114 * t115)) = (wrap64 (t116 * t117)) then (some ((wrap64 (t116 * t117)) == (wrap64 ((wrap64 (-t118)) * t119)))) else (some false)))))))
theorem spec_l4Breaks.mono : ∀ a0 a1 a2 a3 a4 a5 a6 k, LeO (spec_l4Breaks.f k a0 a1 a2 a3 a4 a5 a6) (spec_l4Breaks.f (k + 1) a0 a1 a2 a3 a4 a5 a6) := by
 intro a0 a1 a2 a3 a4 a5 a6 k
 unfold spec_l4Breaks.f
 repeat' first
   | (with_reducible exact spec_l3At.mono _ _ _ _ _ _)
   | (with_reducible exact LeO.refl _)
   | (with_reducible exact LeO.none _)
   | (with_reducible refine LeO.ite ?_ ?_)
   | (with_reducible refine LeO.bind ?_ (fun _ => ?_))
   | exact spec_l3At.mono _ _ _ _ _ _
   | exact LeO.none _
   | refine LeO.ite ?_ ?_
   | refine LeO.bind ?_ (fun _ => ?_)
def spec_l4Breaks.T1 : Bool × List (List Nat × List Nat) := (true, [([], []), ([], []), ([], []), ([], []), ([0, 1, 2, 3], [0, 1, 2, 3]), ([], []), ([], []), ([], []), ([], []), ([5, 6, 7, 8, 4], [5, 6, 7, 8]), ([4, 9], [4, 9]), ([10, 9, 0, 1, 2, 3, 4, 5, 6, 7, 8, 9, 10], [10])])
def spec_l4Breaks.B1 : List Nat := [0, 0, 0, 0, 15, 0, 0, 0, 0, 511, 1023, 2047]
theorem spec_l4Breaks.tab1 : rtab .any (opsOf Try.f92 1) = spec_l4Breaks.T1 := by kernel_rfl
theorem spec_l4Breaks.bits1 : waitsOk spec_l4Breaks.T1.2 spec_l4Breaks.B1 = true := by kernel_rfl
def spec_l4Breaks.T2 : Bool × List (List Nat × List Nat) := (true, [([], []), ([], []), ([], []), ([], []), ([0, 1, 2, 3], [0, 1, 2, 3]), ([], []), ([], []), ([], []), ([], []), ([5, 6, 7, 8, 4], [5, 6, 7, 8]), ([4, 9], [4, 9]), ([10, 9, 0, 1, 2, 3, 4, 5, 6, 7, 8, 9, 10], [10])])
def spec_l4Breaks.B2 : List Nat := [0, 0, 0, 0, 15, 0, 0, 0, 0, 511, 1023, 2047]
theorem spec_l4Breaks.tab2 : rtab .any (opsOf Try.f92 2) = spec_l4Breaks.T2 := by kernel_rfl
theorem spec_l4Breaks.bits2 : waitsOk spec_l4Breaks.T2.2 spec_l4Breaks.B2 = true := by kernel_rfl
def spec_l4Breaks.T3 : Bool × List (List Nat × List Nat) := (true, [([], []), ([], []), ([], []), ([], []), ([0, 1, 2, 3], [0, 1, 2, 3]), ([4], [4]), ([], []), ([], []), ([], []), ([], []), ([6, 7, 8, 9, 4], [6, 7, 8, 9]), ([5, 10], [5, 10]), ([11, 10, 0, 1, 2, 3, 4, 5, 6, 7, 8, 9, 10, 11], [11])])
def spec_l4Breaks.B3 : List Nat := [0, 0, 0, 0, 15, 31, 0, 0, 0, 0, 991, 2047, 4095]
theorem spec_l4Breaks.tab3 : rtab .any (opsOf Try.f92 3) = spec_l4Breaks.T3 := by kernel_rfl
theorem spec_l4Breaks.bits3 : waitsOk spec_l4Breaks.T3.2 spec_l4Breaks.B3 = true := by kernel_rfl
set_option maxHeartbeats 8000000 in
set_option maxRecDepth 100000 in
theorem spec_l4Breaks.calls (k : Nat) (a0_0 : Int) (a0_1 : ByteArray) (a1 : Int) (a2 : Int) (a3 : Int) (a4 : Int) (a5 : Int) (r : Bool) (w : World) (h : spec_l4Breaks.f k a0_0 a0_1 a1 a2 a3 a4 a5 = some r) :
  Calls Try.prog 92 #[.agg #[.int .i64 a0_0, .string a0_1], .int .i64 a1, .int .i64 a2, .int .i64 a3, .int .i64 a4, .int .i64 a5] w fun e w' => e = .returned (.bool r) ∧ Below w.heap.size w w' := by
 have hu26 := Try.underlying26
 have HB := Aside0.mk (Below.refl w.heap.size w)
 have H : ((spec_l3At.f k a0_0 a0_1 a1 a2 a3).bind fun t114 => ((spec_l3At.f k a0_0 a0_1 a1 a4 a5).bind fun t115 => ((spec_l3At.f k a0_0 a0_1 a1 a2 a5).bind fun t116 => ((spec_l3At.f k a0_0 a0_1 a1 a3 a4).bind fun t117 => ((spec_l3At.f k a0_0 a0_1 a1 a2 a4).bind fun t118 => ((spec_l3At.f k a0_0 a0_1 a1 a3 a5).bind fun t119 => (if (wrap64 (t114 * t115)) = (wrap64 (t116 * t117)) then (some ((wrap64 (t116 * t117)) == (wrap64 ((wrap64 (-t118)) * t119)))) else (some false)))))))) = some r := h
 clear h
 replace H := Option.bind_eq_some_iff.mp H
 obtain ⟨t114, A70, H⟩ := H
 replace H : ((spec_l3At.f k a0_0 a0_1 a1 a4 a5).bind fun t115 => ((spec_l3At.f k a0_0 a0_1 a1 a2 a5).bind fun t116 => ((spec_l3At.f k a0_0 a0_1 a1 a3 a4).bind fun t117 => ((spec_l3At.f k a0_0 a0_1 a1 a2 a4).bind fun t118 => ((spec_l3At.f k a0_0 a0_1 a1 a3 a5).bind fun t119 => (if (wrap64 (t114 * t115)) = (wrap64 (t116 * t117)) then (some ((wrap64 (t116 * t117)) == (wrap64 ((wrap64 (-t118)) * t119)))) else (some false))))))) = some r := H
 have A7 := Aside0.mk A70
 clear A70
 replace H := Option.bind_eq_some_iff.mp H
 obtain ⟨t115, A80, H⟩ := H
 replace H : ((spec_l3At.f k a0_0 a0_1 a1 a2 a5).bind fun t116 => ((spec_l3At.f k a0_0 a0_1 a1 a3 a4).bind fun t117 => ((spec_l3At.f k a0_0 a0_1 a1 a2 a4).bind fun t118 => ((spec_l3At.f k a0_0 a0_1 a1 a3 a5).bind fun t119 => (if (wrap64 (t114 * t115)) = (wrap64 (t116 * t117)) then (some ((wrap64 (t116 * t117)) == (wrap64 ((wrap64 (-t118)) * t119)))) else (some false)))))) = some r := H
 have A8 := Aside0.mk A80
 clear A80
 replace H := Option.bind_eq_some_iff.mp H
 obtain ⟨t116, A90, H⟩ := H
 replace H : ((spec_l3At.f k a0_0 a0_1 a1 a3 a4).bind fun t117 => ((spec_l3At.f k a0_0 a0_1 a1 a2 a4).bind fun t118 => ((spec_l3At.f k a0_0 a0_1 a1 a3 a5).bind fun t119 => (if (wrap64 (t114 * t115)) = (wrap64 (t116 * t117)) then (some ((wrap64 (t116 * t117)) == (wrap64 ((wrap64 (-t118)) * t119)))) else (some false))))) = some r := H
 have A9 := Aside0.mk A90
 clear A90
 replace H := Option.bind_eq_some_iff.mp H
 obtain ⟨t117, A100, H⟩ := H
 replace H : ((spec_l3At.f k a0_0 a0_1 a1 a2 a4).bind fun t118 => ((spec_l3At.f k a0_0 a0_1 a1 a3 a5).bind fun t119 => (if (wrap64 (t114 * t115)) = (wrap64 (t116 * t117)) then (some ((wrap64 (t116 * t117)) == (wrap64 ((wrap64 (-t118)) * t119)))) else (some false)))) = some r := H
 have A10 := Aside0.mk A100
 clear A100
 replace H := Option.bind_eq_some_iff.mp H
 obtain ⟨t118, A110, H⟩ := H
 replace H : ((spec_l3At.f k a0_0 a0_1 a1 a3 a5).bind fun t119 => (if (wrap64 (t114 * t115)) = (wrap64 (t116 * t117)) then (some ((wrap64 (t116 * t117)) == (wrap64 ((wrap64 (-t118)) * t119)))) else (some false))) = some r := H
 have A11 := Aside0.mk A110
 clear A110
 replace H := Option.bind_eq_some_iff.mp H
 obtain ⟨t119, A120, H⟩ := H
 replace H : (if (wrap64 (t114 * t115)) = (wrap64 (t116 * t117)) then (some ((wrap64 (t116 * t117)) == (wrap64 ((wrap64 (-t118)) * t119)))) else (some false)) = some r := H
 have A12 := Aside0.mk A120
 clear A120
 by_cases c13 : (wrap64 (t114 * t115)) = (wrap64 (t116 * t117))
 ·rw [if_pos c13] at H
  have c13b0 : ((wrap64 (t114 * t115)) == (wrap64 (t116 * t117))) = true := beq_iff_eq.mpr c13
  have c13b1 : ((wrap64 (t114 * t115)) != (wrap64 (t116 * t117))) = false := bne_eq_false_iff_eq.mpr c13
  clear c13
  obtain rfl := Option.some.inj H
  go_enter Try.func92, Try.ntmps92
  try go_wp2_with (first | ((with_reducible refine gate_dst (N := 6) rfl ?_); refine box_event ?hg (N := 6) ?hd (cs := #[.int .i64 a0_0, .string a0_1]) (t := 26) ?hr ?_; (case hd => rfl); (case hg => rfl); (case hr => first | (go_simp; done) | (go_simp; rfl)); intro gb113 hg w14 hbox hb; have BK113 := Aside0.mk (hbox); have GW113 := Aside0.mk ((by rw [hg]; exact (below_size zB) : w.heap.size ≤ gb113)); have GE113 := Aside0.mk ((by rw [hg]; exact (below_size zB) : w.heap.size ≤ gb113)); replace HB := Aside0.mk (below_step zB hb); clear hb hbox hg))
  have n0_ := Aside0.mk (blk_drew BK113.out)
  have n1_ := Aside0.mk (below_drew1 HB.out)
  clear BK113
  clear HB
  have BK113 := n0_
  have HB := n1_
  clear n0_ n1_
  refine start_ (n := 12) (S := fun w' => w'.cell? ⟨gb113, 0, none⟩ = some (.int .i64 a0_0) ∧ w'.cell? ⟨gb113, 1, none⟩ = some (.string a0_1)) (ds := []) #[false, false, false, false, false, false, false, false, false, false, false, false] (by kernel_rfl) rfl rfl ⟨(blk_cell BK113.out 0).trans rfl, (blk_cell BK113.out 1).trans rfl⟩ (fun hHeld => ?_); refine with_tabW spec_l4Breaks.tab1 spec_l4Breaks.bits1 (fun HT_ HW_ => ?_)
  generalize w14.drew = w15 at BK113 HB hHeld ⊢
  refine zP 1 (some 17) rfl rfl ?_
  refine zP 2 (some 18) rfl rfl ?_
  refine zP 3 (some 19) rfl rfl ?_
  refine zP 6 (some 22) rfl rfl ?_
  refine zP 7 (some 23) rfl rfl ?_
  refine zP 8 (some 24) rfl rfl ?_
  refine take_ (i := 0) (N := some 16) (v := ?_) (a' := ?_) #[true, true, true, true, false, false, true, true, true, false, false, false] rfl rfl (take_ofW HT_.out HW_.out (by kernel_rfl)) (fun _ _ _ h => h) (Or.inl ⟨by rfl, ?_⟩) hHeld ?_ ?_
  rotate_left
  ·rintro w' ⟨s0, s1⟩
   go_simp
   with_reducible rfl
  rotate_left
  ·simp only [Act.put, List.setIfInBounds_toArray, List.set_cons_zero, List.set_cons_succ, i64_w, i32_w]
   rfl
  refine take_ (i := 5) (N := some 21) (v := ?_) (a' := ?_) #[true, true, true, true, false, true, true, true, true, false, false, false] rfl rfl (take_ofW HT_.out HW_.out (by kernel_rfl)) (fun _ _ _ h => h) (Or.inl ⟨by rfl, ?_⟩) hHeld ?_ ?_
  rotate_left
  ·rintro w' ⟨s0, s1⟩
   go_simp
   with_reducible rfl
  rotate_left
  ·simp only [Act.put, List.setIfInBounds_toArray, List.set_cons_zero, List.set_cons_succ, i64_w, i32_w]
   rfl
  refine one_ (i := 4) (N := some 20) #[true, true, true, true, true, true, true, true, true, false, false, false] rfl rfl (one_of HT_.out (by kernel_rfl)) (by decide) (fun K hK => ?_)
  refine goes_ Try.func63 (by kernel_rfl) rfl #[.agg #[.int .i64 a0_0, .string a0_1], .int .i64 a1, .int .i64 a2, .int .i64 a3] (by rfl) rfl rfl zM ?_
  with_reducible refine (spec_l3At.calls k a0_0 a0_1 a1 a2 a3 t114 _ A7.out).mono ?_
  rintro e w16 ⟨rfl, hb⟩
  refine ⟨_, rfl, ?_⟩
  have n0_ := Aside0.mk (blk_below (g := gb113) (o := .cells #[.int .i64 a0_0, .string a0_1] 26 (0, 0)) (zK BK113.out) hb)
  have n1_ := Aside0.mk (below_step (zG GE113.out) hb)
  clear BK113
  clear HB
  have BK113 := n0_
  have HB := n1_
  clear n0_ n1_
  (try clear hb)
  (try clear hb2)
  (try clear hk)
  (try clear hi)
  refine hK.out _ _ ⟨(blk_cell BK113.out 0).trans rfl, (blk_cell BK113.out 1).trans rfl⟩ (fun hHeld => ?_)
  clear hK K
  refine norm_ (a' := ?_) ?_ ?_
  rotate_left
  ·show Act.put _ (some 20) _ = _
   simp only [Act.put, List.setIfInBounds_toArray, List.set_cons_zero, List.set_cons_succ, i64_w, i32_w]
   rfl
  refine one_ (i := 9) (N := some 25) #[true, true, true, true, true, true, true, true, true, true, false, false] rfl rfl (one_of HT_.out (by kernel_rfl)) (by decide) (fun K hK => ?_)
  refine goes_ Try.func63 (by kernel_rfl) rfl #[.agg #[.int .i64 a0_0, .string a0_1], .int .i64 a1, .int .i64 a4, .int .i64 a5] (by rfl) rfl rfl zM ?_
  with_reducible refine (spec_l3At.calls k a0_0 a0_1 a1 a4 a5 t115 _ A8.out).mono ?_
  rintro e w17 ⟨rfl, hb⟩
  refine ⟨_, rfl, ?_⟩
  have n0_ := Aside0.mk (blk_below (g := gb113) (o := .cells #[.int .i64 a0_0, .string a0_1] 26 (0, 0)) (zK BK113.out) hb)
  have n1_ := Aside0.mk (below_step (zG GE113.out) hb)
  clear BK113
  clear HB
  have BK113 := n0_
  have HB := n1_
  clear n0_ n1_
  (try clear hb)
  (try clear hb2)
  (try clear hk)
  (try clear hi)
  refine hK.out _ _ ⟨(blk_cell BK113.out 0).trans rfl, (blk_cell BK113.out 1).trans rfl⟩ (fun hHeld => ?_)
  clear hK K
  refine norm_ (a' := ?_) ?_ ?_
  rotate_left
  ·show Act.put _ (some 25) _ = _
   simp only [Act.put, List.setIfInBounds_toArray, List.set_cons_zero, List.set_cons_succ, i64_w, i32_w]
   rfl
  refine zP 10 (some 26) rfl rfl ?_
  refine zP 11 (some 13) rfl rfl ?_
  refine done_ (done_of HT_.out (by kernel_rfl)) ?_
  try go_wp2
  have n0_ := Aside0.mk (blk_drew BK113.out)
  have n1_ := Aside0.mk (below_drew1 HB.out)
  clear BK113
  clear HB
  have BK113 := n0_
  have HB := n1_
  clear n0_ n1_
  refine start_ (n := 12) (S := fun w' => w'.cell? ⟨gb113, 0, none⟩ = some (.int .i64 a0_0) ∧ w'.cell? ⟨gb113, 1, none⟩ = some (.string a0_1)) (ds := []) #[false, false, false, false, false, false, false, false, false, false, false, false] (by kernel_rfl) rfl rfl ⟨(blk_cell BK113.out 0).trans rfl, (blk_cell BK113.out 1).trans rfl⟩ (fun hHeld => ?_); refine with_tabW spec_l4Breaks.tab2 spec_l4Breaks.bits2 (fun HT_ HW_ => ?_)
  generalize w17.drew = w18 at BK113 HB hHeld ⊢
  refine zP 1 (some 28) rfl rfl ?_
  refine zP 2 (some 29) rfl rfl ?_
  refine zP 3 (some 30) rfl rfl ?_
  refine zP 6 (some 33) rfl rfl ?_
  refine zP 7 (some 34) rfl rfl ?_
  refine zP 8 (some 35) rfl rfl ?_
  refine take_ (i := 0) (N := some 27) (v := ?_) (a' := ?_) #[true, true, true, true, false, false, true, true, true, false, false, false] rfl rfl (take_ofW HT_.out HW_.out (by kernel_rfl)) (fun _ _ _ h => h) (Or.inl ⟨by rfl, ?_⟩) hHeld ?_ ?_
  rotate_left
  ·rintro w' ⟨s0, s1⟩
   go_simp
   with_reducible rfl
  rotate_left
  ·simp only [Act.put, List.setIfInBounds_toArray, List.set_cons_zero, List.set_cons_succ, i64_w, i32_w]
   rfl
  refine take_ (i := 5) (N := some 32) (v := ?_) (a' := ?_) #[true, true, true, true, false, true, true, true, true, false, false, false] rfl rfl (take_ofW HT_.out HW_.out (by kernel_rfl)) (fun _ _ _ h => h) (Or.inl ⟨by rfl, ?_⟩) hHeld ?_ ?_
  rotate_left
  ·rintro w' ⟨s0, s1⟩
   go_simp
   with_reducible rfl
  rotate_left
  ·simp only [Act.put, List.setIfInBounds_toArray, List.set_cons_zero, List.set_cons_succ, i64_w, i32_w]
   rfl
  refine one_ (i := 4) (N := some 31) #[true, true, true, true, true, true, true, true, true, false, false, false] rfl rfl (one_of HT_.out (by kernel_rfl)) (by decide) (fun K hK => ?_)
  refine goes_ Try.func63 (by kernel_rfl) rfl #[.agg #[.int .i64 a0_0, .string a0_1], .int .i64 a1, .int .i64 a2, .int .i64 a5] (by rfl) rfl rfl zM ?_
  with_reducible refine (spec_l3At.calls k a0_0 a0_1 a1 a2 a5 t116 _ A9.out).mono ?_
  rintro e w19 ⟨rfl, hb⟩
  refine ⟨_, rfl, ?_⟩
  have n0_ := Aside0.mk (blk_below (g := gb113) (o := .cells #[.int .i64 a0_0, .string a0_1] 26 (0, 0)) (zK BK113.out) hb)
  have n1_ := Aside0.mk (below_step (zG GE113.out) hb)
  clear BK113
  clear HB
  have BK113 := n0_
  have HB := n1_
  clear n0_ n1_
  (try clear hb)
  (try clear hb2)
  (try clear hk)
  (try clear hi)
  refine hK.out _ _ ⟨(blk_cell BK113.out 0).trans rfl, (blk_cell BK113.out 1).trans rfl⟩ (fun hHeld => ?_)
  clear hK K
  refine norm_ (a' := ?_) ?_ ?_
  rotate_left
  ·show Act.put _ (some 31) _ = _
   simp only [Act.put, List.setIfInBounds_toArray, List.set_cons_zero, List.set_cons_succ, i64_w, i32_w]
   rfl
  refine one_ (i := 9) (N := some 36) #[true, true, true, true, true, true, true, true, true, true, false, false] rfl rfl (one_of HT_.out (by kernel_rfl)) (by decide) (fun K hK => ?_)
  refine goes_ Try.func63 (by kernel_rfl) rfl #[.agg #[.int .i64 a0_0, .string a0_1], .int .i64 a1, .int .i64 a3, .int .i64 a4] (by rfl) rfl rfl zM ?_
  with_reducible refine (spec_l3At.calls k a0_0 a0_1 a1 a3 a4 t117 _ A10.out).mono ?_
  rintro e w20 ⟨rfl, hb⟩
  refine ⟨_, rfl, ?_⟩
  have n0_ := Aside0.mk (blk_below (g := gb113) (o := .cells #[.int .i64 a0_0, .string a0_1] 26 (0, 0)) (zK BK113.out) hb)
  have n1_ := Aside0.mk (below_step (zG GE113.out) hb)
  clear BK113
  clear HB
  have BK113 := n0_
  have HB := n1_
  clear n0_ n1_
  (try clear hb)
  (try clear hb2)
  (try clear hk)
  (try clear hi)
  refine hK.out _ _ ⟨(blk_cell BK113.out 0).trans rfl, (blk_cell BK113.out 1).trans rfl⟩ (fun hHeld => ?_)
  clear hK K
  refine norm_ (a' := ?_) ?_ ?_
  rotate_left
  ·show Act.put _ (some 36) _ = _
   simp only [Act.put, List.setIfInBounds_toArray, List.set_cons_zero, List.set_cons_succ, i64_w, i32_w]
   rfl
  refine zP 10 (some 37) rfl rfl ?_
  refine zP 11 (some 14) rfl rfl ?_
  refine done_ (done_of HT_.out (by kernel_rfl)) ?_
  try go_wp2
  have n0_ := Aside0.mk (blk_drew BK113.out)
  have n1_ := Aside0.mk (below_drew1 HB.out)
  clear BK113
  clear HB
  have BK113 := n0_
  have HB := n1_
  clear n0_ n1_
  refine start_ (n := 13) (S := fun w' => w'.cell? ⟨gb113, 0, none⟩ = some (.int .i64 a0_0) ∧ w'.cell? ⟨gb113, 1, none⟩ = some (.string a0_1)) (ds := []) #[false, false, false, false, false, false, false, false, false, false, false, false, false] (by kernel_rfl) rfl rfl ⟨(blk_cell BK113.out 0).trans rfl, (blk_cell BK113.out 1).trans rfl⟩ (fun hHeld => ?_); refine with_tabW spec_l4Breaks.tab3 spec_l4Breaks.bits3 (fun HT_ HW_ => ?_)
  generalize w20.drew = w21 at BK113 HB hHeld ⊢
  refine zP 1 (some 39) rfl rfl ?_
  refine zP 2 (some 40) rfl rfl ?_
  refine zP 3 (some 41) rfl rfl ?_
  refine zP 7 (some 45) rfl rfl ?_
  refine zP 8 (some 46) rfl rfl ?_
  refine zP 9 (some 47) rfl rfl ?_
  refine take_ (i := 0) (N := some 38) (v := ?_) (a' := ?_) #[true, true, true, true, false, false, false, true, true, true, false, false, false] rfl rfl (take_ofW HT_.out HW_.out (by kernel_rfl)) (fun _ _ _ h => h) (Or.inl ⟨by rfl, ?_⟩) hHeld ?_ ?_
  rotate_left
  ·rintro w' ⟨s0, s1⟩
   go_simp
   with_reducible rfl
  rotate_left
  ·simp only [Act.put, List.setIfInBounds_toArray, List.set_cons_zero, List.set_cons_succ, i64_w, i32_w]
   rfl
  refine take_ (i := 6) (N := some 44) (v := ?_) (a' := ?_) #[true, true, true, true, false, false, true, true, true, true, false, false, false] rfl rfl (take_ofW HT_.out HW_.out (by kernel_rfl)) (fun _ _ _ h => h) (Or.inl ⟨by rfl, ?_⟩) hHeld ?_ ?_
  rotate_left
  ·rintro w' ⟨s0, s1⟩
   go_simp
   with_reducible rfl
  rotate_left
  ·simp only [Act.put, List.setIfInBounds_toArray, List.set_cons_zero, List.set_cons_succ, i64_w, i32_w]
   rfl
  refine one_ (i := 4) (N := some 42) #[true, true, true, true, true, false, true, true, true, true, false, false, false] rfl rfl (one_of HT_.out (by kernel_rfl)) (by decide) (fun K hK => ?_)
  refine goes_ Try.func63 (by kernel_rfl) rfl #[.agg #[.int .i64 a0_0, .string a0_1], .int .i64 a1, .int .i64 a2, .int .i64 a4] (by rfl) rfl rfl zM ?_
  with_reducible refine (spec_l3At.calls k a0_0 a0_1 a1 a2 a4 t118 _ A11.out).mono ?_
  rintro e w22 ⟨rfl, hb⟩
  refine ⟨_, rfl, ?_⟩
  have n0_ := Aside0.mk (blk_below (g := gb113) (o := .cells #[.int .i64 a0_0, .string a0_1] 26 (0, 0)) (zK BK113.out) hb)
  have n1_ := Aside0.mk (below_step (zG GE113.out) hb)
  clear BK113
  clear HB
  have BK113 := n0_
  have HB := n1_
  clear n0_ n1_
  (try clear hb)
  (try clear hb2)
  (try clear hk)
  (try clear hi)
  refine hK.out _ _ ⟨(blk_cell BK113.out 0).trans rfl, (blk_cell BK113.out 1).trans rfl⟩ (fun hHeld => ?_)
  clear hK K
  refine norm_ (a' := ?_) ?_ ?_
  rotate_left
  ·show Act.put _ (some 42) _ = _
   simp only [Act.put, List.setIfInBounds_toArray, List.set_cons_zero, List.set_cons_succ, i64_w, i32_w]
   rfl
  refine zP 5 (some 43) rfl rfl ?_
  refine one_ (i := 10) (N := some 48) #[true, true, true, true, true, true, true, true, true, true, true, false, false] rfl rfl (one_of HT_.out (by kernel_rfl)) (by decide) (fun K hK => ?_)
  refine goes_ Try.func63 (by kernel_rfl) rfl #[.agg #[.int .i64 a0_0, .string a0_1], .int .i64 a1, .int .i64 a3, .int .i64 a5] (by rfl) rfl rfl zM ?_
  with_reducible refine (spec_l3At.calls k a0_0 a0_1 a1 a3 a5 t119 _ A12.out).mono ?_
  rintro e w23 ⟨rfl, hb⟩
  refine ⟨_, rfl, ?_⟩
  have n0_ := Aside0.mk (blk_below (g := gb113) (o := .cells #[.int .i64 a0_0, .string a0_1] 26 (0, 0)) (zK BK113.out) hb)
  have n1_ := Aside0.mk (below_step (zG GE113.out) hb)
  clear BK113
  clear HB
  have BK113 := n0_
  have HB := n1_
  clear n0_ n1_
  (try clear hb)
  (try clear hb2)
  (try clear hk)
  (try clear hi)
  refine hK.out _ _ ⟨(blk_cell BK113.out 0).trans rfl, (blk_cell BK113.out 1).trans rfl⟩ (fun hHeld => ?_)
  clear hK K
  refine norm_ (a' := ?_) ?_ ?_
  rotate_left
  ·show Act.put _ (some 48) _ = _
   simp only [Act.put, List.setIfInBounds_toArray, List.set_cons_zero, List.set_cons_succ, i64_w, i32_w]
   rfl
  refine zP 11 (some 49) rfl rfl ?_
  refine zP 12 (some 15) rfl rfl ?_
  refine done_ (done_of HT_.out (by kernel_rfl)) ?_
  try go_wp2
  go_ret
  exact ⟨zE, zG GE113.out⟩
 ·rw [if_neg c13] at H
  have c13b0 : ((wrap64 (t114 * t115)) == (wrap64 (t116 * t117))) = false := beq_eq_false_iff_ne.mpr c13
  have c13b1 : ((wrap64 (t114 * t115)) != (wrap64 (t116 * t117))) = true := bne_iff_ne.mpr c13
  obtain rfl := Option.some.inj H
  go_enter Try.func92, Try.ntmps92
  try go_wp2_with (first | ((with_reducible refine gate_dst (N := 6) rfl ?_); refine box_event ?hg (N := 6) ?hd (cs := #[.int .i64 a0_0, .string a0_1]) (t := 26) ?hr ?_; (case hd => rfl); (case hg => rfl); (case hr => first | (go_simp; done) | (go_simp; rfl)); intro gb113 hg w24 hbox hb; have BK113 := Aside0.mk (hbox); have GW113 := Aside0.mk ((by rw [hg]; exact (below_size zB) : w.heap.size ≤ gb113)); have GE113 := Aside0.mk ((by rw [hg]; exact (below_size zB) : w.heap.size ≤ gb113)); replace HB := Aside0.mk (below_step zB hb); clear hb hbox hg))
  have n0_ := Aside0.mk (blk_drew BK113.out)
  have n1_ := Aside0.mk (below_drew1 HB.out)
  clear BK113
  clear HB
  have BK113 := n0_
  have HB := n1_
  clear n0_ n1_
  refine start_ (n := 12) (S := fun w' => w'.cell? ⟨gb113, 0, none⟩ = some (.int .i64 a0_0) ∧ w'.cell? ⟨gb113, 1, none⟩ = some (.string a0_1)) (ds := []) #[false, false, false, false, false, false, false, false, false, false, false, false] (by kernel_rfl) rfl rfl ⟨(blk_cell BK113.out 0).trans rfl, (blk_cell BK113.out 1).trans rfl⟩ (fun hHeld => ?_); refine with_tabW spec_l4Breaks.tab1 spec_l4Breaks.bits1 (fun HT_ HW_ => ?_)
  generalize w24.drew = w25 at BK113 HB hHeld ⊢
  refine zP 1 (some 17) rfl rfl ?_
  refine zP 2 (some 18) rfl rfl ?_
  refine zP 3 (some 19) rfl rfl ?_
  refine zP 6 (some 22) rfl rfl ?_
  refine zP 7 (some 23) rfl rfl ?_
  refine zP 8 (some 24) rfl rfl ?_
  refine take_ (i := 0) (N := some 16) (v := ?_) (a' := ?_) #[true, true, true, true, false, false, true, true, true, false, false, false] rfl rfl (take_ofW HT_.out HW_.out (by kernel_rfl)) (fun _ _ _ h => h) (Or.inl ⟨by rfl, ?_⟩) hHeld ?_ ?_
  rotate_left
  ·rintro w' ⟨s0, s1⟩
   go_simp
   with_reducible rfl
  rotate_left
  ·simp only [Act.put, List.setIfInBounds_toArray, List.set_cons_zero, List.set_cons_succ, i64_w, i32_w]
   rfl
  refine take_ (i := 5) (N := some 21) (v := ?_) (a' := ?_) #[true, true, true, true, false, true, true, true, true, false, false, false] rfl rfl (take_ofW HT_.out HW_.out (by kernel_rfl)) (fun _ _ _ h => h) (Or.inl ⟨by rfl, ?_⟩) hHeld ?_ ?_
  rotate_left
  ·rintro w' ⟨s0, s1⟩
   go_simp
   with_reducible rfl
  rotate_left
  ·simp only [Act.put, List.setIfInBounds_toArray, List.set_cons_zero, List.set_cons_succ, i64_w, i32_w]
   rfl
  refine one_ (i := 4) (N := some 20) #[true, true, true, true, true, true, true, true, true, false, false, false] rfl rfl (one_of HT_.out (by kernel_rfl)) (by decide) (fun K hK => ?_)
  refine goes_ Try.func63 (by kernel_rfl) rfl #[.agg #[.int .i64 a0_0, .string a0_1], .int .i64 a1, .int .i64 a2, .int .i64 a3] (by rfl) rfl rfl zM ?_
  with_reducible refine (spec_l3At.calls k a0_0 a0_1 a1 a2 a3 t114 _ A7.out).mono ?_
  rintro e w26 ⟨rfl, hb⟩
  refine ⟨_, rfl, ?_⟩
  have n0_ := Aside0.mk (blk_below (g := gb113) (o := .cells #[.int .i64 a0_0, .string a0_1] 26 (0, 0)) (zK BK113.out) hb)
  have n1_ := Aside0.mk (below_step (zG GE113.out) hb)
  clear BK113
  clear HB
  have BK113 := n0_
  have HB := n1_
  clear n0_ n1_
  (try clear hb)
  (try clear hb2)
  (try clear hk)
  (try clear hi)
  refine hK.out _ _ ⟨(blk_cell BK113.out 0).trans rfl, (blk_cell BK113.out 1).trans rfl⟩ (fun hHeld => ?_)
  clear hK K
  refine norm_ (a' := ?_) ?_ ?_
  rotate_left
  ·show Act.put _ (some 20) _ = _
   simp only [Act.put, List.setIfInBounds_toArray, List.set_cons_zero, List.set_cons_succ, i64_w, i32_w]
   rfl
  refine one_ (i := 9) (N := some 25) #[true, true, true, true, true, true, true, true, true, true, false, false] rfl rfl (one_of HT_.out (by kernel_rfl)) (by decide) (fun K hK => ?_)
  refine goes_ Try.func63 (by kernel_rfl) rfl #[.agg #[.int .i64 a0_0, .string a0_1], .int .i64 a1, .int .i64 a4, .int .i64 a5] (by rfl) rfl rfl zM ?_
  with_reducible refine (spec_l3At.calls k a0_0 a0_1 a1 a4 a5 t115 _ A8.out).mono ?_
  rintro e w27 ⟨rfl, hb⟩
  refine ⟨_, rfl, ?_⟩
  have n0_ := Aside0.mk (blk_below (g := gb113) (o := .cells #[.int .i64 a0_0, .string a0_1] 26 (0, 0)) (zK BK113.out) hb)
  have n1_ := Aside0.mk (below_step (zG GE113.out) hb)
  clear BK113
  clear HB
  have BK113 := n0_
  have HB := n1_
  clear n0_ n1_
  (try clear hb)
  (try clear hb2)
  (try clear hk)
  (try clear hi)
  refine hK.out _ _ ⟨(blk_cell BK113.out 0).trans rfl, (blk_cell BK113.out 1).trans rfl⟩ (fun hHeld => ?_)
  clear hK K
  refine norm_ (a' := ?_) ?_ ?_
  rotate_left
  ·show Act.put _ (some 25) _ = _
   simp only [Act.put, List.setIfInBounds_toArray, List.set_cons_zero, List.set_cons_succ, i64_w, i32_w]
   rfl
  refine zP 10 (some 26) rfl rfl ?_
  refine zP 11 (some 13) rfl rfl ?_
  refine done_ (done_of HT_.out (by kernel_rfl)) ?_
  try go_wp2
  have n0_ := Aside0.mk (blk_drew BK113.out)
  have n1_ := Aside0.mk (below_drew1 HB.out)
  clear BK113
  clear HB
  have BK113 := n0_
  have HB := n1_
  clear n0_ n1_
  refine start_ (n := 12) (S := fun w' => w'.cell? ⟨gb113, 0, none⟩ = some (.int .i64 a0_0) ∧ w'.cell? ⟨gb113, 1, none⟩ = some (.string a0_1)) (ds := []) #[false, false, false, false, false, false, false, false, false, false, false, false] (by kernel_rfl) rfl rfl ⟨(blk_cell BK113.out 0).trans rfl, (blk_cell BK113.out 1).trans rfl⟩ (fun hHeld => ?_); refine with_tabW spec_l4Breaks.tab2 spec_l4Breaks.bits2 (fun HT_ HW_ => ?_)
  generalize w27.drew = w28 at BK113 HB hHeld ⊢
  refine zP 1 (some 28) rfl rfl ?_
  refine zP 2 (some 29) rfl rfl ?_
  refine zP 3 (some 30) rfl rfl ?_
  refine zP 6 (some 33) rfl rfl ?_
  refine zP 7 (some 34) rfl rfl ?_
  refine zP 8 (some 35) rfl rfl ?_
  refine take_ (i := 0) (N := some 27) (v := ?_) (a' := ?_) #[true, true, true, true, false, false, true, true, true, false, false, false] rfl rfl (take_ofW HT_.out HW_.out (by kernel_rfl)) (fun _ _ _ h => h) (Or.inl ⟨by rfl, ?_⟩) hHeld ?_ ?_
  rotate_left
  ·rintro w' ⟨s0, s1⟩
   go_simp
   with_reducible rfl
  rotate_left
  ·simp only [Act.put, List.setIfInBounds_toArray, List.set_cons_zero, List.set_cons_succ, i64_w, i32_w]
   rfl
  refine take_ (i := 5) (N := some 32) (v := ?_) (a' := ?_) #[true, true, true, true, false, true, true, true, true, false, false, false] rfl rfl (take_ofW HT_.out HW_.out (by kernel_rfl)) (fun _ _ _ h => h) (Or.inl ⟨by rfl, ?_⟩) hHeld ?_ ?_
  rotate_left
  ·rintro w' ⟨s0, s1⟩
   go_simp
   with_reducible rfl
  rotate_left
  ·simp only [Act.put, List.setIfInBounds_toArray, List.set_cons_zero, List.set_cons_succ, i64_w, i32_w]
   rfl
  refine one_ (i := 4) (N := some 31) #[true, true, true, true, true, true, true, true, true, false, false, false] rfl rfl (one_of HT_.out (by kernel_rfl)) (by decide) (fun K hK => ?_)
  refine goes_ Try.func63 (by kernel_rfl) rfl #[.agg #[.int .i64 a0_0, .string a0_1], .int .i64 a1, .int .i64 a2, .int .i64 a5] (by rfl) rfl rfl zM ?_
  with_reducible refine (spec_l3At.calls k a0_0 a0_1 a1 a2 a5 t116 _ A9.out).mono ?_
  rintro e w29 ⟨rfl, hb⟩
  refine ⟨_, rfl, ?_⟩
  have n0_ := Aside0.mk (blk_below (g := gb113) (o := .cells #[.int .i64 a0_0, .string a0_1] 26 (0, 0)) (zK BK113.out) hb)
  have n1_ := Aside0.mk (below_step (zG GE113.out) hb)
  clear BK113
  clear HB
  have BK113 := n0_
  have HB := n1_
  clear n0_ n1_
  (try clear hb)
  (try clear hb2)
  (try clear hk)
  (try clear hi)
  refine hK.out _ _ ⟨(blk_cell BK113.out 0).trans rfl, (blk_cell BK113.out 1).trans rfl⟩ (fun hHeld => ?_)
  clear hK K
  refine norm_ (a' := ?_) ?_ ?_
  rotate_left
  ·show Act.put _ (some 31) _ = _
   simp only [Act.put, List.setIfInBounds_toArray, List.set_cons_zero, List.set_cons_succ, i64_w, i32_w]
   rfl
  refine one_ (i := 9) (N := some 36) #[true, true, true, true, true, true, true, true, true, true, false, false] rfl rfl (one_of HT_.out (by kernel_rfl)) (by decide) (fun K hK => ?_)
  refine goes_ Try.func63 (by kernel_rfl) rfl #[.agg #[.int .i64 a0_0, .string a0_1], .int .i64 a1, .int .i64 a3, .int .i64 a4] (by rfl) rfl rfl zM ?_
  with_reducible refine (spec_l3At.calls k a0_0 a0_1 a1 a3 a4 t117 _ A10.out).mono ?_
  rintro e w30 ⟨rfl, hb⟩
  refine ⟨_, rfl, ?_⟩
  have n0_ := Aside0.mk (blk_below (g := gb113) (o := .cells #[.int .i64 a0_0, .string a0_1] 26 (0, 0)) (zK BK113.out) hb)
  have n1_ := Aside0.mk (below_step (zG GE113.out) hb)
  clear BK113
  clear HB
  have BK113 := n0_
  have HB := n1_
  clear n0_ n1_
  (try clear hb)
  (try clear hb2)
  (try clear hk)
  (try clear hi)
  refine hK.out _ _ ⟨(blk_cell BK113.out 0).trans rfl, (blk_cell BK113.out 1).trans rfl⟩ (fun hHeld => ?_)
  clear hK K
  refine norm_ (a' := ?_) ?_ ?_
  rotate_left
  ·show Act.put _ (some 36) _ = _
   simp only [Act.put, List.setIfInBounds_toArray, List.set_cons_zero, List.set_cons_succ, i64_w, i32_w]
   rfl
  refine zP 10 (some 37) rfl rfl ?_
  refine zP 11 (some 14) rfl rfl ?_
  refine done_ (done_of HT_.out (by kernel_rfl)) ?_
  try go_wp2
  have n0_ := Aside0.mk (blk_drew BK113.out)
  have n1_ := Aside0.mk (below_drew1 HB.out)
  clear BK113
  clear HB
  have BK113 := n0_
  have HB := n1_
  clear n0_ n1_
  refine start_ (n := 13) (S := fun w' => w'.cell? ⟨gb113, 0, none⟩ = some (.int .i64 a0_0) ∧ w'.cell? ⟨gb113, 1, none⟩ = some (.string a0_1)) (ds := []) #[false, false, false, false, false, false, false, false, false, false, false, false, false] (by kernel_rfl) rfl rfl ⟨(blk_cell BK113.out 0).trans rfl, (blk_cell BK113.out 1).trans rfl⟩ (fun hHeld => ?_); refine with_tabW spec_l4Breaks.tab3 spec_l4Breaks.bits3 (fun HT_ HW_ => ?_)
  generalize w30.drew = w31 at BK113 HB hHeld ⊢
  refine zP 1 (some 39) rfl rfl ?_
  refine zP 2 (some 40) rfl rfl ?_
  refine zP 3 (some 41) rfl rfl ?_
  refine zP 7 (some 45) rfl rfl ?_
  refine zP 8 (some 46) rfl rfl ?_
  refine zP 9 (some 47) rfl rfl ?_
  refine take_ (i := 0) (N := some 38) (v := ?_) (a' := ?_) #[true, true, true, true, false, false, false, true, true, true, false, false, false] rfl rfl (take_ofW HT_.out HW_.out (by kernel_rfl)) (fun _ _ _ h => h) (Or.inl ⟨by rfl, ?_⟩) hHeld ?_ ?_
  rotate_left
  ·rintro w' ⟨s0, s1⟩
   go_simp
   with_reducible rfl
  rotate_left
  ·simp only [Act.put, List.setIfInBounds_toArray, List.set_cons_zero, List.set_cons_succ, i64_w, i32_w]
   rfl
  refine take_ (i := 6) (N := some 44) (v := ?_) (a' := ?_) #[true, true, true, true, false, false, true, true, true, true, false, false, false] rfl rfl (take_ofW HT_.out HW_.out (by kernel_rfl)) (fun _ _ _ h => h) (Or.inl ⟨by rfl, ?_⟩) hHeld ?_ ?_
  rotate_left
  ·rintro w' ⟨s0, s1⟩
   go_simp
   with_reducible rfl
  rotate_left
  ·simp only [Act.put, List.setIfInBounds_toArray, List.set_cons_zero, List.set_cons_succ, i64_w, i32_w]
   rfl
  refine one_ (i := 4) (N := some 42) #[true, true, true, true, true, false, true, true, true, true, false, false, false] rfl rfl (one_of HT_.out (by kernel_rfl)) (by decide) (fun K hK => ?_)
  refine goes_ Try.func63 (by kernel_rfl) rfl #[.agg #[.int .i64 a0_0, .string a0_1], .int .i64 a1, .int .i64 a2, .int .i64 a4] (by rfl) rfl rfl zM ?_
  with_reducible refine (spec_l3At.calls k a0_0 a0_1 a1 a2 a4 t118 _ A11.out).mono ?_
  rintro e w32 ⟨rfl, hb⟩
  refine ⟨_, rfl, ?_⟩
  have n0_ := Aside0.mk (blk_below (g := gb113) (o := .cells #[.int .i64 a0_0, .string a0_1] 26 (0, 0)) (zK BK113.out) hb)
  have n1_ := Aside0.mk (below_step (zG GE113.out) hb)
  clear BK113
  clear HB
  have BK113 := n0_
  have HB := n1_
  clear n0_ n1_
  (try clear hb)
  (try clear hb2)
  (try clear hk)
  (try clear hi)
  refine hK.out _ _ ⟨(blk_cell BK113.out 0).trans rfl, (blk_cell BK113.out 1).trans rfl⟩ (fun hHeld => ?_)
  clear hK K
  refine norm_ (a' := ?_) ?_ ?_
  rotate_left
  ·show Act.put _ (some 42) _ = _
   simp only [Act.put, List.setIfInBounds_toArray, List.set_cons_zero, List.set_cons_succ, i64_w, i32_w]
   rfl
  refine zP 5 (some 43) rfl rfl ?_
  refine one_ (i := 10) (N := some 48) #[true, true, true, true, true, true, true, true, true, true, true, false, false] rfl rfl (one_of HT_.out (by kernel_rfl)) (by decide) (fun K hK => ?_)
  refine goes_ Try.func63 (by kernel_rfl) rfl #[.agg #[.int .i64 a0_0, .string a0_1], .int .i64 a1, .int .i64 a3, .int .i64 a5] (by rfl) rfl rfl zM ?_
  with_reducible refine (spec_l3At.calls k a0_0 a0_1 a1 a3 a5 t119 _ A12.out).mono ?_
  rintro e w33 ⟨rfl, hb⟩
  refine ⟨_, rfl, ?_⟩
  have n0_ := Aside0.mk (blk_below (g := gb113) (o := .cells #[.int .i64 a0_0, .string a0_1] 26 (0, 0)) (zK BK113.out) hb)
  have n1_ := Aside0.mk (below_step (zG GE113.out) hb)
  clear BK113
  clear HB
  have BK113 := n0_
  have HB := n1_
  clear n0_ n1_
  (try clear hb)
  (try clear hb2)
  (try clear hk)
  (try clear hi)
  refine hK.out _ _ ⟨(blk_cell BK113.out 0).trans rfl, (blk_cell BK113.out 1).trans rfl⟩ (fun hHeld => ?_)
  clear hK K
  refine norm_ (a' := ?_) ?_ ?_
  rotate_left
  ·show Act.put _ (some 48) _ = _
   simp only [Act.put, List.setIfInBounds_toArray, List.set_cons_zero, List.set_cons_succ, i64_w, i32_w]
   rfl
  refine zP 11 (some 49) rfl rfl ?_
  refine zP 12 (some 15) rfl rfl ?_
  refine done_ (done_of HT_.out (by kernel_rfl)) ?_
  try go_wp2
  go_ret
  exact ⟨zE, zG GE113.out⟩
/-! ### spec_FirstBreak: function 80 -/
mutual
def spec_FirstBreak.l0 : Nat → Int → Int → ByteArray → Option (List Int)
 | 0, _, _, _ => none
 | k + 1, x3, x121000, x121001 => if x3 < x121000 then ((spec_AreSigns.f k x121000 x121001).bind fun t121 => (spec_FirstBreak.j1 k x3 t121 x121000 x121001)) else (spec_FirstBreak.j1 k x3 false x121000 x121001)
def spec_FirstBreak.j1 : Nat → Int → Bool → Int → ByteArray → Option (List Int)
 | 0, _, _, _, _ => none
 | k + 1, x3, x16, x121000, x121001 => if x16 = true then ((spec_l3Others.f k x121000 x3).bind fun t125 => (spec_FirstBreak.l1 k x3 t125 0 x121000 x121001)) else (some (([] : List Int)))
def spec_FirstBreak.l1 : Nat → Int → List Int → Int → Int → ByteArray → Option (List Int)
 | 0, _, _, _, _, _ => none
 | k + 1, x3, x4, x5, x121000, x121001 => if x5 < (x4.length : Int) then (spec_FirstBreak.l2 k x3 x4 x5 (wrap64 (x5 + 1)) x121000 x121001) else (spec_FirstBreak.l0 k (wrap64 (x3 + 1)) x121000 x121001)
def spec_FirstBreak.l2 : Nat → Int → List Int → Int → Int → Int → ByteArray → Option (List Int)
 | 0, _, _, _, _, _, _ => none
 | k + 1, x3, x4, x5, x6, x121000, x121001 => if x6 < (x4.length : Int) then (spec_FirstBreak.l3 k x3 x4 x5 x6 (wrap64 (x6 + 1)) x121000 x121001) else (spec_FirstBreak.l1 k x3 x4 (wrap64 (x5 + 1)) x121000 x121001)
def spec_FirstBreak.l3 : Nat → Int → List Int → Int → Int → Int → Int → ByteArray → Option (List Int)
 | 0, _, _, _, _, _, _, _ => none
 | k + 1, x3, x4, x5, x6, x7, x121000, x121001 => if x7 < (x4.length : Int) then (spec_FirstBreak.l4 k x3 x4 x5 x6 x7 (wrap64 (x7 + 1)) x121000 x121001) else (spec_FirstBreak.l2 k x3 x4 x5 (wrap64 (x6 + 1)) x121000 x121001)
def spec_FirstBreak.l4 : Nat → Int → List Int → Int → Int → Int → Int → Int → ByteArray → Option (List Int)
 | 0, _, _, _, _, _, _, _, _ => none
 | k + 1, x3, x4, x5, x6, x7, x8, x121000, x121001 => if x8 < (x4.length : Int) then (if 0 ≤ x5 then (if x5 < (x4.length : Int) then (if 0 ≤ x6 then (if x6 < (x4.length : Int) then (if 0 ≤ x7 then (if x7 < (x4.length : Int) then (if 0 ≤ x8 then ((spec_l4Breaks.f k x121000 x121001 x3 (rd x4 x5) (rd x4 x6) (rd x4 x7) (rd x4 x8)).bind fun t132 => (if t132 = true then (some (([x3, rd x4 x5, rd x4 x6, rd x4 x7, rd x4 x8] : List Int))) else (spec_FirstBreak.l4 k x3 x4 x5 x6 x7 (wrap64 (x8 + 1)) x121000 x121001))) else (none)) else (none)) else (none)) else (none)) else (none)) else (none)) else (none)) else (spec_FirstBreak.l3 k x3 x4 x5 x6 (wrap64 (x7 + 1)) x121000 x121001)
end
def spec_FirstBreak.f (k : Nat) (a0_0 : Int) (a0_1 : ByteArray) : Option (List Int) := spec_FirstBreak.l0 k 0 a0_0 a0_1
theorem spec_FirstBreak.mono_l : ∀ k, (∀ y0 y1 y2, LeO (spec_FirstBreak.l0 k y0 y1 y2) (spec_FirstBreak.l0 (k + 1) y0 y1 y2)) ∧ (∀ y0 y1 y2 y3, LeO (spec_FirstBreak.j1 k y0 y1 y2 y3) (spec_FirstBreak.j1 (k + 1) y0 y1 y2 y3)) ∧ (∀ y0 y1 y2 y3 y4, LeO (spec_FirstBreak.l1 k y0 y1 y2 y3 y4) (spec_FirstBreak.l1 (k + 1) y0 y1 y2 y3 y4)) ∧ (∀ y0 y1 y2 y3 y4 y5, LeO (spec_FirstBreak.l2 k y0 y1 y2 y3 y4 y5) (spec_FirstBreak.l2 (k + 1) y0 y1 y2 y3 y4 y5)) ∧ (∀ y0 y1 y2 y3 y4 y5 y6, LeO (spec_FirstBreak.l3 k y0 y1 y2 y3 y4 y5 y6) (spec_FirstBreak.l3 (k + 1) y0 y1 y2 y3 y4 y5 y6)) ∧ (∀ y0 y1 y2 y3 y4 y5 y6 y7, LeO (spec_FirstBreak.l4 k y0 y1 y2 y3 y4 y5 y6 y7) (spec_FirstBreak.l4 (k + 1) y0 y1 y2 y3 y4 y5 y6 y7))
 | 0 => ⟨fun _ _ _ r h => by simp [spec_FirstBreak.l0] at h, fun _ _ _ _ r h => by simp [spec_FirstBreak.j1] at h, fun _ _ _ _ _ r h => by simp [spec_FirstBreak.l1] at h, fun _ _ _ _ _ _ r h => by simp [spec_FirstBreak.l2] at h, fun _ _ _ _ _ _ _ r h => by simp [spec_FirstBreak.l3] at h, fun _ _ _ _ _ _ _ _ r h => by simp [spec_FirstBreak.l4] at h⟩
 | k + 1 => by
  obtain ⟨ih0, ih1, ih2, ih3, ih4, ih5⟩ := spec_FirstBreak.mono_l k
  refine ⟨?_, ?_, ?_, ?_, ?_, ?_⟩ <;> intros <;> (first | unfold spec_FirstBreak.l0 | unfold spec_FirstBreak.j1 | unfold spec_FirstBreak.l1 | unfold spec_FirstBreak.l2 | unfold spec_FirstBreak.l3 | unfold spec_FirstBreak.l4) <;> repeat' first
  | (with_reducible exact ih0 _ _ _)
  | (with_reducible exact ih1 _ _ _ _)
  | (with_reducible exact ih2 _ _ _ _ _)
  | (with_reducible exact ih3 _ _ _ _ _ _)
  | (with_reducible exact ih4 _ _ _ _ _ _ _)
  | (with_reducible exact ih5 _ _ _ _ _ _ _ _)
  | (with_reducible exact spec_AreSigns.mono _ _ _)
  | (with_reducible exact spec_l3Others.mono _ _ _)
  | (with_reducible exact spec_l4Breaks.mono _ _ _ _ _ _ _ _)
  | (with_reducible exact LeO.refl _)
  | (with_reducible exact LeO.none _)
  | (with_reducible refine LeO.ite ?_ ?_)
  | (with_reducible refine LeO.bind ?_ (fun _ => ?_))
  | exact ih0 _ _ _
  | exact ih1 _ _ _ _
  | exact ih2 _ _ _ _ _
  | exact ih3 _ _ _ _ _ _
  | exact ih4 _ _ _ _ _ _ _
  | exact ih5 _ _ _ _ _ _ _ _
  | exact spec_AreSigns.mono _ _ _
  | exact spec_l3Others.mono _ _ _
  | exact spec_l4Breaks.mono _ _ _ _ _ _ _ _
  | exact LeO.none _
  | refine LeO.ite ?_ ?_
  | refine LeO.bind ?_ (fun _ => ?_)
theorem spec_FirstBreak.mono : ∀ a0 a1 k, LeO (spec_FirstBreak.f k a0 a1) (spec_FirstBreak.f (k + 1) a0 a1) := by
 intro a0 a1 k
 obtain ⟨ih0, ih1, ih2, ih3, ih4, ih5⟩ := spec_FirstBreak.mono_l k
 unfold spec_FirstBreak.f
 repeat' first
   | (with_reducible exact ih0 _ _ _)
   | (with_reducible exact ih1 _ _ _ _)
   | (with_reducible exact ih2 _ _ _ _ _)
   | (with_reducible exact ih3 _ _ _ _ _ _)
   | (with_reducible exact ih4 _ _ _ _ _ _ _)
   | (with_reducible exact ih5 _ _ _ _ _ _ _ _)
   | (with_reducible exact spec_AreSigns.mono _ _ _)
   | (with_reducible exact spec_l3Others.mono _ _ _)
   | (with_reducible exact spec_l4Breaks.mono _ _ _ _ _ _ _ _)
   | (with_reducible exact LeO.refl _)
   | (with_reducible exact LeO.none _)
   | (with_reducible refine LeO.ite ?_ ?_)
   | (with_reducible refine LeO.bind ?_ (fun _ => ?_))
   | exact ih0 _ _ _
   | exact ih1 _ _ _ _
   | exact ih2 _ _ _ _ _
   | exact ih3 _ _ _ _ _ _
   | exact ih4 _ _ _ _ _ _ _
   | exact ih5 _ _ _ _ _ _ _ _
   | exact spec_AreSigns.mono _ _ _
   | exact spec_l3Others.mono _ _ _
   | exact spec_l4Breaks.mono _ _ _ _ _ _ _ _
   | exact LeO.none _
   | refine LeO.ite ?_ ?_
   | refine LeO.bind ?_ (fun _ => ?_)
def spec_FirstBreak.T17 : Bool × List (List Nat × List Nat) := (true, [([], []), ([], []), ([], []), ([], []), ([2, 3], [2, 3]), ([4], [4]), ([], []), ([], []), ([6, 7], [6, 7]), ([8], [8]), ([], []), ([], []), ([10, 11], [10, 11]), ([12], [12]), ([], []), ([], []), ([14, 15], [14, 15]), ([16], [16]), ([0, 1, 5, 9, 13, 17], [0, 1, 5, 9, 13, 17])])
def spec_FirstBreak.B17 : List Nat := [0, 0, 0, 0, 12, 28, 0, 0, 192, 448, 0, 0, 3072, 7168, 0, 0, 49152, 114688, 262143]
theorem spec_FirstBreak.tab17 : rtab .any (opsOf Try.f80 17) = spec_FirstBreak.T17 := by kernel_rfl
theorem spec_FirstBreak.bits17 : waitsOk spec_FirstBreak.T17.2 spec_FirstBreak.B17 = true := by kernel_rfl
def spec_FirstBreak.T18 : Bool × List (List Nat × List Nat) := (true, [([], []), ([], []), ([], []), ([1, 2], [1, 2]), ([3], [3]), ([], []), ([], []), ([5, 6], [5, 6]), ([7], [7]), ([], []), ([], []), ([9, 10], [9, 10]), ([11], [11]), ([], []), ([], []), ([13, 14], [13, 14]), ([15], [15]), ([0, 4, 8, 12, 16], [0, 4, 8, 12, 16]), ([17, 0, 1, 2, 3, 4, 5, 6, 7, 8, 9, 10, 11, 12, 13, 14, 15, 16, 17], [17])])
def spec_FirstBreak.B18 : List Nat := [0, 0, 0, 6, 14, 0, 0, 96, 224, 0, 0, 1536, 3584, 0, 0, 24576, 57344, 131071, 262143]
theorem spec_FirstBreak.tab18 : rtab .any (opsOf Try.f80 18) = spec_FirstBreak.T18 := by kernel_rfl
theorem spec_FirstBreak.bits18 : waitsOk spec_FirstBreak.T18.2 spec_FirstBreak.B18 = true := by kernel_rfl
set_option maxHeartbeats 8000000 in
set_option maxRecDepth 100000 in
theorem spec_FirstBreak.calls (k : Nat) (a0_0 : Int) (a0_1 : ByteArray) (r : List Int) (w : World) (h : spec_FirstBreak.f k a0_0 a0_1 = some r) :
  Calls Try.prog 80 #[.agg #[.int .i64 a0_0, .string a0_1]] w fun e w' => ∃ v0_ : Value, e = .returned (v0_) ∧ Kd.R (Kd.int .i64) 3 w' w.heap.size (fun _ => True) v0_ r ∧ Below w.heap.size w w' := by
 have hu26 := Try.underlying26
 have HB := Aside0.mk (Below.refl w.heap.size w)
 have H : (spec_FirstBreak.l0 k 0 a0_0 a0_1) = some r := h
 clear h
 have H' := Aside0.mk H
 clear H
 go_enter Try.func80, Try.ntmps80
 go_wp2_with (first | ((with_reducible refine gate_dst (N := 1) rfl ?_); refine box_event ?hg (N := 1) ?hd (cs := #[.int .i64 a0_0, .string a0_1]) (t := 26) ?hr ?_; (case hd => rfl); (case hg => rfl); (case hr => first | (go_simp; done) | (go_simp; rfl)); intro gb120 hg w2 hbox hb; have BK120 := Aside0.mk (hbox); have GW120 := Aside0.mk ((by rw [hg]; exact (below_size zB) : w.heap.size ≤ gb120)); have GE120 := Aside0.mk ((by rw [hg]; exact (below_size zB) : w.heap.size ≤ gb120)); replace HB := Aside0.mk (below_step zB hb); clear hb hbox hg))
 go_loopg [3] k (fun kq v3 w' => ∃ (x3_1 : Int), v3 = .int .i64 x3_1 ∧ Aside0 (spec_FirstBreak.l0 kq x3_1 a0_0 a0_1 = some r) ∧ Aside0 (kq ≤ k) ∧ Aside0 (w'.heap[gb120]? = some (.cells #[.int .i64 a0_0, .string a0_1] 26 (0, 0))) ∧ Aside0 (Below w.heap.size w w'))
 case atStart => exact ⟨(0), zF, H', ⟨Nat.le_refl _⟩, ⟨zK BK120.out⟩, ⟨zG GE120.out⟩⟩
 case round =>
  clear H'
  try clear p2
  obtain ⟨x3_1, rfl, HA, HK1, BK120, HB⟩ := hrel
  cases gk with
  | zero => exact absurd HA.out (by simp [spec_FirstBreak.l0])
  | succ k1 =>
   have H := HA.out
   clear HA
   simp only [spec_FirstBreak.l0] at H
   have HC3 := Aside0.mk H
   clear H
   go_upto_region 2 with (fail)
   go_cut [16] (fun v16 wc => ∃ (kq : Nat) (x16_2 : Bool), v16 = .bool x16_2 ∧ Aside0 (spec_FirstBreak.j1 kq x3_1 x16_2 a0_0 a0_1 = some r) ∧ Aside0 (kq ≤ k1) ∧ Aside0 (wc.heap[gb120]? = some (.cells #[.int .i64 a0_0, .string a0_1] 26 (0, 0))) ∧ Aside0 (Below w.heap.size w wc))
   case first =>
    have H := HC3.out
    clear HC3
    by_cases c4 : x3_1 < a0_0
    ·rw [if_pos c4] at H
     have c4b0 : decide (x3_1 < a0_0) = true := decide_eq_true c4
     clear c4
     (first | rw [c4b0] | (simp only [i64_w, i32_w]; rw [c4b0]) | skip)
     replace H := Option.bind_eq_some_iff.mp H
     obtain ⟨t121, A50, H⟩ := H
     replace H : (spec_FirstBreak.j1 k1 x3_1 t121 a0_0 a0_1) = some r := H
     have A5 := Aside0.mk A50
     clear A50
     have H' := Aside0.mk H
     clear H
     have hcz6_0 : wr.cell? ⟨gb120, 0, none⟩ = some (.int .i64 a0_0) := (blk_cell BK120.out 0).trans rfl
     have hcz6_1 : wr.cell? ⟨gb120, 1, none⟩ = some (.string a0_1) := (blk_cell BK120.out 1).trans rfl
     have hfz6_0 := blk_frozen BK120.out 0
     have hfz6_1 := blk_frozen BK120.out 1
     go_wp2_with (first | (go_at_call 79; (with_reducible refine (spec_AreSigns.calls k1 a0_0 a0_1 t121 _ A5.out).mono ?_); rintro e w7 ⟨rfl, hb⟩; replace BK120 := Aside0.mk (blk_below (g := gb120) (o := .cells #[.int .i64 a0_0, .string a0_1] 26 (0, 0)) (zK BK120.out) hb); replace HB := Aside0.mk (below_step (zG GE120.out) hb); (try clear hb); (try clear hb2); (try clear hk); (try clear hi)))
     go_meet
     case rel => exact ⟨_, (t121), zF, H', ⟨by have := HK1.out; first | omega | exact Nat.le_refl _⟩, ⟨zK BK120.out⟩, ⟨zG GE120.out⟩⟩
    ·rw [if_neg c4] at H
     have c4b0 : decide (x3_1 < a0_0) = false := decide_eq_false c4
     clear c4
     (first | rw [c4b0] | (simp only [i64_w, i32_w]; rw [c4b0]) | skip)
     have H' := Aside0.mk H
     clear H
     have hcz8_0 : wr.cell? ⟨gb120, 0, none⟩ = some (.int .i64 a0_0) := (blk_cell BK120.out 0).trans rfl
     have hcz8_1 : wr.cell? ⟨gb120, 1, none⟩ = some (.string a0_1) := (blk_cell BK120.out 1).trans rfl
     have hfz8_0 := blk_frozen BK120.out 0
     have hfz8_1 := blk_frozen BK120.out 1
     go_wp2
     go_meet
     case rel => exact ⟨_, (false), zF, H', ⟨by have := HK1.out; first | omega | exact Nat.le_refl _⟩, ⟨zK BK120.out⟩, ⟨zG GE120.out⟩⟩
   case rest =>
    clear HC3
    try clear p2
    try clear c4
    try clear c4b0
    try clear c8
    try clear hcz6_0
    try clear hcz6_1
    try clear hcz8_0
    try clear hcz8_1
    try clear hfz6_0
    try clear hfz6_1
    try clear hfz8_0
    try clear hfz8_1
    try clear p2
    obtain ⟨kq, x16_2, rfl, HA, HJ2, BK120, HB⟩ := hcut
    cases kq with
    | zero => exact absurd HA.out (by simp [spec_FirstBreak.j1])
    | succ kj2 =>
     have H := HA.out
     clear HA
     simp only [spec_FirstBreak.j1] at H
     by_cases c9 : x16_2 = true
     ·subst c9
      have H1 : ((spec_l3Others.f kj2 a0_0 x3_1).bind fun t125 => (spec_FirstBreak.l1 kj2 x3_1 t125 0 a0_0 a0_1)) = some r := by rw [if_pos rfl] at H; exact H
      clear H
      have H := H1
      clear H1
      replace H := Option.bind_eq_some_iff.mp H
      obtain ⟨t125, A100, H⟩ := H
      replace H : (spec_FirstBreak.l1 kj2 x3_1 t125 0 a0_0 a0_1) = some r := H
      have A10 := Aside0.mk A100
      clear A100
      have H' := Aside0.mk H
      clear H
      have hcz11_0 : wc.cell? ⟨gb120, 0, none⟩ = some (.int .i64 a0_0) := (blk_cell BK120.out 0).trans rfl
      have hcz11_1 : wc.cell? ⟨gb120, 1, none⟩ = some (.string a0_1) := (blk_cell BK120.out 1).trans rfl
      have hfz11_0 := blk_frozen BK120.out 0
      have hfz11_1 := blk_frozen BK120.out 1
      go_wp2_with (first | ((with_reducible refine gate_callee (f := 91) rfl ?_); refine goesL_ (some 22) rfl rfl Try.func91 (by kernel_rfl) rfl #[.int .i64 a0_0, .int .i64 x3_1] rfl zM ?_; (with_reducible refine (spec_l3Others.calls kj2 a0_0 x3_1 t125 _ A10.out).mono ?_); rintro e w12 ⟨v126, rfl, ho0, hb⟩; refine ⟨_, rfl, ?_⟩; have HO127 := Aside0.mk (Kd.R_lower ho0 (below_size (zG GE120.out))); replace BK120 := Aside0.mk (blk_below (g := gb120) (o := .cells #[.int .i64 a0_0, .string a0_1] 26 (0, 0)) (zK BK120.out) hb); replace HB := Aside0.mk (below_step (zG GE120.out) hb); (try clear hb); (try clear ho0)))
      go_loopg [5] kj2 (fun kq v5 w' => ∃ (x5_3 : Int), v5 = .int .i64 x5_3 ∧ Aside0 (spec_FirstBreak.l1 kq x3_1 t125 x5_3 a0_0 a0_1 = some r) ∧ Aside0 (kq ≤ kj2) ∧ Aside0 (Kd.R (Kd.int .i64) 3 w' w.heap.size (fun _ => True) v126 t125) ∧ Aside0 (w'.heap[gb120]? = some (.cells #[.int .i64 a0_0, .string a0_1] 26 (0, 0))) ∧ Aside0 (Below w.heap.size w w'))
      case atStart => exact ⟨(0), zF, H', ⟨Nat.le_refl _⟩, ⟨zR HO127.out⟩, ⟨zK BK120.out⟩, ⟨zG GE120.out⟩⟩
      case round =>
       clear H'
       try clear p2
       try clear c4
       try clear c4b0
       try clear c8
       try clear c9
       try clear hcz11_0
       try clear hcz11_1
       try clear hcz6_0
       try clear hcz6_1
       try clear hcz8_0
       try clear hcz8_1
       try clear hfz11_0
       try clear hfz11_1
       try clear hfz6_0
       try clear hfz6_1
       try clear hfz8_0
       try clear hfz8_1
       try clear p2
       obtain ⟨x5_3, rfl, HA, HK3, HO_4, BK120, HB⟩ := hrel
       cases gk with
       | zero => exact absurd HA.out (by simp [spec_FirstBreak.l1])
       | succ k3 =>
        have H := HA.out
        clear HA
        simp only [spec_FirstBreak.l1] at H
        by_cases c13 : x5_3 < (t125.length : Int)
        ·rw [if_pos c13] at H
         have c13b0 : decide (x5_3 < (t125.length : Int)) = true := decide_eq_true c13
         clear c13
         have H' := Aside0.mk H
         clear H
         obtain ⟨Ao14, co14, eo14⟩ := Kd.R_slice HO_4.out
         subst eo14
         go_wp2
         go_loopg [6] k3 (fun kq v6 w' => ∃ (x6_4 : Int), v6 = .int .i64 x6_4 ∧ Aside0 (spec_FirstBreak.l2 kq x3_1 t125 x5_3 x6_4 a0_0 a0_1 = some r) ∧ Aside0 (kq ≤ k3) ∧ Aside0 (Kd.R (Kd.int .i64) 3 w' w.heap.size (fun _ => True) (.slice Ao14 t125.length co14) t125) ∧ Aside0 (w'.heap[gb120]? = some (.cells #[.int .i64 a0_0, .string a0_1] 26 (0, 0))) ∧ Aside0 (Below w.heap.size w w'))
         case atStart => exact ⟨(wrap64 (x5_3 + 1)), zF, H', ⟨Nat.le_refl _⟩, ⟨zR HO_4.out⟩, ⟨zK BK120.out⟩, ⟨zG GE120.out⟩⟩
         case round =>
          clear H'
          try clear c1
          try clear p2
          try clear c4
          try clear c4b0
          try clear p6
          try clear c8
          try clear c9
          try clear c13
          try clear c13b0
          try clear hcz11_0
          try clear hcz11_1
          try clear hcz6_0
          try clear hcz6_1
          try clear hcz8_0
          try clear hcz8_1
          try clear hfz11_0
          try clear hfz11_1
          try clear hfz6_0
          try clear hfz6_1
          try clear hfz8_0
          try clear hfz8_1
          try clear p2
          obtain ⟨x6_4, rfl, HA, HK4, HO_4, BK120, HB⟩ := hrel
          cases gk with
          | zero => exact absurd HA.out (by simp [spec_FirstBreak.l2])
          | succ k4 =>
           have H := HA.out
           clear HA
           simp only [spec_FirstBreak.l2] at H
           by_cases c15 : x6_4 < (t125.length : Int)
           ·rw [if_pos c15] at H
            have c15b0 : decide (x6_4 < (t125.length : Int)) = true := decide_eq_true c15
            clear c15
            have H' := Aside0.mk H
            clear H
            go_wp2
            go_loopg [7] k4 (fun kq v7 w' => ∃ (x7_5 : Int), v7 = .int .i64 x7_5 ∧ Aside0 (spec_FirstBreak.l3 kq x3_1 t125 x5_3 x6_4 x7_5 a0_0 a0_1 = some r) ∧ Aside0 (kq ≤ k4) ∧ Aside0 (Kd.R (Kd.int .i64) 3 w' w.heap.size (fun _ => True) (.slice Ao14 t125.length co14) t125) ∧ Aside0 (w'.heap[gb120]? = some (.cells #[.int .i64 a0_0, .string a0_1] 26 (0, 0))) ∧ Aside0 (Below w.heap.size w w'))
            case atStart => exact ⟨(wrap64 (x6_4 + 1)), zF, H', ⟨Nat.le_refl _⟩, ⟨zR HO_4.out⟩, ⟨zK BK120.out⟩, ⟨zG GE120.out⟩⟩
            case round =>
             clear H'
             try clear c1
             try clear p2
             try clear c4
             try clear c4b0
             try clear p6
             try clear c8
             try clear c9
             try clear c13
             try clear c13b0
             try clear c15
             try clear c15b0
             try clear hcz11_0
             try clear hcz11_1
             try clear hcz6_0
             try clear hcz6_1
             try clear hcz8_0
             try clear hcz8_1
             try clear hfz11_0
             try clear hfz11_1
             try clear hfz6_0
             try clear hfz6_1
             try clear hfz8_0
             try clear hfz8_1
             try clear p2
             try clear p6
             obtain ⟨x7_5, rfl, HA, HK5, HO_4, BK120, HB⟩ := hrel
             cases gk with
             | zero => exact absurd HA.out (by simp [spec_FirstBreak.l3])
             | succ k5 =>
              have H := HA.out
              clear HA
              simp only [spec_FirstBreak.l3] at H
              by_cases c16 : x7_5 < (t125.length : Int)
              ·rw [if_pos c16] at H
               have c16b0 : decide (x7_5 < (t125.length : Int)) = true := decide_eq_true c16
               clear c16
               have H' := Aside0.mk H
               clear H
               go_wp2
               go_loopg [8] k5 (fun kq v8 w' => ∃ (x8_6 : Int), v8 = .int .i64 x8_6 ∧ Aside0 (spec_FirstBreak.l4 kq x3_1 t125 x5_3 x6_4 x7_5 x8_6 a0_0 a0_1 = some r) ∧ Aside0 (kq ≤ k5) ∧ Aside0 (Kd.R (Kd.int .i64) 3 w' w.heap.size (fun _ => True) (.slice Ao14 t125.length co14) t125) ∧ Aside0 (w'.heap[gb120]? = some (.cells #[.int .i64 a0_0, .string a0_1] 26 (0, 0))) ∧ Aside0 (Below w.heap.size w w'))
               case atStart => exact ⟨(wrap64 (x7_5 + 1)), zF, H', ⟨Nat.le_refl _⟩, ⟨zR HO_4.out⟩, ⟨zK BK120.out⟩, ⟨zG GE120.out⟩⟩
               case round =>
                clear H'
                try clear c1
                try clear p2
                try clear c4
                try clear c4b0
                try clear p6
                try clear c8
                try clear c9
                try clear c13
                try clear c13b0
                try clear c15
                try clear c15b0
                try clear c16
                try clear c16b0
                try clear hcz11_0
                try clear hcz11_1
                try clear hcz6_0
                try clear hcz6_1
                try clear hcz8_0
                try clear hcz8_1
                try clear hfz11_0
                try clear hfz11_1
                try clear hfz6_0
                try clear hfz6_1
                try clear hfz8_0
                try clear hfz8_1
                try clear p2
                try clear p6
                obtain ⟨x8_6, rfl, HA, HK6, HO_4, BK120, HB⟩ := hrel
                cases gk with
                | zero => exact absurd HA.out (by simp [spec_FirstBreak.l4])
                | succ k6 =>
                 have H := HA.out
                 clear HA
                 simp only [spec_FirstBreak.l4] at H
                 by_cases c17 : x8_6 < (t125.length : Int)
                 ·rw [if_pos c17] at H
                  have c17b0 : decide (x8_6 < (t125.length : Int)) = true := decide_eq_true c17
                  clear c17
                  by_cases c18 : 0 ≤ x5_3
                  ·rw [if_pos c18] at H
                   have c18b0 : decide (0 ≤ x5_3) = true := decide_eq_true c18
                   clear c18
                   by_cases c19 : x5_3 < (t125.length : Int)
                   ·rw [if_pos c19] at H
                    have c19b0 : decide (x5_3 < (t125.length : Int)) = true := decide_eq_true c19
                    clear c19
                    by_cases c20 : 0 ≤ x6_4
                    ·rw [if_pos c20] at H
                     have c20b0 : decide (0 ≤ x6_4) = true := decide_eq_true c20
                     clear c20
                     by_cases c21 : x6_4 < (t125.length : Int)
                     ·rw [if_pos c21] at H
                      have c21b0 : decide (x6_4 < (t125.length : Int)) = true := decide_eq_true c21
                      clear c21
                      by_cases c22 : 0 ≤ x7_5
                      ·rw [if_pos c22] at H
                       have c22b0 : decide (0 ≤ x7_5) = true := decide_eq_true c22
                       clear c22
                       by_cases c23 : x7_5 < (t125.length : Int)
                       ·rw [if_pos c23] at H
                        have c23b0 : decide (x7_5 < (t125.length : Int)) = true := decide_eq_true c23
                        clear c23
                        by_cases c24 : 0 ≤ x8_6
                        ·rw [if_pos c24] at H
                         have c24b0 : decide (0 ≤ x8_6) = true := decide_eq_true c24
                         clear c24
                         replace H := Option.bind_eq_some_iff.mp H
                         obtain ⟨t132, A250, H⟩ := H
                         replace H : (if t132 = true then (some (([x3_1, rd t125 x5_3, rd t125 x6_4, rd t125 x7_5, rd t125 x8_6] : List Int))) else (spec_FirstBreak.l4 k6 x3_1 t125 x5_3 x6_4 x7_5 (wrap64 (x8_6 + 1)) a0_0 a0_1)) = some r := H
                         have A25 := Aside0.mk A250
                         clear A250
                         by_cases c26 : t132 = true
                         ·subst c26
                          have H1 : (some (([x3_1, rd t125 x5_3, rd t125 x6_4, rd t125 x7_5, rd t125 x8_6] : List Int))) = some r := by rw [if_pos rfl] at H; exact H
                          clear H
                          have H := H1
                          clear H1
                          obtain ⟨y137, hy137⟩ : ∃ y_ : List Int, y_ = (([x3_1, rd t125 x5_3, rd t125 x6_4, rd t125 x7_5, rd t125 x8_6] : List Int)) := ⟨_, rfl⟩
                          replace H : (some y137) = some r := by first | (rw [hy137]; with_reducible exact H) | (have H2_ := (Option.bind_some _ _).symm.trans H; rw [hy137]; with_reducible exact H2_) | (have H2_ := (Option.bind_some _ _).symm.trans H; with_reducible exact H2_) | with_reducible exact H | (rw [hy137]; exact H) | exact H
                          have Ny137 := Aside0.mk hy137
                          clear hy137
                          obtain rfl := Option.some.inj H
                          try go_wp2
                          have n0_ := Aside0.mk (Kd.R_drew HO_4.out)
                          have n1_ := Aside0.mk (blk_drew BK120.out)
                          have n2_ := Aside0.mk (below_drew1 HB.out)
                          clear HO_4
                          clear BK120
                          clear HB
                          have HO_4 := n0_
                          have BK120 := n1_
                          have HB := n2_
                          clear n0_ n1_ n2_
                          have p128 : 0 ≤ (x5_3 : Int) := zA
                          have q128 : x5_3 < (t125.length : Int) := zA
                          obtain ⟨ad128, e128, hx128_0⟩ := Kd.at_int (Kd.R_reads' HO_4.out).2.2 x5_3 p128 q128
                          cases e128
                          replace p128 := eq_true p128
                          replace q128 := eq_true q128
                          have p129 : 0 ≤ (x6_4 : Int) := zA
                          have q129 : x6_4 < (t125.length : Int) := zA
                          obtain ⟨ad129, e129, hx129_0⟩ := Kd.at_int (Kd.R_reads' HO_4.out).2.2 x6_4 p129 q129
                          obtain rfl : ad128 = ad129 := (by injection e129)
                          replace p129 := eq_true p129
                          replace q129 := eq_true q129
                          have p130 : 0 ≤ (x7_5 : Int) := zA
                          have q130 : x7_5 < (t125.length : Int) := zA
                          obtain ⟨ad130, e130, hx130_0⟩ := Kd.at_int (Kd.R_reads' HO_4.out).2.2 x7_5 p130 q130
                          obtain rfl : ad128 = ad130 := (by injection e130)
                          replace p130 := eq_true p130
                          replace q130 := eq_true q130
                          have p131 : 0 ≤ (x8_6 : Int) := zA
                          have q131 : x8_6 < (t125.length : Int) := zA
                          obtain ⟨ad131, e131, hx131_0⟩ := Kd.at_int (Kd.R_reads' HO_4.out).2.2 x8_6 p131 q131
                          obtain rfl : ad128 = ad131 := (by injection e131)
                          replace p131 := eq_true p131
                          replace q131 := eq_true q131
                          refine start_ (n := 19) (S := fun w' => w'.cell? ⟨gb120, 0, none⟩ = some (.int .i64 a0_0) ∧ w'.cell? ⟨gb120, 1, none⟩ = some (.string a0_1) ∧ w'.cell? (ad128.add (x5_3).toNat) = some (.int .i64 (rd t125 x5_3)) ∧ w'.cell? (ad128.add (x6_4).toNat) = some (.int .i64 (rd t125 x6_4)) ∧ w'.cell? (ad128.add (x7_5).toNat) = some (.int .i64 (rd t125 x7_5)) ∧ w'.cell? (ad128.add (x8_6).toNat) = some (.int .i64 (rd t125 x8_6))) (ds := []) #[false, false, false, false, false, false, false, false, false, false, false, false, false, false, false, false, false, false, false] (by kernel_rfl) rfl rfl ⟨(blk_cell BK120.out 0).trans rfl, (blk_cell BK120.out 1).trans rfl, hx128_0, hx129_0, hx130_0, hx131_0⟩ (fun hHeld => ?_); refine with_tabW spec_FirstBreak.tab17 spec_FirstBreak.bits17 (fun HT_ HW_ => ?_)
                          generalize wr.drew = w27 at HO_4 BK120 HB hx128_0 hx129_0 hx130_0 hx131_0 hHeld ⊢
                          refine zP 1 (some 54) rfl rfl ?_
                          refine zP 2 (some 55) rfl rfl ?_
                          refine zP 3 (some 56) rfl rfl ?_
                          refine zP 4 (some 57) rfl rfl ?_
                          refine zP 6 (some 59) rfl rfl ?_
                          refine zP 7 (some 60) rfl rfl ?_
                          refine zP 8 (some 61) rfl rfl ?_
                          refine zP 10 (some 63) rfl rfl ?_
                          refine zP 11 (some 64) rfl rfl ?_
                          refine zP 12 (some 65) rfl rfl ?_
                          refine zP 14 (some 67) rfl rfl ?_
                          refine zP 15 (some 68) rfl rfl ?_
                          refine zP 16 (some 69) rfl rfl ?_
                          refine take_ (i := 0) (N := some 53) (v := ?_) (a' := ?_) #[true, true, true, true, true, false, true, true, true, false, true, true, true, false, true, true, true, false, false] rfl rfl (take_ofW HT_.out HW_.out (by kernel_rfl)) (fun _ _ _ h => h) (Or.inl ⟨by rfl, ?_⟩) hHeld ?_ ?_
                          rotate_left
                          ·rintro w' ⟨s0, s1, s2, s3, s4, s5⟩
                           go_simp
                           with_reducible rfl
                          rotate_left
                          ·simp only [Act.put, List.setIfInBounds_toArray, List.set_cons_zero, List.set_cons_succ, i64_w, i32_w]
                           rfl
                          refine take_ (i := 5) (N := some 58) (v := ?_) (a' := ?_) #[true, true, true, true, true, true, true, true, true, false, true, true, true, false, true, true, true, false, false] rfl rfl (take_ofW HT_.out HW_.out (by kernel_rfl)) (fun _ _ _ h => h) (Or.inl ⟨by rfl, ?_⟩) hHeld ?_ ?_
                          rotate_left
                          ·rintro w' ⟨s0, s1, s2, s3, s4, s5⟩
                           go_simp
                           with_reducible rfl
                          rotate_left
                          ·simp only [Act.put, List.setIfInBounds_toArray, List.set_cons_zero, List.set_cons_succ, i64_w, i32_w]
                           rfl
                          refine take_ (i := 9) (N := some 62) (v := ?_) (a' := ?_) #[true, true, true, true, true, true, true, true, true, true, true, true, true, false, true, true, true, false, false] rfl rfl (take_ofW HT_.out HW_.out (by kernel_rfl)) (fun _ _ _ h => h) (Or.inl ⟨by rfl, ?_⟩) hHeld ?_ ?_
                          rotate_left
                          ·rintro w' ⟨s0, s1, s2, s3, s4, s5⟩
                           go_simp
                           with_reducible rfl
                          rotate_left
                          ·simp only [Act.put, List.setIfInBounds_toArray, List.set_cons_zero, List.set_cons_succ, i64_w, i32_w]
                           rfl
                          refine take_ (i := 13) (N := some 66) (v := ?_) (a' := ?_) #[true, true, true, true, true, true, true, true, true, true, true, true, true, true, true, true, true, false, false] rfl rfl (take_ofW HT_.out HW_.out (by kernel_rfl)) (fun _ _ _ h => h) (Or.inl ⟨by rfl, ?_⟩) hHeld ?_ ?_
                          rotate_left
                          ·rintro w' ⟨s0, s1, s2, s3, s4, s5⟩
                           go_simp
                           with_reducible rfl
                          rotate_left
                          ·simp only [Act.put, List.setIfInBounds_toArray, List.set_cons_zero, List.set_cons_succ, i64_w, i32_w]
                           rfl
                          refine take_ (i := 17) (N := some 70) (v := ?_) (a' := ?_) #[true, true, true, true, true, true, true, true, true, true, true, true, true, true, true, true, true, true, false] rfl rfl (take_ofW HT_.out HW_.out (by kernel_rfl)) (fun _ _ _ h => h) (Or.inl ⟨by rfl, ?_⟩) hHeld ?_ ?_
                          rotate_left
                          ·rintro w' ⟨s0, s1, s2, s3, s4, s5⟩
                           go_simp
                           with_reducible rfl
                          rotate_left
                          ·simp only [Act.put, List.setIfInBounds_toArray, List.set_cons_zero, List.set_cons_succ, i64_w, i32_w]
                           rfl
                          refine one_ (i := 18) (N := some 71) #[true, true, true, true, true, true, true, true, true, true, true, true, true, true, true, true, true, true, true] rfl rfl (one_of HT_.out (by kernel_rfl)) (by decide) (fun K hK => ?_)
                          refine goes_ Try.func92 (by kernel_rfl) rfl #[.agg #[.int .i64 a0_0, .string a0_1], .int .i64 x3_1, .int .i64 (rd t125 x5_3), .int .i64 (rd t125 x6_4), .int .i64 (rd t125 x7_5), .int .i64 (rd t125 x8_6)] (by rfl) rfl rfl zM ?_
                          with_reducible refine (spec_l4Breaks.calls k6 a0_0 a0_1 x3_1 (rd t125 x5_3) (rd t125 x6_4) (rd t125 x7_5) (rd t125 x8_6) true _ A25.out).mono ?_
                          rintro e w28 ⟨rfl, hb⟩
                          have HS2_ := (hb.cell (World.block_lt_of_cell? _ _ (hHeld.2.2.1))).trans (hHeld.2.2.1)
                          have HS3_ := (hb.cell (World.block_lt_of_cell? _ _ (hHeld.2.2.2.1))).trans (hHeld.2.2.2.1)
                          have HS4_ := (hb.cell (World.block_lt_of_cell? _ _ (hHeld.2.2.2.2.1))).trans (hHeld.2.2.2.2.1)
                          have HS5_ := (hb.cell (World.block_lt_of_cell? _ _ (hHeld.2.2.2.2.2))).trans (hHeld.2.2.2.2.2)
                          refine ⟨_, rfl, ?_⟩
                          have n0_ := Aside0.mk (Kd.R_below (zR HO_4.out) hb)
                          have n1_ := Aside0.mk (blk_below (g := gb120) (o := .cells #[.int .i64 a0_0, .string a0_1] 26 (0, 0)) (zK BK120.out) hb)
                          have n2_ := Aside0.mk (below_step (zG GE120.out) hb)
                          clear HO_4
                          clear BK120
                          clear HB
                          have HO_4 := n0_
                          have BK120 := n1_
                          have HB := n2_
                          clear n0_ n1_ n2_
                          (try clear hb)
                          (try clear hb2)
                          (try clear hk)
                          (try clear hi)
                          refine hK.out _ _ ⟨(blk_cell BK120.out 0).trans rfl, (blk_cell BK120.out 1).trans rfl, HS2_, HS3_, HS4_, HS5_⟩ (fun hHeld => ?_)
                          clear hK K
                          refine norm_ (a' := ?_) ?_ ?_
                          rotate_left
                          ·show Act.put _ (some 71) _ = _
                           simp only [Act.put, List.setIfInBounds_toArray, List.set_cons_zero, List.set_cons_succ, i64_w, i32_w]
                           rfl
                          refine done_ (done_of HT_.out (by kernel_rfl)) ?_
                          try go_wp2
                          have n0_ := Aside0.mk (Kd.R_drew HO_4.out)
                          have n1_ := Aside0.mk (blk_drew BK120.out)
                          have n2_ := Aside0.mk (below_drew1 HB.out)
                          clear HO_4
                          clear BK120
                          clear HB
                          have HO_4 := n0_
                          have BK120 := n1_
                          have HB := n2_
                          clear n0_ n1_ n2_
                          have p133 : 0 ≤ (x5_3 : Int) := zA
                          have q133 : x5_3 < (t125.length : Int) := zA
                          obtain ⟨ad133, e133, hx133_0⟩ := Kd.at_int (Kd.R_reads' HO_4.out).2.2 x5_3 p133 q133
                          obtain rfl : ad128 = ad133 := (by injection e133)
                          replace p133 := eq_true p133
                          replace q133 := eq_true q133
                          have p134 : 0 ≤ (x6_4 : Int) := zA
                          have q134 : x6_4 < (t125.length : Int) := zA
                          obtain ⟨ad134, e134, hx134_0⟩ := Kd.at_int (Kd.R_reads' HO_4.out).2.2 x6_4 p134 q134
                          obtain rfl : ad128 = ad134 := (by injection e134)
                          replace p134 := eq_true p134
                          replace q134 := eq_true q134
                          have p135 : 0 ≤ (x7_5 : Int) := zA
                          have q135 : x7_5 < (t125.length : Int) := zA
                          obtain ⟨ad135, e135, hx135_0⟩ := Kd.at_int (Kd.R_reads' HO_4.out).2.2 x7_5 p135 q135
                          obtain rfl : ad128 = ad135 := (by injection e135)
                          replace p135 := eq_true p135
                          replace q135 := eq_true q135
                          have p136 : 0 ≤ (x8_6 : Int) := zA
                          have q136 : x8_6 < (t125.length : Int) := zA
                          obtain ⟨ad136, e136, hx136_0⟩ := Kd.at_int (Kd.R_reads' HO_4.out).2.2 x8_6 p136 q136
                          obtain rfl : ad128 = ad136 := (by injection e136)
                          replace p136 := eq_true p136
                          replace q136 := eq_true q136
                          refine start_ (n := 19) (S := fun w' => w'.cell? (ad128.add (x5_3).toNat) = some (.int .i64 (rd t125 x5_3)) ∧ w'.cell? (ad128.add (x6_4).toNat) = some (.int .i64 (rd t125 x6_4)) ∧ w'.cell? (ad128.add (x7_5).toNat) = some (.int .i64 (rd t125 x7_5)) ∧ w'.cell? (ad128.add (x8_6).toNat) = some (.int .i64 (rd t125 x8_6))) (ds := []) #[false, false, false, false, false, false, false, false, false, false, false, false, false, false, false, false, false, false, false] (by kernel_rfl) rfl rfl ⟨hx133_0, hx134_0, hx135_0, hx136_0⟩ (fun hHeld => ?_); refine with_tabW spec_FirstBreak.tab18 spec_FirstBreak.bits18 (fun HT_ HW_ => ?_)
                          generalize w28.drew = w29 at HO_4 BK120 HB hx133_0 hx134_0 hx135_0 hx136_0 hHeld ⊢
                          refine zP 0 (some 72) rfl rfl ?_
                          refine zP 1 (some 73) rfl rfl ?_
                          refine zP 2 (some 74) rfl rfl ?_
                          refine zP 3 (some 75) rfl rfl ?_
                          refine zP 5 (some 77) rfl rfl ?_
                          refine zP 6 (some 78) rfl rfl ?_
                          refine zP 7 (some 79) rfl rfl ?_
                          refine zP 9 (some 81) rfl rfl ?_
                          refine zP 10 (some 82) rfl rfl ?_
                          refine zP 11 (some 83) rfl rfl ?_
                          refine zP 13 (some 85) rfl rfl ?_
                          refine zP 14 (some 86) rfl rfl ?_
                          refine zP 15 (some 87) rfl rfl ?_
                          refine take_ (i := 4) (N := some 76) (v := ?_) (a' := ?_) #[true, true, true, true, true, true, true, true, false, true, true, true, false, true, true, true, false, false, false] rfl rfl (take_ofW HT_.out HW_.out (by kernel_rfl)) (fun _ _ _ h => h) (Or.inl ⟨by rfl, ?_⟩) hHeld ?_ ?_
                          rotate_left
                          ·rintro w' ⟨s0, s1, s2, s3⟩
                           go_simp
                           with_reducible rfl
                          rotate_left
                          ·simp only [Act.put, List.setIfInBounds_toArray, List.set_cons_zero, List.set_cons_succ, i64_w, i32_w]
                           rfl
                          refine take_ (i := 8) (N := some 80) (v := ?_) (a' := ?_) #[true, true, true, true, true, true, true, true, true, true, true, true, false, true, true, true, false, false, false] rfl rfl (take_ofW HT_.out HW_.out (by kernel_rfl)) (fun _ _ _ h => h) (Or.inl ⟨by rfl, ?_⟩) hHeld ?_ ?_
                          rotate_left
                          ·rintro w' ⟨s0, s1, s2, s3⟩
                           go_simp
                           with_reducible rfl
                          rotate_left
                          ·simp only [Act.put, List.setIfInBounds_toArray, List.set_cons_zero, List.set_cons_succ, i64_w, i32_w]
                           rfl
                          refine take_ (i := 12) (N := some 84) (v := ?_) (a' := ?_) #[true, true, true, true, true, true, true, true, true, true, true, true, true, true, true, true, false, false, false] rfl rfl (take_ofW HT_.out HW_.out (by kernel_rfl)) (fun _ _ _ h => h) (Or.inl ⟨by rfl, ?_⟩) hHeld ?_ ?_
                          rotate_left
                          ·rintro w' ⟨s0, s1, s2, s3⟩
                           go_simp
                           with_reducible rfl
                          rotate_left
                          ·simp only [Act.put, List.setIfInBounds_toArray, List.set_cons_zero, List.set_cons_succ, i64_w, i32_w]
                           rfl
                          refine take_ (i := 16) (N := some 88) (v := ?_) (a' := ?_) #[true, true, true, true, true, true, true, true, true, true, true, true, true, true, true, true, true, false, false] rfl rfl (take_ofW HT_.out HW_.out (by kernel_rfl)) (fun _ _ _ h => h) (Or.inl ⟨by rfl, ?_⟩) hHeld ?_ ?_
                          rotate_left
                          ·rintro w' ⟨s0, s1, s2, s3⟩
                           go_simp
                           with_reducible rfl
                          rotate_left
                          ·simp only [Act.put, List.setIfInBounds_toArray, List.set_cons_zero, List.set_cons_succ, i64_w, i32_w]
                           rfl
                          refine one_ (i := 17) (N := some 89) #[true, true, true, true, true, true, true, true, true, true, true, true, true, true, true, true, true, true, false] rfl rfl (one_of HT_.out (by kernel_rfl)) (by decide) (fun K hK => ?_)
                          refine Kd.R_lit_step (Kd.int .i64) _ 3 ?hg (N := 89) ?hd (xs := ([x3_1, rd t125 x5_3, rd t125 x6_4, rd t125 x7_5, rd t125 x8_6] : List Int)) (inner := [.int .i64 x3_1, .int .i64 (rd t125 x5_3), .int .i64 (rd t125 x6_4), .int .i64 (rd t125 x7_5), .int .i64 (rd t125 x8_6)]) (ok := fun _ => True) (okp := fun _ => True) ?hr ?hp (fun _ hk => hk) trivial (Below.refl _ _) (Nat.le_refl _) (by simp) ?_; (case hd => rfl); (case hg => rfl); (case hr => first | (go_simp; done) | (go_simp; rfl)); (case hp => exact (Reps.one (show Kd.M (Kd.int .i64) _ _ _ x3_1 [.int .i64 x3_1] from rfl) (Reps.one (show Kd.M (Kd.int .i64) _ _ _ (rd t125 x5_3) [.int .i64 (rd t125 x5_3)] from rfl) (Reps.one (show Kd.M (Kd.int .i64) _ _ _ (rd t125 x6_4) [.int .i64 (rd t125 x6_4)] from rfl) (Reps.one (show Kd.M (Kd.int .i64) _ _ _ (rd t125 x7_5) [.int .i64 (rd t125 x7_5)] from rfl) (Reps.one (show Kd.M (Kd.int .i64) _ _ _ (rd t125 x8_6) [.int .i64 (rd t125 x8_6)] from rfl) (Reps.none _ _)))))))
                          intro v138 w30 ho31 hb hg_ hnew_
                          have HS0_ := (hb.cell (World.block_lt_of_cell? _ _ (hHeld.1))).trans (hHeld.1)
                          have HS1_ := (hb.cell (World.block_lt_of_cell? _ _ (hHeld.2.1))).trans (hHeld.2.1)
                          have HS2_ := (hb.cell (World.block_lt_of_cell? _ _ (hHeld.2.2.1))).trans (hHeld.2.2.1)
                          have HS3_ := (hb.cell (World.block_lt_of_cell? _ _ (hHeld.2.2.2))).trans (hHeld.2.2.2)
                          clear hg_ hnew_
                          (first | rw [← Ny137.out] at ho31 | (simp only [Int.reduceToNat] at ho31; rw [← Ny137.out] at ho31))
                          have n0_ := Aside0.mk (Kd.R_elder' (zR HO_4.out) (Kd.R_base ho31) hb)
                          have n1_ := Aside0.mk (Kd.R_lower (Kd.R_new' ho31 (Kd.R_lt (zR HO_4.out))) (below_size (zG GE120.out)))
                          have n2_ := Aside0.mk (blk_below (g := gb120) (o := .cells #[.int .i64 a0_0, .string a0_1] 26 (0, 0)) (zK BK120.out) hb)
                          have n3_ := Aside0.mk (below_step (zG GE120.out) hb)
                          clear HO_4
                          clear BK120
                          clear HB
                          have HO_4 := n0_
                          have HO139 := n1_
                          have BK120 := n2_
                          have HB := n3_
                          clear n0_ n1_ n2_ n3_
                          clear hb ho31
                          refine hK.out _ _ ⟨HS0_, HS1_, HS2_, HS3_⟩ (fun hHeld => ?_)
                          clear hK K
                          refine norm_ (a' := ?_) ?_ ?_
                          rotate_left
                          ·show Act.put _ (some 89) _ = _
                           simp only [Act.put, List.setIfInBounds_toArray, List.set_cons_zero, List.set_cons_succ, i64_w, i32_w]
                           rfl
                          refine zP 18 (some 2) rfl rfl ?_
                          refine done_ (done_of HT_.out (by kernel_rfl)) ?_
                          try go_wp2
                          go_ret
                          exact ⟨_, zE, by (with_reducible repeat (first | apply Kd.R_alloc | apply Kd.R_drewN | apply Kd.R_drew)); exact Kd.R_mono HO139.out (fun _ hk => trivial), zG GE120.out⟩
                         ·replace c26 := Bool.eq_false_iff.mpr c26
                          subst c26
                          have H1 : (spec_FirstBreak.l4 k6 x3_1 t125 x5_3 x6_4 x7_5 (wrap64 (x8_6 + 1)) a0_0 a0_1) = some r := by rw [if_neg (show ¬ (false = true) by decide)] at H; exact H
                          clear H
                          have H := H1
                          clear H1
                          have H' := Aside0.mk H
                          clear H
                          try go_wp2
                          have n0_ := Aside0.mk (Kd.R_drew HO_4.out)
                          have n1_ := Aside0.mk (blk_drew BK120.out)
                          have n2_ := Aside0.mk (below_drew1 HB.out)
                          clear HO_4
                          clear BK120
                          clear HB
                          have HO_4 := n0_
                          have BK120 := n1_
                          have HB := n2_
                          clear n0_ n1_ n2_
                          have p128 : 0 ≤ (x5_3 : Int) := zA
                          have q128 : x5_3 < (t125.length : Int) := zA
                          obtain ⟨ad128, e128, hx128_0⟩ := Kd.at_int (Kd.R_reads' HO_4.out).2.2 x5_3 p128 q128
                          cases e128
                          replace p128 := eq_true p128
                          replace q128 := eq_true q128
                          have p129 : 0 ≤ (x6_4 : Int) := zA
                          have q129 : x6_4 < (t125.length : Int) := zA
                          obtain ⟨ad129, e129, hx129_0⟩ := Kd.at_int (Kd.R_reads' HO_4.out).2.2 x6_4 p129 q129
                          obtain rfl : ad128 = ad129 := (by injection e129)
                          replace p129 := eq_true p129
                          replace q129 := eq_true q129
                          have p130 : 0 ≤ (x7_5 : Int) := zA
                          have q130 : x7_5 < (t125.length : Int) := zA
                          obtain ⟨ad130, e130, hx130_0⟩ := Kd.at_int (Kd.R_reads' HO_4.out).2.2 x7_5 p130 q130
                          obtain rfl : ad128 = ad130 := (by injection e130)
                          replace p130 := eq_true p130
                          replace q130 := eq_true q130
                          have p131 : 0 ≤ (x8_6 : Int) := zA
                          have q131 : x8_6 < (t125.length : Int) := zA
                          obtain ⟨ad131, e131, hx131_0⟩ := Kd.at_int (Kd.R_reads' HO_4.out).2.2 x8_6 p131 q131
                          obtain rfl : ad128 = ad131 := (by injection e131)
                          replace p131 := eq_true p131
                          replace q131 := eq_true q131
                          refine start_ (n := 19) (S := fun w' => w'.cell? ⟨gb120, 0, none⟩ = some (.int .i64 a0_0) ∧ w'.cell? ⟨gb120, 1, none⟩ = some (.string a0_1) ∧ w'.cell? (ad128.add (x5_3).toNat) = some (.int .i64 (rd t125 x5_3)) ∧ w'.cell? (ad128.add (x6_4).toNat) = some (.int .i64 (rd t125 x6_4)) ∧ w'.cell? (ad128.add (x7_5).toNat) = some (.int .i64 (rd t125 x7_5)) ∧ w'.cell? (ad128.add (x8_6).toNat) = some (.int .i64 (rd t125 x8_6))) (ds := []) #[false, false, false, false, false, false, false, false, false, false, false, false, false, false, false, false, false, false, false] (by kernel_rfl) rfl rfl ⟨(blk_cell BK120.out 0).trans rfl, (blk_cell BK120.out 1).trans rfl, hx128_0, hx129_0, hx130_0, hx131_0⟩ (fun hHeld => ?_); refine with_tabW spec_FirstBreak.tab17 spec_FirstBreak.bits17 (fun HT_ HW_ => ?_)
                          generalize wr.drew = w32 at HO_4 BK120 HB hx128_0 hx129_0 hx130_0 hx131_0 hHeld ⊢
                          refine zP 1 (some 54) rfl rfl ?_
                          refine zP 2 (some 55) rfl rfl ?_
                          refine zP 3 (some 56) rfl rfl ?_
                          refine zP 4 (some 57) rfl rfl ?_
                          refine zP 6 (some 59) rfl rfl ?_
                          refine zP 7 (some 60) rfl rfl ?_
                          refine zP 8 (some 61) rfl rfl ?_
                          refine zP 10 (some 63) rfl rfl ?_
                          refine zP 11 (some 64) rfl rfl ?_
                          refine zP 12 (some 65) rfl rfl ?_
                          refine zP 14 (some 67) rfl rfl ?_
                          refine zP 15 (some 68) rfl rfl ?_
                          refine zP 16 (some 69) rfl rfl ?_
                          refine take_ (i := 0) (N := some 53) (v := ?_) (a' := ?_) #[true, true, true, true, true, false, true, true, true, false, true, true, true, false, true, true, true, false, false] rfl rfl (take_ofW HT_.out HW_.out (by kernel_rfl)) (fun _ _ _ h => h) (Or.inl ⟨by rfl, ?_⟩) hHeld ?_ ?_
                          rotate_left
                          ·rintro w' ⟨s0, s1, s2, s3, s4, s5⟩
                           go_simp
                           with_reducible rfl
                          rotate_left
                          ·simp only [Act.put, List.setIfInBounds_toArray, List.set_cons_zero, List.set_cons_succ, i64_w, i32_w]
                           rfl
                          refine take_ (i := 5) (N := some 58) (v := ?_) (a' := ?_) #[true, true, true, true, true, true, true, true, true, false, true, true, true, false, true, true, true, false, false] rfl rfl (take_ofW HT_.out HW_.out (by kernel_rfl)) (fun _ _ _ h => h) (Or.inl ⟨by rfl, ?_⟩) hHeld ?_ ?_
                          rotate_left
                          ·rintro w' ⟨s0, s1, s2, s3, s4, s5⟩
                           go_simp
                           with_reducible rfl
                          rotate_left
                          ·simp only [Act.put, List.setIfInBounds_toArray, List.set_cons_zero, List.set_cons_succ, i64_w, i32_w]
                           rfl
                          refine take_ (i := 9) (N := some 62) (v := ?_) (a' := ?_) #[true, true, true, true, true, true, true, true, true, true, true, true, true, false, true, true, true, false, false] rfl rfl (take_ofW HT_.out HW_.out (by kernel_rfl)) (fun _ _ _ h => h) (Or.inl ⟨by rfl, ?_⟩) hHeld ?_ ?_
                          rotate_left
                          ·rintro w' ⟨s0, s1, s2, s3, s4, s5⟩
                           go_simp
                           with_reducible rfl
                          rotate_left
                          ·simp only [Act.put, List.setIfInBounds_toArray, List.set_cons_zero, List.set_cons_succ, i64_w, i32_w]
                           rfl
                          refine take_ (i := 13) (N := some 66) (v := ?_) (a' := ?_) #[true, true, true, true, true, true, true, true, true, true, true, true, true, true, true, true, true, false, false] rfl rfl (take_ofW HT_.out HW_.out (by kernel_rfl)) (fun _ _ _ h => h) (Or.inl ⟨by rfl, ?_⟩) hHeld ?_ ?_
                          rotate_left
                          ·rintro w' ⟨s0, s1, s2, s3, s4, s5⟩
                           go_simp
                           with_reducible rfl
                          rotate_left
                          ·simp only [Act.put, List.setIfInBounds_toArray, List.set_cons_zero, List.set_cons_succ, i64_w, i32_w]
                           rfl
                          refine take_ (i := 17) (N := some 70) (v := ?_) (a' := ?_) #[true, true, true, true, true, true, true, true, true, true, true, true, true, true, true, true, true, true, false] rfl rfl (take_ofW HT_.out HW_.out (by kernel_rfl)) (fun _ _ _ h => h) (Or.inl ⟨by rfl, ?_⟩) hHeld ?_ ?_
                          rotate_left
                          ·rintro w' ⟨s0, s1, s2, s3, s4, s5⟩
                           go_simp
                           with_reducible rfl
                          rotate_left
                          ·simp only [Act.put, List.setIfInBounds_toArray, List.set_cons_zero, List.set_cons_succ, i64_w, i32_w]
                           rfl
                          refine one_ (i := 18) (N := some 71) #[true, true, true, true, true, true, true, true, true, true, true, true, true, true, true, true, true, true, true] rfl rfl (one_of HT_.out (by kernel_rfl)) (by decide) (fun K hK => ?_)
                          refine goes_ Try.func92 (by kernel_rfl) rfl #[.agg #[.int .i64 a0_0, .string a0_1], .int .i64 x3_1, .int .i64 (rd t125 x5_3), .int .i64 (rd t125 x6_4), .int .i64 (rd t125 x7_5), .int .i64 (rd t125 x8_6)] (by rfl) rfl rfl zM ?_
                          with_reducible refine (spec_l4Breaks.calls k6 a0_0 a0_1 x3_1 (rd t125 x5_3) (rd t125 x6_4) (rd t125 x7_5) (rd t125 x8_6) false _ A25.out).mono ?_
                          rintro e w33 ⟨rfl, hb⟩
                          have HS2_ := (hb.cell (World.block_lt_of_cell? _ _ (hHeld.2.2.1))).trans (hHeld.2.2.1)
                          have HS3_ := (hb.cell (World.block_lt_of_cell? _ _ (hHeld.2.2.2.1))).trans (hHeld.2.2.2.1)
                          have HS4_ := (hb.cell (World.block_lt_of_cell? _ _ (hHeld.2.2.2.2.1))).trans (hHeld.2.2.2.2.1)
                          have HS5_ := (hb.cell (World.block_lt_of_cell? _ _ (hHeld.2.2.2.2.2))).trans (hHeld.2.2.2.2.2)
                          refine ⟨_, rfl, ?_⟩
                          have n0_ := Aside0.mk (Kd.R_below (zR HO_4.out) hb)
                          have n1_ := Aside0.mk (blk_below (g := gb120) (o := .cells #[.int .i64 a0_0, .string a0_1] 26 (0, 0)) (zK BK120.out) hb)
                          have n2_ := Aside0.mk (below_step (zG GE120.out) hb)
                          clear HO_4
                          clear BK120
                          clear HB
                          have HO_4 := n0_
                          have BK120 := n1_
                          have HB := n2_
                          clear n0_ n1_ n2_
                          (try clear hb)
                          (try clear hb2)
                          (try clear hk)
                          (try clear hi)
                          refine hK.out _ _ ⟨(blk_cell BK120.out 0).trans rfl, (blk_cell BK120.out 1).trans rfl, HS2_, HS3_, HS4_, HS5_⟩ (fun hHeld => ?_)
                          clear hK K
                          refine norm_ (a' := ?_) ?_ ?_
                          rotate_left
                          ·show Act.put _ (some 71) _ = _
                           simp only [Act.put, List.setIfInBounds_toArray, List.set_cons_zero, List.set_cons_succ, i64_w, i32_w]
                           rfl
                          refine done_ (done_of HT_.out (by kernel_rfl)) ?_
                          try go_wp2
                          go_roundg k6
                          case measure => have := HK1.out; have := HJ2.out; have := HK3.out; have := HK4.out; have := HK5.out; have := HK6.out; omega
                          case rel => exact ⟨(wrap64 (x8_6 + 1)), zF, H', ⟨by have := HK1.out; have := HJ2.out; have := HK3.out; have := HK4.out; have := HK5.out; have := HK6.out; omega⟩, ⟨zR HO_4.out⟩, ⟨zK BK120.out⟩, ⟨zG GE120.out⟩⟩
                        ·rw [if_neg c24] at H
                         exact absurd H (by simp)
                       ·rw [if_neg c23] at H
                        exact absurd H (by simp)
                      ·rw [if_neg c22] at H
                       exact absurd H (by simp)
                     ·rw [if_neg c21] at H
                      exact absurd H (by simp)
                    ·rw [if_neg c20] at H
                     exact absurd H (by simp)
                   ·rw [if_neg c19] at H
                    exact absurd H (by simp)
                  ·rw [if_neg c18] at H
                   exact absurd H (by simp)
                 ·rw [if_neg c17] at H
                  have c17b0 : decide (x8_6 < (t125.length : Int)) = false := decide_eq_false c17
                  clear c17
                  have H' := Aside0.mk H
                  clear H
                  go_wp2
                  go_roundg k6
                  case measure => have := HK1.out; have := HJ2.out; have := HK3.out; have := HK4.out; have := HK5.out; have := HK6.out; omega
                  case rel => exact ⟨(wrap64 (x7_5 + 1)), zF, H', ⟨by have := HK1.out; have := HJ2.out; have := HK3.out; have := HK4.out; have := HK5.out; have := HK6.out; omega⟩, ⟨zR HO_4.out⟩, ⟨zK BK120.out⟩, ⟨zG GE120.out⟩⟩
              ·rw [if_neg c16] at H
               have c16b0 : decide (x7_5 < (t125.length : Int)) = false := decide_eq_false c16
               clear c16
               have H' := Aside0.mk H
               clear H
               go_wp2
               go_roundg k5
               case measure => have := HK1.out; have := HJ2.out; have := HK3.out; have := HK4.out; have := HK5.out; omega
               case rel => exact ⟨(wrap64 (x6_4 + 1)), zF, H', ⟨by have := HK1.out; have := HJ2.out; have := HK3.out; have := HK4.out; have := HK5.out; omega⟩, ⟨zR HO_4.out⟩, ⟨zK BK120.out⟩, ⟨zG GE120.out⟩⟩
           ·rw [if_neg c15] at H
            have c15b0 : decide (x6_4 < (t125.length : Int)) = false := decide_eq_false c15
            clear c15
            have H' := Aside0.mk H
            clear H
            go_wp2
            go_roundg k4
            case measure => have := HK1.out; have := HJ2.out; have := HK3.out; have := HK4.out; omega
            case rel => exact ⟨(wrap64 (x5_3 + 1)), zF, H', ⟨by have := HK1.out; have := HJ2.out; have := HK3.out; have := HK4.out; omega⟩, ⟨zR HO_4.out⟩, ⟨zK BK120.out⟩, ⟨zG GE120.out⟩⟩
        ·rw [if_neg c13] at H
         have c13b0 : decide (x5_3 < (t125.length : Int)) = false := decide_eq_false c13
         clear c13
         have H' := Aside0.mk H
         clear H
         obtain ⟨Ao34, co34, eo34⟩ := Kd.R_slice HO_4.out
         subst eo34
         go_wp2
         go_roundg k3
         case measure => have := HK1.out; have := HJ2.out; have := HK3.out; omega
         case rel => exact ⟨(wrap64 (x3_1 + 1)), zF, H', ⟨by have := HK1.out; have := HJ2.out; have := HK3.out; omega⟩, ⟨zK BK120.out⟩, ⟨zG GE120.out⟩⟩
     ·replace c9 := Bool.eq_false_iff.mpr c9
      subst c9
      have H1 : (some (([] : List Int))) = some r := by rw [if_neg (show ¬ (false = true) by decide)] at H; exact H
      clear H
      have H := H1
      clear H1
      obtain ⟨y122, hy122⟩ : ∃ y_ : List Int, y_ = (([] : List Int)) := ⟨_, rfl⟩
      replace H : (some y122) = some r := by first | (rw [hy122]; with_reducible exact H) | (have H2_ := (Option.bind_some _ _).symm.trans H; rw [hy122]; with_reducible exact H2_) | (have H2_ := (Option.bind_some _ _).symm.trans H; with_reducible exact H2_) | with_reducible exact H | (rw [hy122]; exact H) | exact H
      have Ny122 := Aside0.mk hy122
      clear hy122
      obtain rfl := Option.some.inj H
      go_wp2_with (first | ((with_reducible refine gate_dst (N := 90) rfl ?_); refine Kd.R_lit (Kd.int .i64) _ 3 ?hg (N := 90) ?hd (xs := ([] : List Int)) (inner := []) (ok := fun _ => True) (okp := fun _ => True) ?hr ?hp (fun _ hk => hk) trivial (Below.refl _ _) (Nat.le_refl _) (by simp) ?_; (case hd => rfl); (case hg => rfl); (case hr => first | (go_simp; done) | (go_simp; rfl)); (case hp => exact (Reps.none _ _)); intro v123 w35 ho36 hb hg_ hnew_; clear hg_ hnew_; (first | rw [← Ny122.out] at ho36 | (simp only [Int.reduceToNat] at ho36; rw [← Ny122.out] at ho36)); have HO124 := Aside0.mk (Kd.R_lower ho36 (below_size (zG GE120.out))); replace BK120 := Aside0.mk (blk_below (g := gb120) (o := .cells #[.int .i64 a0_0, .string a0_1] 26 (0, 0)) (zK BK120.out) hb); replace HB := Aside0.mk (below_step (zG GE120.out) hb); clear hb ho36))
      go_ret
      exact ⟨_, zE, zR HO124.out, zG GE120.out⟩
end Go.Proofs.Ytbjncemaeagjjaa.PX
namespace Go.Proofs.Ytbjncemaeagjjaa.M
open Go.RowKit Go.Proofs.YtbjncemaeagjjaaW.PrintWords Go.Proofs.Ytbjncemaeagjjaa.PX Go.Proofs.Ytbjncemaeagjjaa.G
/-- Do five elements break the rule? -/
def brk (n : Nat) (t : ByteArray) (x a b c d : Nat) : Bool := decide (chi n t x a b * chi n t x c d = chi n t x a d * chi n t x b c) && decide (chi n t x a d * chi n t x b c = -chi n t x a c * chi n t x b d)
theorem small_mul {x y : Int} (hx : x = 1 ∨ x = -1 ∨ x = 0) (hy : y = 1 ∨ y = -1 ∨ y = 0) : wrap64 (x * y) = x * y := by
  rcases hx with rfl | rfl | rfl <;> rcases hy with rfl | rfl | rfl <;> decide +kernel
theorem small_neg {x : Int} (hx : x = 1 ∨ x = -1 ∨ x = 0) : wrap64 (-x) = -x ∧ (-x = 1 ∨ -x = -1 ∨ -x = 0) := by
  rcases hx with rfl | rfl | rfl
  · exact ⟨by decide +kernel, by omega⟩
  · exact ⟨by decide +kernel, by omega⟩
  · exact ⟨by decide +kernel, by omega⟩
theorem brk_end (n : Nat) (t : ByteArray) (x a b c d : Nat) : (if wrap64 (chi n t x a b * chi n t x c d) = wrap64 (chi n t x a d * chi n t x b c) then (some (wrap64 (chi n t x a d * chi n t x b c) == wrap64 (wrap64 (-chi n t x a c) * chi n t x b d))) else some false) = some (brk n t x a b c d) := by
  have h := chi_three n t
  rw [small_mul (h x a b) (h x c d), small_mul (h x a d) (h x b c), (small_neg (h x a c)).1, small_mul (small_neg (h x a c)).2 (h x b d)]
  unfold brk
  by_cases e : chi n t x a b * chi n t x c d = chi n t x a d * chi n t x b c
  · rw [if_pos e, decide_eq_true e, Bool.true_and]
    rfl
  · rw [if_neg e, decide_eq_false e, Bool.false_and]
theorem impl_breaks (n : Nat) (t : ByteArray) {x a b c d : Nat} (hx : x < 7) (ha : a < 7) (hb : b < 7) (hc : c < 7) (hd : d < 7) : impl_chi_breaks.f (tblL n t) (x : Int) (a : Int) (b : Int) (c : Int) (d : Int) = some (brk n t x a b c d) := by
  unfold impl_chi_breaks.f
  rw [if_pos (by omega), if_pos (by omega), if_pos (by omega), if_pos (by omega), if_pos (by omega), if_pos (by omega), if_pos (by omega), if_pos (by omega), if_pos (by omega), if_pos (by omega)]
  rw [tbl_rd n t x a b hx ha hb, tbl_rd n t x c d hx hc hd, tbl_rd n t x a d hx ha hd, tbl_rd n t x b c hx hb hc, tbl_rd n t x a c hx ha hc, tbl_rd n t x b d hx hb hd]
  exact brk_end n t x a b c d
theorem spec_breaks {n : Nat} {t : ByteArray} (h : areOk n t = true) {x a b c d : Nat} (hx : x < n) (ha : a < n) (hb : b < n) (hc : c < n) (hd : d < n) (e : [x, a, b, c, d].Nodup) :
    Ev (fun k => spec_l4Breaks.f k (n : Int) t (x : Int) (a : Int) (b : Int) (c : Int) (d : Int)) (brk n t x a b c d) := by
  simp only [List.nodup_cons, List.mem_cons, List.not_mem_nil, or_false, not_or, not_false_eq_true, List.nodup_nil, and_true] at e
  obtain ⟨⟨e1, e2, e3, e4⟩, ⟨e5, e6, e7⟩, ⟨e8, e9⟩, e10⟩ := e
  unfold spec_l4Breaks.f
  refine Ev.bind (l3At_ev h hx ha hb e1 e5 e2) (Ev.bind (l3At_ev h hx hc hd e3 e10 e4) (Ev.bind (l3At_ev h hx ha hd e1 e7 e4) (Ev.bind (l3At_ev h hx hb hc e2 e8 e3) (Ev.bind (l3At_ev h hx ha hc e1 e6 e3) (Ev.bind (l3At_ev h hx hb hd e2 e9 e4) ?_)))))
  have := brk_end n t x a b c d
  simp only [this]
  exact Ev.now _
abbrev Q4 := Nat × Nat × Nat × Nat
def brkQ (n : Nat) (t : ByteArray) (x : Nat) (q : Q4) : Option (List Int) := if brk n t x q.1 q.2.1 q.2.2.1 q.2.2.2 then some [(x : Int), (q.1 : Int), (q.2.1 : Int), (q.2.2.1 : Int), (q.2.2.2 : Int)] else none
def srch (n : Nat) (t : ByteArray) (x : Nat) (l : List Q4) : Option (List Int) := l.findSome? (brkQ n t x)
/-- What follows a search: the find, or what the rest answers. -/
def After (z : Option (List Int)) (E : Prop) (r : List Int) : Prop := match z with | some v => r = v | none => E
theorem srch_append (n : Nat) (t : ByteArray) (x : Nat) (a b : List Q4) : srch n t x (a ++ b) = (srch n t x a).or (srch n t x b) := List.findSome?_append ..
theorem after_append {n : Nat} {t : ByteArray} {x : Nat} {a b : List Q4} {E : Prop} {r : List Int} (h : After (srch n t x (a ++ b)) E r) : After (srch n t x a) (After (srch n t x b) E r) r := by
  rw [srch_append] at h
  cases ha : srch n t x a with
  | some v => rw [ha] at h; exact h
  | none => rw [ha] at h; exact h
theorem after_mono {z : Option (List Int)} {E F : Prop} {r : List Int} (h : After z E r) (hEF : E → F) : After z F r := by
  cases z with
  | some v => exact h
  | none => exact hEF h
def qs4 (l : List Nat) (i j k m d : Nat) : List Q4 := (List.range' m d).map fun m => (l.getD i 0, l.getD j 0, l.getD k 0, l.getD m 0)
def qs3 (l : List Nat) (i j k d : Nat) : List Q4 := (List.range' k d).flatMap fun k => qs4 l i j k (k + 1) (l.length - (k + 1))
def qs2 (l : List Nat) (i j d : Nat) : List Q4 := (List.range' j d).flatMap fun j => qs3 l i j (j + 1) (l.length - (j + 1))
def qs1 (l : List Nat) (i d : Nat) : List Q4 := (List.range' i d).flatMap fun i => qs2 l i (i + 1) (l.length - (i + 1))
section
variable {n : Nat} {t : ByteArray} (h : areOk n t = true) {x : Nat} (hx : x < n) {l : List Nat} (hl : l.length ≤ 7) (hm : ∀ y ∈ l, y < n) (hd : (x :: l).Nodup)
include h hx hl hm hd
theorem sb4 {i j k : Nat} (hij : i < j) (hjk : j < k) (hk : k < l.length) (r : List Int) (d : Nat) : ∀ m : Nat, k < m → m + d = l.length →
    After (srch n t x (qs4 l i j k m d)) (Ev (fun q => spec_FirstBreak.l3 q (x : Int) (up l) (i : Int) (j : Int) ((k + 1 : Nat) : Int) (n : Int) t) r) r → Ev (fun q => spec_FirstBreak.l4 q (x : Int) (up l) (i : Int) (j : Int) (k : Int) (m : Int) (n : Int) t) r := by
  induction d with
  | zero =>
    intro m hm1 hmd hr
    refine ev_step ?_
    simp only [spec_FirstBreak.l4, up_length]
    refine ev_neg (by omega) ?_
    rw [wrap_id (by omega) (by omega)]
    exact hr
  | succ d ih =>
    intro m hm1 hmd hr
    refine ev_step ?_
    simp only [spec_FirstBreak.l4, up_length]
    refine ev_pos (by omega) (ev_pos (by omega) (ev_pos (by omega) (ev_pos (by omega) (ev_pos (by omega) (ev_pos (by omega) (ev_pos (by omega) (ev_pos (by omega) ?_)))))))
    rw [wrap_id (by omega) (by omega), rd_up (i := i) (by omega), rd_up (i := j) (by omega), rd_up (i := k) hk, rd_up (i := m) (by omega)]
    have gi : ∀ {z : Nat} (hz : z < l.length), l.getD z 0 = l[z] := fun hz => by rw [List.getD_eq_getElem?_getD, List.getElem?_eq_getElem hz]; rfl
    have lt : ∀ {z : Nat} (hz : z < l.length), l.getD z 0 < n := fun hz => by rw [gi hz]; exact hm _ (List.getElem_mem _)
    have ne : ∀ {a b : Nat} (ha : a < l.length) (hb : b < l.length), a < b → l.getD a 0 ≠ l.getD b 0 := fun {a b} ha hb hab => by
      rw [gi ha, gi hb]
      exact List.pairwise_iff_getElem.1 (List.nodup_cons.1 hd).2 a b ha hb hab
    have nx : ∀ {z : Nat} (hz : z < l.length), x ≠ l.getD z 0 := fun hz e => by
      rw [gi hz] at e
      exact (List.nodup_cons.1 hd).1 (e ▸ List.getElem_mem _)
    have hi' : i < l.length := by omega
    have hj' : j < l.length := by omega
    have hm' : m < l.length := by omega
    refine Ev.bind (spec_breaks h hx (lt hi') (lt hj') (lt hk) (lt hm') ?_) ?_
    · simp only [List.nodup_cons, List.mem_cons, List.not_mem_nil, or_false, not_or, not_false_eq_true, List.nodup_nil, and_true]
      exact ⟨⟨nx hi', nx hj', nx hk, nx hm'⟩, ⟨ne hi' hj' hij, ne hi' hk (by omega), ne hi' hm' (by omega)⟩, ⟨ne hj' hk hjk, ne hj' hm' (by omega)⟩, ne hk hm' hm1⟩
    have e : qs4 l i j k m (d + 1) = [(l.getD i 0, l.getD j 0, l.getD k 0, l.getD m 0)] ++ qs4 l i j k (m + 1) d := by rw [qs4, List.range'_succ, List.map_cons]; rfl
    rw [e] at hr
    have hr := after_append hr
    have es : srch n t x [(l.getD i 0, l.getD j 0, l.getD k 0, l.getD m 0)] = brkQ n t x (l.getD i 0, l.getD j 0, l.getD k 0, l.getD m 0) := by
      unfold srch
      rw [List.findSome?_cons]
      cases brkQ n t x (l.getD i 0, l.getD j 0, l.getD k 0, l.getD m 0) <;> rfl
    rw [es, brkQ] at hr
    by_cases hb : brk n t x (l.getD i 0) (l.getD j 0) (l.getD k 0) (l.getD m 0) = true
    · rw [if_pos hb] at hr
      exact ev_pos hb (ev_cast (Ev.now _) (Eq.symm hr))
    · rw [if_neg hb] at hr
      exact ev_neg hb (ih (m + 1) (by omega) (by omega) hr)
theorem sb3 {i j : Nat} (hij : i < j) (hj : j < l.length) (r : List Int) (d : Nat) : ∀ k : Nat, j < k → k + d = l.length →
    After (srch n t x (qs3 l i j k d)) (Ev (fun q => spec_FirstBreak.l2 q (x : Int) (up l) (i : Int) ((j + 1 : Nat) : Int) (n : Int) t) r) r → Ev (fun q => spec_FirstBreak.l3 q (x : Int) (up l) (i : Int) (j : Int) (k : Int) (n : Int) t) r := by
  induction d with
  | zero =>
    intro k hk hkd hr
    refine ev_step ?_
    simp only [spec_FirstBreak.l3, up_length]
    refine ev_neg (by omega) ?_
    rw [wrap_id (by omega) (by omega)]
    exact hr
  | succ d ih =>
    intro k hk hkd hr
    refine ev_step ?_
    simp only [spec_FirstBreak.l3, up_length]
    refine ev_pos (by omega) ?_
    rw [wrap_id (by omega) (by omega)]
    have e : qs3 l i j k (d + 1) = qs4 l i j k (k + 1) (l.length - (k + 1)) ++ qs3 l i j (k + 1) d := by rw [qs3, List.range'_succ, List.flatMap_cons]; rfl
    rw [e] at hr
    exact sb4 h hx hl hm hd hij hk (by omega) r (l.length - (k + 1)) (k + 1) (by omega) (by omega) (after_mono (after_append hr) (ih (k + 1) (by omega) (by omega)))
theorem sb2 {i : Nat} (hi : i < l.length) (r : List Int) (d : Nat) : ∀ j : Nat, i < j → j + d = l.length →
    After (srch n t x (qs2 l i j d)) (Ev (fun q => spec_FirstBreak.l1 q (x : Int) (up l) ((i + 1 : Nat) : Int) (n : Int) t) r) r → Ev (fun q => spec_FirstBreak.l2 q (x : Int) (up l) (i : Int) (j : Int) (n : Int) t) r := by
  induction d with
  | zero =>
    intro j hj hjd hr
    refine ev_step ?_
    simp only [spec_FirstBreak.l2, up_length]
    refine ev_neg (by omega) ?_
    rw [wrap_id (by omega) (by omega)]
    exact hr
  | succ d ih =>
    intro j hj hjd hr
    refine ev_step ?_
    simp only [spec_FirstBreak.l2, up_length]
    refine ev_pos (by omega) ?_
    rw [wrap_id (by omega) (by omega)]
    have e : qs2 l i j (d + 1) = qs3 l i j (j + 1) (l.length - (j + 1)) ++ qs2 l i (j + 1) d := by rw [qs2, List.range'_succ, List.flatMap_cons]; rfl
    rw [e] at hr
    exact sb3 h hx hl hm hd hj (by omega) r (l.length - (j + 1)) (j + 1) (by omega) (by omega) (after_mono (after_append hr) (ih (j + 1) (by omega) (by omega)))
theorem sb1 (r : List Int) (d : Nat) : ∀ i : Nat, i + d = l.length →
    After (srch n t x (qs1 l i d)) (Ev (fun q => spec_FirstBreak.l0 q ((x + 1 : Nat) : Int) (n : Int) t) r) r → Ev (fun q => spec_FirstBreak.l1 q (x : Int) (up l) (i : Int) (n : Int) t) r := by
  induction d with
  | zero =>
    intro i hid hr
    have hn7 : n ≤ 7 := by obtain ⟨⟨h0, h1⟩, _, _⟩ := (areOk_iff _ _).1 h; omega
    refine ev_step ?_
    simp only [spec_FirstBreak.l1, up_length]
    refine ev_neg (by omega) ?_
    rw [wrap_id (by omega) (by omega)]
    exact hr
  | succ d ih =>
    intro i hid hr
    refine ev_step ?_
    simp only [spec_FirstBreak.l1, up_length]
    refine ev_pos (by omega) ?_
    rw [wrap_id (by omega) (by omega)]
    have e : qs1 l i (d + 1) = qs2 l i (i + 1) (l.length - (i + 1)) ++ qs1 l (i + 1) d := by rw [qs1, List.range'_succ, List.flatMap_cons]; rfl
    rw [e] at hr
    exact sb2 h hx hl hm hd (by omega) r (l.length - (i + 1)) (i + 1) (by omega) (by omega) (after_mono (after_append hr) (ih (i + 1) (by omega)))
end
/-- The first break from the element x on. -/
def brkFrom (n : Nat) (t : ByteArray) : Nat → Nat → List Int
  | _, 0 => []
  | x, d + 1 => match srch n t x (qs1 (othersN n x) 0 (othersN n x).length) with | some v => v | none => brkFrom n t (x + 1) d
/-- What FirstBreak answers. -/
def brkA (n : Int) (t : ByteArray) : List Int := if areOk n t = true then brkFrom n.toNat t 0 n.toNat else []
theorem others_nodup {n x : Nat} (h : (othersN n x).Nodup) : (x :: othersN n x).Nodup := List.nodup_cons.2 ⟨by simp [othersN], h⟩
theorem spec_break_loop {n : Nat} {t : ByteArray} (h : areOk n t = true) (hs : t.size ≤ 9223372036854775807) (d : Nat) : ∀ x : Nat, x + d = n → Ev (fun q => spec_FirstBreak.l0 q (x : Int) (n : Int) t) (brkFrom n t x d) := by
  obtain ⟨⟨h0, h1⟩, _, _⟩ := (areOk_iff _ _).1 h
  induction d with
  | zero =>
    intro x hx
    refine ev_step ?_
    simp only [spec_FirstBreak.l0]
    refine ev_neg (by omega) (ev_step ?_)
    simp only [spec_FirstBreak.j1]
    exact ev_neg (by decide) (Ev.now _)
  | succ d ih =>
    intro x hx
    refine ev_step ?_
    simp only [spec_FirstBreak.l0]
    refine ev_pos (by omega) (Ev.bind (spec_are n t hs) (ev_step ?_))
    simp only [spec_FirstBreak.j1]
    obtain ⟨f1, f2, f3⟩ := others_facts (n := n) (x := x) (by omega) (by omega) (by omega)
    refine ev_pos h (Ev.bind (others_ev (by omega) (by omega)) ?_)
    refine sb1 (x := x) (l := othersN n x) h (by omega) (by rw [f1]; omega) f3 (others_nodup f2) _ (othersN n x).length 0 (by omega) ?_
    rw [brkFrom]
    cases srch n t x (qs1 (othersN n x) 0 (othersN n x).length) with
    | some v => exact Eq.refl v
    | none => exact ih (x + 1) (by omega)
theorem spec_break (n : Int) (t : ByteArray) (hs : t.size ≤ 9223372036854775807) : Ev (fun k => spec_FirstBreak.f k n t) (brkA n t) := by
  unfold spec_FirstBreak.f brkA
  by_cases h : areOk n t = true
  · rw [if_pos h]
    obtain ⟨⟨h0, h1⟩, _, _⟩ := (areOk_iff _ _).1 h
    obtain ⟨N, rfl⟩ : ∃ N : Nat, n = (N : Int) := Int.eq_ofNat_of_zero_le (by omega)
    exact spec_break_loop h hs N 0 (by omega)
  · rw [if_neg h]
    refine ev_step ?_
    simp only [spec_FirstBreak.l0]
    by_cases h0 : 0 < n
    · refine ev_pos h0 (Ev.bind (spec_are n t hs) (ev_step ?_))
      simp only [spec_FirstBreak.j1]
      exact ev_neg h (Ev.now _)
    · refine ev_neg h0 (ev_step ?_)
      simp only [spec_FirstBreak.j1]
      exact ev_neg (by decide) (Ev.now _)
/-- All fours of n elements. -/
def quadQ (n : Nat) : List Q4 := (List.range n).flatMap fun i => (List.range n).flatMap fun j => (List.range n).flatMap fun k => (List.range n).flatMap fun m => if i < j ∧ j < k ∧ k < m then [(i, j, k, m)] else []
def toS4 (q : Q4) : S79 := ⟨(q.1 : Int), (q.2.1 : Int), (q.2.2.1 : Int), (q.2.2.2 : Int)⟩
theorem quads_closed : (impl_quadsOf.f 300 3 = some ((quadQ 3).map toS4) ∧ impl_quadsOf.f 300 4 = some ((quadQ 4).map toS4) ∧ impl_quadsOf.f 300 5 = some ((quadQ 5).map toS4)) ∧ impl_quadsOf.f 300 6 = some ((quadQ 6).map toS4) ∧ impl_quadsOf.f 300 7 = some ((quadQ 7).map toS4) := by
  refine ⟨⟨?_, ?_, ?_⟩, ?_, ?_⟩ <;> kernel_rfl
theorem quads_ev {n : Nat} (h0 : 3 ≤ n) (h1 : n ≤ 7) : Ev (fun k => impl_quadsOf.f k (n : Int)) ((quadQ n).map toS4) := by
  obtain ⟨⟨h3, h4, h5⟩, h6, h7⟩ := quads_closed
  refine five (p := fun n => Ev (fun k => impl_quadsOf.f k (n : Int)) ((quadQ n).map toS4)) h0 h1 ?_ ?_ ?_ ?_ ?_
  · exact Ev.of (impl_quadsOf.mono 3) h3
  · exact Ev.of (impl_quadsOf.mono 4) h4
  · exact Ev.of (impl_quadsOf.mono 5) h5
  · exact Ev.of (impl_quadsOf.mono 6) h6
  · exact Ev.of (impl_quadsOf.mono 7) h7
def noX (x : Nat) (q : Q4) : Bool := decide (q.1 ≠ x) && decide (q.2.1 ≠ x) && decide (q.2.2.1 ≠ x) && decide (q.2.2.2 ≠ x)
def chkQ (n : Nat) : Bool := ((List.range n).all fun x => decide ((quadQ n).filter (noX x) = qs1 (othersN n x) 0 (othersN n x).length)) && ((quadQ n).all fun q => decide (q.1 < 7) && decide (q.2.1 < 7) && decide (q.2.2.1 < 7) && decide (q.2.2.2 < 7)) && decide ((quadQ n).length ≤ 100)
theorem chkQ_ok {n : Nat} (h0 : 3 ≤ n) (h1 : n ≤ 7) : chkQ n = true := by
  refine five (p := fun n => chkQ n = true) h0 h1 ?_ ?_ ?_ ?_ ?_ <;> decide +kernel
theorem rd_toS4 {qs : List Q4} {i : Nat} (h : i < qs.length) : rd_T79 (qs.map toS4) (i : Int) = toS4 qs[i] := by
  unfold rd_T79
  rw [Int.toNat_natCast, List.getD_eq_getElem?_getD, List.getElem?_map, List.getElem?_eq_getElem h]
  rfl
theorem ib1 {n : Nat} {t : ByteArray} {x : Nat} (hx : x < 7) (qs : List Q4) (hq : ∀ q ∈ qs, q.1 < 7 ∧ q.2.1 < 7 ∧ q.2.2.1 < 7 ∧ q.2.2.2 < 7) (hl : qs.length ≤ 100) (r : List Int) (d : Nat) : ∀ i : Nat, i + d = qs.length →
    After (srch n t x ((qs.drop i).filter (noX x))) (Ev (fun q => impl_chi_firstBreak.l0 q (tblL n t) ((x + 1 : Nat) : Int)) r) r → Ev (fun q => impl_chi_firstBreak.l1 q (tblL n t) (x : Int) (qs.map toS4) ((qs.map toS4).length : Int) (i : Int)) r := by
  induction d with
  | zero =>
    intro i hi hr
    rw [List.drop_of_length_le (by omega)] at hr
    refine ev_step ?_
    simp only [impl_chi_firstBreak.l1, List.length_map]
    refine ev_neg (by omega) ?_
    rw [wrap_id (by omega) (by omega)]
    exact hr
  | succ d ih =>
    intro i hi hr
    have hlt : i < qs.length := by omega
    rw [List.drop_eq_getElem_cons hlt, List.filter_cons] at hr
    have hn := ih (i + 1) (by omega)
    obtain ⟨b0, b1, b2, b3⟩ := hq _ (List.getElem_mem hlt)
    refine ev_step ?_
    simp only [impl_chi_firstBreak.l1, rd_toS4 hlt]
    generalize qs[i] = q at *
    obtain ⟨a, b, c, e⟩ := q
    simp only [toS4] at *
    refine ev_pos (by rw [List.length_map]; omega) (ev_pos (by omega) (ev_pos (by rw [List.length_map]; omega) ?_))
    rw [wrap_id (by omega) (by omega)]
    by_cases h0 : a = x
    · rw [if_neg (by simp [noX, h0])] at hr
      exact ev_pos (by omega) (hn hr)
    refine ev_neg (by omega) ?_
    by_cases h1 : b = x
    · rw [if_neg (by simp [noX, h1])] at hr
      exact ev_pos (by omega) (hn hr)
    refine ev_neg (by omega) ?_
    by_cases h2 : c = x
    · rw [if_neg (by simp [noX, h2])] at hr
      exact ev_pos (by omega) (hn hr)
    refine ev_neg (by omega) ?_
    by_cases h3 : e = x
    · rw [if_neg (by simp [noX, h3])] at hr
      exact ev_pos (by omega) (hn hr)
    refine ev_neg (by omega) (ev_call (impl_breaks n t hx b0 b1 b2 b3) ?_)
    rw [if_pos (by simp [noX, h0, h1, h2, h3])] at hr
    have hr := after_append (a := [(a, b, c, e)]) hr
    have es : srch n t x [(a, b, c, e)] = brkQ n t x (a, b, c, e) := by
      unfold srch
      rw [List.findSome?_cons]
      cases brkQ n t x (a, b, c, e) <;> rfl
    rw [es, brkQ] at hr
    by_cases hb : brk n t x a b c e = true
    · rw [if_pos hb] at hr
      exact ev_pos hb (ev_cast (Ev.now _) (Eq.symm hr))
    · rw [if_neg hb] at hr
      exact ev_neg hb (hn hr)
theorem impl_break_loop {n : Nat} {t : ByteArray} (h0 : 3 ≤ n) (h1 : n ≤ 7) (d : Nat) : ∀ x : Nat, x + d = n → Ev (fun q => impl_chi_firstBreak.l0 q (tblL n t) (x : Int)) (brkFrom n t x d) := by
  have hc := chkQ_ok h0 h1
  simp only [chkQ, Bool.and_eq_true, List.all_eq_true, List.mem_range, decide_eq_true_eq] at hc
  obtain ⟨⟨hc1, hc2⟩, hc3⟩ := hc
  induction d with
  | zero =>
    intro x hx
    refine ev_step ?_
    simp only [impl_chi_firstBreak.l0, tbl_n]
    exact ev_neg (by omega) (Ev.now _)
  | succ d ih =>
    intro x hx
    refine ev_step ?_
    simp only [impl_chi_firstBreak.l0, tbl_n]
    refine ev_pos (by omega) (Ev.bind (quads_ev h0 h1) ?_)
    refine ib1 (by omega) (quadQ n) (fun q hq => ?_) hc3 _ (quadQ n).length 0 (by omega) ?_
    · have := hc2 q hq
      exact ⟨this.1.1.1, this.1.1.2, this.1.2, this.2⟩
    rw [List.drop_zero, hc1 x (by omega), brkFrom]
    cases srch n t x (qs1 (othersN n x) 0 (othersN n x).length) with
    | some v => exact Eq.refl v
    | none => exact ih (x + 1) (by omega)
theorem impl_break (n : Int) (t : ByteArray) (hs : t.size ≤ 9223372036854775807) : Ev (fun k => impl_FirstBreak.f k n t) (brkA n t) := by
  unfold impl_FirstBreak.f brkA
  refine Ev.bind (impl_are n t hs) ?_
  by_cases h : areOk n t = true
  · rw [if_pos h]
    obtain ⟨⟨h0, h1⟩, _, _⟩ := (areOk_iff _ _).1 h
    obtain ⟨N, rfl⟩ : ∃ N : Nat, n = (N : Int) := Int.eq_ofNat_of_zero_le (by omega)
    exact ev_pos h (Ev.bind (tableOf_ev h) (ev_pos (tblL_length _ _) (Ev.bind (impl_break_loop (by omega) (by omega) N 0 (by omega)) (Ev.now _))))
  · rw [if_neg h]
    exact ev_neg h (Ev.now _)
theorem brkFrom_length (n : Nat) (t : ByteArray) (d : Nat) : ∀ x, (brkFrom n t x d).length ≤ 5 := by
  induction d with
  | zero => intro x; simp [brkFrom]
  | succ d ih =>
    intro x
    rw [brkFrom]
    cases hz : srch n t x (qs1 (othersN n x) 0 (othersN n x).length) with
    | none => exact ih (x + 1)
    | some v =>
      obtain ⟨q, _, hq⟩ := List.exists_of_findSome?_eq_some hz
      unfold brkQ at hq
      split at hq
      · cases hq; simp
      · cases hq
theorem brkA_length (n : Int) (t : ByteArray) : (brkA n t).length ≤ 5 := by
  unfold brkA
  split
  · exact brkFrom_length _ _ _ _
  · simp
end Go.Proofs.Ytbjncemaeagjjaa.M
namespace Go.Proofs.Ytbjncemaeagjjaa.G
open Go.RowKit Go.Proofs.YtbjncemaeagjjaaW.PrintWords Go.Proofs.YtbjncemaeagjjaaW.PrintLast Go.Proofs.YtbjncemaeagjjaaW.PrintMore Go.Proofs.Ytbjncemaeagjjaa.PX Go.Proofs.Ytbjncemaeagjjaa.M
set_option linter.unusedVariables false
set_option linter.unusedSimpArgs false
def matOk (n : Int) (t : ByteArray) : Bool := areOk n t && (brkA n t).isEmpty
def impl_IsMatroid.f (n : Int) (t : ByteArray) : Option Bool := if t.size ≤ 9223372036854775807 then some (matOk n t) else none
theorem both_at {α β : Type} {f : Nat → Option α} {g : Nat → Option β} {a : α} {b : β} (h1 : Ev f a) (h2 : Ev g b) : ∃ k, f k = some a ∧ g k = some b := by
  obtain ⟨K1, e1⟩ := h1
  obtain ⟨K2, e2⟩ := h2
  exact ⟨K1 + K2, e1 _ (by omega), e2 _ (by omega)⟩
/-- A call in a region, under a guard that lets it. -/
theorem goesW_ {P : Program} {ops : Array Oper} {Q : Exit → Act → World → Prop} {rest : List Oper} {oi : Oper} {a : Act} {w : World} (N : Option Tmp) (hd : oi.dst = N) (hw : Region.wanted oi (yielded ops a.tmps) = true) {f : FuncId} {fn : Func} {az : Array Operand} {ts : Array TypeId} (hf : P.funcs[f]? = some fn) (hname : (fn.name == "runtime.NumGoroutine") = false) (hb : fn.body.isSome = true) (args : Array Value)
    (hop : oi.op = .call { callee := .value (.func f), args := az, argTypes := ts }) (hargs : az.map a.eval = args)
    (h : Calls P f args w fun e w' => ∃ v, e = .returned v ∧ wpList P ops Q rest (a.put N v) w') : wpList P ops Q (oi :: rest) a w := by
  refine BigFrame.wpList_want hw fun K hK => ?_
  have he := enters_ hf hname hb args w
  have hrun : (execOp a.eval oi).run P w = .ok (.enter f args) w := by
    unfold execOp
    simp [hop, resolve, Deferred.ofValue, invoke, Act.eval, hargs, he]
  unfold Oper.wp
  rw [hrun, Oper.upon_enter]
  refine h.mono fun e w'' hh => ?_
  obtain ⟨v, rfl, hk⟩ := hh
  subst hd
  exact hK _ _ hk
set_option maxHeartbeats 8000000 in
set_option maxRecDepth 100000 in
theorem impl_IsMatroid.calls (a0_0 : Int) (a0_1 : ByteArray) (r : Bool) (w : World) (h : impl_IsMatroid.f a0_0 a0_1 = some r) :
    Calls Try.prog 67 #[.agg #[.int .i64 a0_0, .string a0_1]] w fun e w' => e = .returned (.bool r) ∧ Below w.heap.size w w' := by
  unfold impl_IsMatroid.f at h
  by_cases hs : a0_1.size ≤ 9223372036854775807
  · rw [if_pos hs] at h
    obtain ⟨k, h1, h2⟩ := both_at (impl_are a0_0 a0_1 hs) (impl_break a0_0 a0_1 hs)
    obtain rfl := Option.some.inj h
    clear h hs
    unfold matOk
    generalize areOk a0_0 a0_1 = b at h1 ⊢
    generalize brkA a0_0 a0_1 = l at h2 ⊢
    have A2 := Aside0.mk h1
    have A6 := Aside0.mk h2
    clear h1 h2
    have hu26 := Try.underlying26
    have q38 : ∀ (w : World) (a : Option Addr) (l c : Nat), (binOp .eql 34 (.slice a l c) (.slice none 0 0)).run Try.prog w = .ok (.bool a.isNone) w := fun w a l c => by
      simp [binOp, run_equal_slice_nil w 34 3 a l c Try.underlying34]
    have HB := Aside0.mk (Below.refl w.heap.size w)
    cases b with
    | false =>
      go_enter Try.func67, Try.ntmps67
      go_wp2_with (first | ((with_reducible refine gate_dst (N := 1) rfl ?_); refine box_event ?hg (N := 1) ?hd (cs := #[.int .i64 a0_0, .string a0_1]) (t := 26) ?hr ?_; (case hd => rfl); (case hg => rfl); (case hr => first | (go_simp; done) | (go_simp; rfl)); intro gb hg w7 hbox hb; have n0_ := Aside0.mk (below_step (by repeat (first | (with_reducible first | exact HB.out | apply below_alloc | apply pw_below_drewN | apply below_drew1) | exact HB.out)) hb); have n1_ := Aside0.mk hbox; clear HB; have HB := n0_; have BK := n1_; clear n0_ n1_; clear hb hbox hg; have hcz0 : w7.cell? ⟨gb, 0, none⟩ = some (.int .i64 a0_0) := (blk_cell BK.out 0).trans rfl; have hcz1 : w7.cell? ⟨gb, 1, none⟩ = some (.string a0_1) := (blk_cell BK.out 1).trans rfl; have hfz0 := blk_frozen BK.out 0; have hfz1 := blk_frozen BK.out 1) | ((with_reducible refine gate_callee (f := 86) rfl ?_); refine goesL_ (some 4) rfl rfl Try.func86 (by kernel_rfl) rfl #[.agg #[.int .i64 a0_0, .string a0_1]] rfl (by (try simp only [List.map_toArray, List.map_cons, List.map_nil]); first | done | rfl) ?_; (with_reducible refine (impl_AreSigns.calls k a0_0 a0_1 false _ A2.out).mono ?_); rintro e w9 ⟨rfl, hb⟩; refine ⟨_, rfl, ?_⟩; have n1_ := Aside0.mk (below_step (by repeat (first | (with_reducible first | exact HB.out | apply below_alloc | apply pw_below_drewN | apply below_drew1) | exact HB.out)) hb); clear HB; have HB := n1_; clear n1_; (try clear hb)))
      go_ret
      exact ⟨rfl, by repeat (first | (with_reducible first | exact HB.out | apply below_alloc | apply pw_below_drewN | apply below_drew1) | exact HB.out)⟩
    | true =>
      cases l with
      | nil =>
        go_enter Try.func67, Try.ntmps67
        go_wp2_with (first | ((with_reducible refine gate_dst (N := 1) rfl ?_); refine box_event ?hg (N := 1) ?hd (cs := #[.int .i64 a0_0, .string a0_1]) (t := 26) ?hr ?_; (case hd => rfl); (case hg => rfl); (case hr => first | (go_simp; done) | (go_simp; rfl)); intro gb hg w7 hbox hb; have n0_ := Aside0.mk (below_step (by repeat (first | (with_reducible first | exact HB.out | apply below_alloc | apply pw_below_drewN | apply below_drew1) | exact HB.out)) hb); have n1_ := Aside0.mk hbox; clear HB; have HB := n0_; have BK := n1_; clear n0_ n1_; clear hb hbox hg; have hcz0 : w7.cell? ⟨gb, 0, none⟩ = some (.int .i64 a0_0) := (blk_cell BK.out 0).trans rfl; have hcz1 : w7.cell? ⟨gb, 1, none⟩ = some (.string a0_1) := (blk_cell BK.out 1).trans rfl; have hfz0 := blk_frozen BK.out 0; have hfz1 := blk_frozen BK.out 1) | ((with_reducible refine gate_callee (f := 86) rfl ?_); refine goesL_ (some 4) rfl rfl Try.func86 (by kernel_rfl) rfl #[.agg #[.int .i64 a0_0, .string a0_1]] rfl (by (try simp only [List.map_toArray, List.map_cons, List.map_nil]); first | done | rfl) ?_; (with_reducible refine (impl_AreSigns.calls k a0_0 a0_1 true _ A2.out).mono ?_); rintro e w9 ⟨rfl, hb⟩; refine ⟨_, rfl, ?_⟩; have n0_ := Aside0.mk (blk_below (g := gb) (o := .cells #[.int .i64 a0_0, .string a0_1] 26 (0, 0)) (by (with_reducible repeat (first | refine blk_drewN ?_ _ | refine blk_drew ?_ | refine blk_alloc ?_ _)); exact BK.out) hb); have n1_ := Aside0.mk (below_step (by repeat (first | (with_reducible first | exact HB.out | apply below_alloc | apply pw_below_drewN | apply below_drew1) | exact HB.out)) hb); clear BK; clear HB; have BK := n0_; have HB := n1_; clear n0_ n1_; (try clear hb); have hdz0 : w9.cell? ⟨gb, 0, none⟩ = some (.int .i64 a0_0) := (blk_cell BK.out 0).trans rfl; have hdz1 : w9.cell? ⟨gb, 1, none⟩ = some (.string a0_1) := (blk_cell BK.out 1).trans rfl; have hfy0 := blk_frozen BK.out 0; have hfy1 := blk_frozen BK.out 1) | ((with_reducible refine gate_callee (f := 87) rfl ?_); refine goesW_ (some 7) rfl rfl Try.func87 (by kernel_rfl) rfl #[.agg #[.int .i64 a0_0, .string a0_1]] rfl (by (try simp only [List.map_toArray, List.map_cons, List.map_nil]); first | done | rfl) ?_; (with_reducible refine (impl_FirstBreak.callsN k a0_0 a0_1 [] _ A6.out).mono ?_); rintro e w11 ⟨v1, rfl, ⟨ho0, hn0⟩, hb⟩; refine ⟨_, rfl, ?_⟩; have n1_ := Aside0.mk (below_step (by repeat (first | (with_reducible first | exact HB.out | apply below_alloc | apply pw_below_drewN | apply below_drew1) | exact HB.out)) hb); clear HB; have HB := n1_; clear n1_; (try clear hb); obtain rfl := hn0 rfl; clear ho0))
        go_ret
        exact ⟨rfl, by repeat (first | (with_reducible first | exact HB.out | apply below_alloc | apply pw_below_drewN | apply below_drew1) | exact HB.out)⟩
      | cons x_ xs_ =>
        go_enter Try.func67, Try.ntmps67
        go_wp2_with (first | ((with_reducible refine gate_dst (N := 1) rfl ?_); refine box_event ?hg (N := 1) ?hd (cs := #[.int .i64 a0_0, .string a0_1]) (t := 26) ?hr ?_; (case hd => rfl); (case hg => rfl); (case hr => first | (go_simp; done) | (go_simp; rfl)); intro gb hg w7 hbox hb; have n0_ := Aside0.mk (below_step (by repeat (first | (with_reducible first | exact HB.out | apply below_alloc | apply pw_below_drewN | apply below_drew1) | exact HB.out)) hb); have n1_ := Aside0.mk hbox; clear HB; have HB := n0_; have BK := n1_; clear n0_ n1_; clear hb hbox hg; have hcz0 : w7.cell? ⟨gb, 0, none⟩ = some (.int .i64 a0_0) := (blk_cell BK.out 0).trans rfl; have hcz1 : w7.cell? ⟨gb, 1, none⟩ = some (.string a0_1) := (blk_cell BK.out 1).trans rfl; have hfz0 := blk_frozen BK.out 0; have hfz1 := blk_frozen BK.out 1) | ((with_reducible refine gate_callee (f := 86) rfl ?_); refine goesL_ (some 4) rfl rfl Try.func86 (by kernel_rfl) rfl #[.agg #[.int .i64 a0_0, .string a0_1]] rfl (by (try simp only [List.map_toArray, List.map_cons, List.map_nil]); first | done | rfl) ?_; (with_reducible refine (impl_AreSigns.calls k a0_0 a0_1 true _ A2.out).mono ?_); rintro e w9 ⟨rfl, hb⟩; refine ⟨_, rfl, ?_⟩; have n0_ := Aside0.mk (blk_below (g := gb) (o := .cells #[.int .i64 a0_0, .string a0_1] 26 (0, 0)) (by (with_reducible repeat (first | refine blk_drewN ?_ _ | refine blk_drew ?_ | refine blk_alloc ?_ _)); exact BK.out) hb); have n1_ := Aside0.mk (below_step (by repeat (first | (with_reducible first | exact HB.out | apply below_alloc | apply pw_below_drewN | apply below_drew1) | exact HB.out)) hb); clear BK; clear HB; have BK := n0_; have HB := n1_; clear n0_ n1_; (try clear hb); have hdz0 : w9.cell? ⟨gb, 0, none⟩ = some (.int .i64 a0_0) := (blk_cell BK.out 0).trans rfl; have hdz1 : w9.cell? ⟨gb, 1, none⟩ = some (.string a0_1) := (blk_cell BK.out 1).trans rfl; have hfy0 := blk_frozen BK.out 0; have hfy1 := blk_frozen BK.out 1) | ((with_reducible refine gate_callee (f := 87) rfl ?_); refine goesW_ (some 7) rfl rfl Try.func87 (by kernel_rfl) rfl #[.agg #[.int .i64 a0_0, .string a0_1]] rfl (by (try simp only [List.map_toArray, List.map_cons, List.map_nil]); first | done | rfl) ?_; (with_reducible refine (impl_FirstBreak.callsN k a0_0 a0_1 (x_ :: xs_) _ A6.out).mono ?_); rintro e w11 ⟨v1, rfl, ⟨ho0, hn0⟩, hb⟩; refine ⟨_, rfl, ?_⟩; have n1_ := Aside0.mk (below_step (by repeat (first | (with_reducible first | exact HB.out | apply below_alloc | apply pw_below_drewN | apply below_drew1) | exact HB.out)) hb); clear HB; have HB := n1_; clear n1_; (try clear hb); obtain ⟨Ao_, co_, rfl⟩ := Kd.R_slice ho0; obtain ⟨ad_, ea_, _⟩ := Kd.at_int (Kd.R_reads' ho0).2.2 0 (by omega) (by simp only [List.length_cons]; omega); cases ea_; clear hn0 ho0))
        go_ret
        exact ⟨rfl, by repeat (first | (with_reducible first | exact HB.out | apply below_alloc | apply pw_below_drewN | apply below_drew1) | exact HB.out)⟩
  · rw [if_neg hs] at h
    cases h
end Go.Proofs.Ytbjncemaeagjjaa.G
namespace Go.Proofs.Ytbjncemaeagjjaa.PX
open Go.RowKit Go.Proofs.Ytbjncemaeagjjaa.G Go.Proofs.YtbjncemaeagjjaaW.PrintWords Go.Proofs.YtbjncemaeagjjaaW.PrintLast Go.Proofs.YtbjncemaeagjjaaW.PrintMore
attribute [local go_sem] max2_int min2_int max_two min_two max_three min_three max_four min_four   -- for this text's walks alone
set_option linter.unusedVariables false
set_option linter.unusedSimpArgs false
/-! ### laws_markIntS: function 24 -/
def laws_markIntS.l0 : Nat → List Int → Int → Int → Option (Int × List Int)
 | 0, _, _, _ => none
 | k + 1, x0, x1, x5 => if x5 < (x0.length : Int) then (if 0 ≤ x5 then (laws_markIntS.l0 k (x0.set (x5 : Int).toNat x1) (wrap64 (x1 + 1)) (wrap64 (x5 + 1))) else (none)) else (some (x1, x0))
def laws_markIntS.f (k : Nat) (l0 : List Int) (a1 : Int) : Option (Int × List Int) := laws_markIntS.l0 k l0 a1 0
theorem laws_markIntS.mono_l : ∀ k, (∀ y0 y1 y2, LeO (laws_markIntS.l0 k y0 y1 y2) (laws_markIntS.l0 (k + 1) y0 y1 y2))
 | 0 => fun _ _ _ r h => by simp [laws_markIntS.l0] at h
 | k + 1 => by
  have ih0 := laws_markIntS.mono_l k
  ·intro y0 y1 y2
   unfold laws_markIntS.l0
   repeat' first
   | (with_reducible exact ih0 _ _ _)
   | (with_reducible exact LeO.refl _)
   | (with_reducible exact LeO.none _)
   | (with_reducible refine LeO.ite ?_ ?_)
   | (with_reducible refine LeO.bind ?_ (fun _ => ?_))
   | exact ih0 _ _ _
   | exact LeO.none _
   | refine LeO.ite ?_ ?_
   | refine LeO.bind ?_ (fun _ => ?_)
theorem laws_markIntS.mono : ∀ a0 a1 k, LeO (laws_markIntS.f k a0 a1) (laws_markIntS.f (k + 1) a0 a1) := by
 intro a0 a1 k
 have ih0 := laws_markIntS.mono_l k
 unfold laws_markIntS.f
 repeat' first
   | (with_reducible exact ih0 _ _ _)
   | (with_reducible exact LeO.refl _)
   | (with_reducible exact LeO.none _)
   | (with_reducible refine LeO.ite ?_ ?_)
   | (with_reducible refine LeO.bind ?_ (fun _ => ?_))
   | exact ih0 _ _ _
   | exact LeO.none _
   | refine LeO.ite ?_ ?_
   | refine LeO.bind ?_ (fun _ => ?_)
set_option maxHeartbeats 8000000 in
set_option maxRecDepth 100000 in
theorem laws_markIntS.calls (k : Nat) (P0_ : Nat → Prop) (u9000_ : Value) (l0 : List Int) (a1 : Int) (r1 : Int) (r2 : List Int) (w0 w : World) (hB : Below w0.heap.size w0 w) (ho0 : Kd.R (Kd.int .i64) 3 w w0.heap.size P0_ u9000_ l0) (h : laws_markIntS.f k l0 a1 = some (r1, r2)) :
  Calls Try.prog 24 #[u9000_, .int .i64 a1] w fun e w' => e = .returned (.int .i64 r1) ∧ Kd.R (Kd.int .i64) 3 w' w0.heap.size (fun k_ => (P0_ k_ ∨ w.heap.size ≤ k_)) u9000_ r2 ∧ Below w0.heap.size w0 w' ∧ Kept w w' (fun k_ => P0_ k_) := by
 have HO0 := Aside0.mk (show Kd.R (Kd.int .i64) 3 w w0.heap.size (fun k_ => (P0_ k_ ∨ w.heap.size ≤ k_)) u9000_ l0 from Kd.R_mono ho0 (fun k_ hk => (.inl hk)))
 have HK := Aside0.mk (Kept.refl w (fun k_ => P0_ k_))
 have HW0 := Aside0.mk hB.size
 have HB := Aside0.mk hB
 clear hB
 have H : (laws_markIntS.l0 k l0 a1 0) = some (r1, r2) := h
 clear h
 have H' := Aside0.mk H
 clear H
 go_enter Try.func24, Try.ntmps24
 go_wp2
 go_loopg [1, 5] k (fun kq v1 v5 w' => ∃ (x0_1 : List Int) (x1_1 : Int) (x5_1 : Int), v1 = .int .i64 x1_1 ∧ v5 = .int .i64 x5_1 ∧ Aside0 (laws_markIntS.l0 kq x0_1 x1_1 x5_1 = some (r1, r2)) ∧ Aside0 (kq ≤ k) ∧ Aside0 (Kd.R (Kd.int .i64) 3 w' w0.heap.size (fun k_ => (P0_ k_ ∨ w.heap.size ≤ k_)) u9000_ x0_1) ∧ Aside0 (Kept w w' (fun k_ => P0_ k_)) ∧ Aside0 (Below w0.heap.size w0 w'))
 case atStart => exact ⟨(l0), (a1), (0), zF, zF, H', ⟨Nat.le_refl _⟩, ⟨zR HO0.out⟩, ⟨by repeat (first | (with_reducible first | exact HK.out | apply Kept.alloc | apply Kept.drewN | apply Kept.drew) | exact HK.out)⟩, ⟨zB⟩⟩
 case round =>
  clear H'
  try clear c2
  try clear p2
  obtain ⟨x0_1, x1_1, x5_1, rfl, rfl, HA, HK1, HO_0, HK, HB⟩ := hrel
  cases gk with
  | zero => exact absurd HA.out (by simp [laws_markIntS.l0])
  | succ k1 =>
   have H := HA.out
   clear HA
   simp only [laws_markIntS.l0] at H
   by_cases c3 : x5_1 < (x0_1.length : Int)
   ·rw [if_pos c3] at H
    have c3b0 : decide (x5_1 < (x0_1.length : Int)) = true := decide_eq_true c3
    clear c3
    by_cases c4 : 0 ≤ x5_1
    ·rw [if_pos c4] at H
     have c4b0 : decide (0 ≤ x5_1) = true := decide_eq_true c4
     clear c4
     obtain ⟨y321, hy321⟩ : ∃ y_ : List Int, y_ = (x0_1.set (x5_1 : Int).toNat x1_1) := ⟨_, rfl⟩
     replace H : (laws_markIntS.l0 k1 y321 (wrap64 (x1_1 + 1)) (wrap64 (x5_1 + 1))) = some (r1, r2) := by first | (rw [hy321]; with_reducible exact H) | (have H2_ := (Option.bind_some _ _).symm.trans H; rw [hy321]; with_reducible exact H2_) | (have H2_ := (Option.bind_some _ _).symm.trans H; with_reducible exact H2_) | with_reducible exact H | (rw [hy321]; exact H) | exact H
     have Ny321 := Aside0.mk hy321
     clear hy321
     have H' := Aside0.mk H
     clear H
     obtain ⟨Ao6, co6, eo6⟩ := Kd.R_slice HO_0.out
     subst eo6
     have p5 : 0 ≤ (x5_1 : Int) := zA
     have q5 : (x5_1 : Int) < ((x0_1.length : Int) : Int) := zA
     obtain ⟨go5, co5, eo5, gb5, gl5, cl5, HG5⟩ := Kd.R_form HO_0.out (by omega)
     (first | cases eo5 | (injection eo5 with ea_ en_ ec_; (first | subst ea_ | (injection ea_ with ea_; subst ea_)); subst ec_; clear en_))
     have GB5 := Aside0.mk gb5
     have GG5 := Aside0.mk HG5
     clear gb5 gl5 HG5
     have HMgo5 := Aside0.mk (show (P0_ go5 ∨ w.heap.size ≤ go5) from (HO_0.out.1 _ rfl))
     obtain ⟨hx5_0, hf5_0⟩ := Kd.R_celln 0 HO_0.out (x5_1 : Int) p5 q5
     replace p5 := eq_true p5
     replace q5 := eq_true q5
     have HP7 := Kd.R_putg HO_0.out (x5_1 : Int) x1_1
     go_wp2_with (first | ((with_reducible refine gate_store (t := 3) (p := 15) rfl ?_); refine store_event (t := 3) (p := 15) (v := ?vo_w8) (w1 := (wr.setCell ⟨go5, (x5_1 : Int).toNat, none⟩ (.int .i64 x1_1))) ?hg ?ho ?hn ?hr ?_; (case ho => rfl); (case hg => rfl); (case hn => rfl); (case hr => first | (go_simp; done) | (go_simp; rfl)); intro w8 hw; have hg : wr.grownBy w8 (some go5) := (by rw [hw]; exact HP7.2); have hp_ : Kd.R (Kd.int .i64) 3 w8 w0.heap.size (fun k_ => (P0_ k_ ∨ w.heap.size ≤ k_)) (.slice (some ⟨go5, 0, none⟩) x0_1.length co6) y321 := (by rw [hw, Ny321.out]; exact HP7.1); clear HP7; have n0_ := Aside0.mk (hp_); have n1_ := Aside0.mk ((by rw [hw]; exact below_set (HB.out) GB5.out : Below w0.heap.size w0 w8)); have n2_ := Aside0.mk (Kept.of_grown (S := (fun k_ => P0_ k_)) hg (by repeat (first | (with_reducible first | exact HK.out | apply Kept.alloc | apply Kept.drewN | apply Kept.drew) | exact HK.out)) (fun k_ e_ => (HO_0.out.1 k_ e_))); clear HO_0; clear HB; clear HK; have HO_0 := n0_; have HB := n1_; have HK := n2_; clear n0_ n1_ n2_; clear hg hw hp_))
     go_roundg k1
     case measure => have := HK1.out; omega
     case rel => exact ⟨(y321), (wrap64 (x1_1 + 1)), (wrap64 (x5_1 + 1)), zF, zF, H', ⟨by have := HK1.out; omega⟩, ⟨zR HO_0.out⟩, ⟨by repeat (first | (with_reducible first | exact HK.out | apply Kept.alloc | apply Kept.drewN | apply Kept.drew) | exact HK.out)⟩, ⟨zB⟩⟩
    ·rw [if_neg c4] at H
     exact absurd H (by simp)
   ·rw [if_neg c3] at H
    have c3b0 : decide (x5_1 < (x0_1.length : Int)) = false := decide_eq_false c3
    clear c3
    simp only [Option.some.injEq, Prod.mk.injEq] at H
    obtain ⟨rfl, rfl⟩ := H
    obtain ⟨Ao9, co9, eo9⟩ := Kd.R_slice HO_0.out
    subst eo9
    go_wp2
    go_ret
    exact ⟨zE, zR HO_0.out, zB, by repeat (first | (with_reducible first | exact HK.out | apply Kept.alloc | apply Kept.drewN | apply Kept.drew) | exact HK.out)⟩
/-! ### laws_szSigns: function 12 -/
def laws_szSigns.f (a0_0 : Int) (a0_1 : ByteArray) (a1 : Int) : Option (Int) := if (wrap64 (a1 - (a0_1.size : Int))) < 0 then (some (-1)) else (some (wrap64 (a1 - (a0_1.size : Int))))
set_option maxHeartbeats 8000000 in
set_option maxRecDepth 100000 in
theorem laws_szSigns.calls (a0_0 : Int) (a0_1 : ByteArray) (a1 : Int) (r : Int) (w : World) (h : laws_szSigns.f a0_0 a0_1 a1 = some r) :
  Calls Try.prog 12 #[.agg #[.int .i64 a0_0, .string a0_1], .int .i64 a1] w fun e w' => e = .returned (.int .i64 r) ∧ Below w.heap.size w w' := by
 have hu23 := Try.underlying23
 have HB := Aside0.mk (Below.refl w.heap.size w)
 have H : (if (wrap64 (a1 - (a0_1.size : Int))) < 0 then (some (-1)) else (some (wrap64 (a1 - (a0_1.size : Int))))) = some r := h
 clear h
 by_cases c3 : (wrap64 (a1 - (a0_1.size : Int))) < 0
 ·rw [if_pos c3] at H
  have c3b0 : decide ((wrap64 (a1 - (a0_1.size : Int))) < 0) = true := decide_eq_true c3
  clear c3
  obtain rfl := Option.some.inj H
  go_enter Try.func12, Try.ntmps12
  go_wp2_with (first | ((with_reducible refine gate_dst (N := 2) rfl ?_); refine box_event ?hg (N := 2) ?hd (cs := #[.int .i64 a0_0, .string a0_1]) (t := 23) ?hr ?_; (case hd => rfl); (case hg => rfl); (case hr => first | (go_simp; done) | (go_simp; rfl)); intro gb101 hg w4 hbox hb; have BK101 := Aside0.mk (hbox); have GW101 := Aside0.mk ((by rw [hg]; exact (below_size zB) : w.heap.size ≤ gb101)); have GE101 := Aside0.mk ((by rw [hg]; exact (below_size zB) : w.heap.size ≤ gb101)); replace HB := Aside0.mk (below_step zB hb); clear hb hbox hg; have hcz5_0 : w4.cell? ⟨gb101, 0, none⟩ = some (.int .i64 a0_0) := (blk_cell BK101.out 0).trans rfl; have hcz5_1 : w4.cell? ⟨gb101, 1, none⟩ = some (.string a0_1) := (blk_cell BK101.out 1).trans rfl; have hfz5_0 := blk_frozen BK101.out 0; have hfz5_1 := blk_frozen BK101.out 1))
  go_ret
  exact ⟨zE, zG GE101.out⟩
 ·rw [if_neg c3] at H
  have c3b0 : decide ((wrap64 (a1 - (a0_1.size : Int))) < 0) = false := decide_eq_false c3
  clear c3
  obtain rfl := Option.some.inj H
  go_enter Try.func12, Try.ntmps12
  go_wp2_with (first | ((with_reducible refine gate_dst (N := 2) rfl ?_); refine box_event ?hg (N := 2) ?hd (cs := #[.int .i64 a0_0, .string a0_1]) (t := 23) ?hr ?_; (case hd => rfl); (case hg => rfl); (case hr => first | (go_simp; done) | (go_simp; rfl)); intro gb101 hg w6 hbox hb; have BK101 := Aside0.mk (hbox); have GW101 := Aside0.mk ((by rw [hg]; exact (below_size zB) : w.heap.size ≤ gb101)); have GE101 := Aside0.mk ((by rw [hg]; exact (below_size zB) : w.heap.size ≤ gb101)); replace HB := Aside0.mk (below_step zB hb); clear hb hbox hg; have hcz7_0 : w6.cell? ⟨gb101, 0, none⟩ = some (.int .i64 a0_0) := (blk_cell BK101.out 0).trans rfl; have hcz7_1 : w6.cell? ⟨gb101, 1, none⟩ = some (.string a0_1) := (blk_cell BK101.out 1).trans rfl; have hfz7_0 := blk_frozen BK101.out 0; have hfz7_1 := blk_frozen BK101.out 1))
  go_ret
  exact ⟨zE, zG GE101.out⟩
/-! ### laws_toSigns: function 14 -/
def laws_toSigns.f (a0_0 : Int) (a0_1 : ByteArray) : Option (Int × ByteArray) := some (a0_0, a0_1)
set_option maxHeartbeats 8000000 in
set_option maxRecDepth 100000 in
theorem laws_toSigns.calls (a0_0 : Int) (a0_1 : ByteArray) (r1 : Int) (r2 : ByteArray) (w : World) (h : laws_toSigns.f a0_0 a0_1 = some (r1, r2)) :
  Calls Try.prog 14 #[.agg #[.int .i64 a0_0, .string a0_1]] w fun e w' => e = .returned (.agg #[.int .i64 r1, .string r2]) ∧ Below w.heap.size w w' := by
 have hu23 := Try.underlying23
 have hu26 := Try.underlying26
 have HB := Aside0.mk (Below.refl w.heap.size w)
 have H : (some (a0_0, a0_1)) = some (r1, r2) := h
 clear h
 simp only [Option.some.injEq, Prod.mk.injEq] at H
 obtain ⟨rfl, rfl⟩ := H
 go_enter Try.func14, Try.ntmps14
 go_wp2_with (first | ((with_reducible refine gate_dst (N := 1) rfl ?_); refine box_event ?hg (N := 1) ?hd (cs := #[.int .i64 a0_0, .string a0_1]) (t := 23) ?hr ?_; (case hd => rfl); (case hg => rfl); (case hr => first | (go_simp; done) | (go_simp; rfl)); intro gb174 hg w2 hbox hb; have BK174 := Aside0.mk (hbox); have GW174 := Aside0.mk ((by rw [hg]; exact (below_size zB) : w.heap.size ≤ gb174)); have GE174 := Aside0.mk ((by rw [hg]; exact (below_size zB) : w.heap.size ≤ gb174)); replace HB := Aside0.mk (below_step zB hb); clear hb hbox hg) | ((with_reducible refine gate_dst (N := 2) rfl ?_); refine box_event ?hg (N := 2) ?hd (cs := #[.int .i64 0, .string (⟨#[]⟩ : ByteArray)]) (t := 26) ?hr ?_; (case hd => rfl); (case hg => rfl); (case hr => first | (go_simp; done) | (go_simp; rfl)); intro gb175 hg w3 hbox hb; have n0_ := Aside0.mk (blk_below (g := gb174) (o := .cells #[.int .i64 a0_0, .string a0_1] 23 (0, 0)) (zK BK174.out) hb); have n1_ := Aside0.mk (below_step (zG GE174.out) hb); have n2_ := Aside0.mk (hbox); have n3_ := Aside0.mk ((by rw [hg]; exact (below_size (zG GE174.out)) : w.heap.size ≤ gb175)); have n4_ := Aside0.mk ((by rw [hg]; exact (below_size (zG GE174.out)) : w.heap.size ≤ gb175)); have n5_ := Aside0.mk ((by rw [hg]; exact Nat.ne_of_lt (blk_lt (g := gb174) (o := .cells #[.int .i64 a0_0, .string a0_1] 23 (0, 0)) (zK BK174.out)) : gb174 ≠ gb175)); have n6_ := Aside0.mk ((by rw [hg]; exact Nat.ne_of_gt (blk_lt (g := gb174) (o := .cells #[.int .i64 a0_0, .string a0_1] 23 (0, 0)) (zK BK174.out)) : gb175 ≠ gb174)); clear BK174; clear HB; have BK174 := n0_; have HB := n1_; have BK175 := n2_; have GW175 := n3_; have GE175 := n4_; have NB174_175 := n5_; have NB175_174 := n6_; clear n0_ n1_ n2_ n3_ n4_ n5_ n6_; clear hb hbox hg) | ((with_reducible refine gate_dst (N := 3) rfl ?_); refine box_event ?hg (N := 3) ?hd (cs := #[.int .i64 0, .string (⟨#[]⟩ : ByteArray)]) (t := 26) ?hr ?_; (case hd => rfl); (case hg => rfl); (case hr => first | (go_simp; done) | (go_simp; rfl)); intro gb176 hg w4 hbox hb; have n0_ := Aside0.mk (blk_below (g := gb174) (o := .cells #[.int .i64 a0_0, .string a0_1] 23 (0, 0)) (zK BK174.out) hb); have n1_ := Aside0.mk (blk_below (g := gb175) (o := .cells #[.int .i64 0, .string (⟨#[]⟩ : ByteArray)] 26 (0, 0)) (zK BK175.out) hb); have n2_ := Aside0.mk (below_step (by repeat (first | (with_reducible first | exact HB.out | apply below_alloc | apply pw_below_drewN | apply below_drew1 | refine below_set ?_ GE174.out | refine below_set ?_ GE175.out) | exact HB.out)) hb); have n3_ := Aside0.mk (hbox); have n4_ := Aside0.mk ((by rw [hg]; exact (below_size (by repeat (first | (with_reducible first | exact HB.out | apply below_alloc | apply pw_below_drewN | apply below_drew1 | refine below_set ?_ GE174.out | refine below_set ?_ GE175.out) | exact HB.out))) : w.heap.size ≤ gb176)); have n5_ := Aside0.mk ((by rw [hg]; exact (below_size (by repeat (first | (with_reducible first | exact HB.out | apply below_alloc | apply pw_below_drewN | apply below_drew1 | refine below_set ?_ GE174.out | refine below_set ?_ GE175.out) | exact HB.out))) : w.heap.size ≤ gb176)); have n6_ := Aside0.mk ((by rw [hg]; exact Nat.ne_of_lt (blk_lt (g := gb174) (o := .cells #[.int .i64 a0_0, .string a0_1] 23 (0, 0)) (zK BK174.out)) : gb174 ≠ gb176)); have n7_ := Aside0.mk ((by rw [hg]; exact Nat.ne_of_gt (blk_lt (g := gb174) (o := .cells #[.int .i64 a0_0, .string a0_1] 23 (0, 0)) (zK BK174.out)) : gb176 ≠ gb174)); have n8_ := Aside0.mk ((by rw [hg]; exact Nat.ne_of_lt (blk_lt (g := gb175) (o := .cells #[.int .i64 0, .string (⟨#[]⟩ : ByteArray)] 26 (0, 0)) (zK BK175.out)) : gb175 ≠ gb176)); have n9_ := Aside0.mk ((by rw [hg]; exact Nat.ne_of_gt (blk_lt (g := gb175) (o := .cells #[.int .i64 0, .string (⟨#[]⟩ : ByteArray)] 26 (0, 0)) (zK BK175.out)) : gb176 ≠ gb175)); clear BK174; clear BK175; clear HB; have BK174 := n0_; have BK175 := n1_; have HB := n2_; have BK176 := n3_; have GW176 := n4_; have GE176 := n5_; have NB174_176 := n6_; have NB176_174 := n7_; have NB175_176 := n8_; have NB176_175 := n9_; clear n0_ n1_ n2_ n3_ n4_ n5_ n6_ n7_ n8_ n9_; clear hb hbox hg; have hnb5 := NB174_175.out; have hnc5 := NB175_174.out; have hnb6 := NB174_176.out; have hnc6 := NB176_174.out; have hcz7_0 : w4.cell? ⟨gb174, 0, none⟩ = some (.int .i64 a0_0) := (blk_cell BK174.out 0).trans rfl; have hcz7_1 : w4.cell? ⟨gb174, 1, none⟩ = some (.string a0_1) := (blk_cell BK174.out 1).trans rfl; have hfz7_0 := blk_frozen BK174.out 0; have hfz7_1 := blk_frozen BK174.out 1; have hnb8 := NB176_175.out; have hnc8 := NB175_176.out; have hcz9_0 : w4.cell? ⟨gb176, 0, none⟩ = some (.int .i64 0) := (blk_cell BK176.out 0).trans rfl; have hcz9_1 : w4.cell? ⟨gb176, 1, none⟩ = some (.string (⟨#[]⟩ : ByteArray)) := (blk_cell BK176.out 1).trans rfl; have hfz9_0 := blk_frozen BK176.out 0; have hfz9_1 := blk_frozen BK176.out 1; have hcz10_0 : w4.cell? ⟨gb175, 0, none⟩ = some (.int .i64 0) := (blk_cell BK175.out 0).trans rfl; have hcz10_1 : w4.cell? ⟨gb175, 1, none⟩ = some (.string (⟨#[]⟩ : ByteArray)) := (blk_cell BK175.out 1).trans rfl; have hfz10_0 := blk_frozen BK175.out 0; have hfz10_1 := blk_frozen BK175.out 1))
 refine bodyPost_ret (results_cell_row rfl _ _ gb175 26 #[.int .i64 a0_0, .string a0_1] (0, 0) _ rfl (by (with_reducible repeat (first | refine blk_drewN ?_ _ | refine blk_drew ?_ | refine blk_alloc ?_ _)); refine blk_put (cs := #[.int .i64 a0_0, .string (⟨#[]⟩ : ByteArray)]) ?_ 1 _ rfl; (with_reducible repeat (first | refine blk_drewN ?_ _ | refine blk_drew ?_ | refine blk_alloc ?_ _)); refine blk_put (cs := #[.int .i64 0, .string (⟨#[]⟩ : ByteArray)]) ?_ 0 _ rfl; (with_reducible repeat (first | refine blk_drewN ?_ _ | refine blk_drew ?_ | refine blk_alloc ?_ _)); refine blk_far ?_ NB175_176.out _; (with_reducible repeat (first | refine blk_drewN ?_ _ | refine blk_drew ?_ | refine blk_alloc ?_ _)); refine blk_far ?_ NB175_176.out _; (with_reducible repeat (first | refine blk_drewN ?_ _ | refine blk_drew ?_ | refine blk_alloc ?_ _)); exact BK175.out) Try.underlying26 rfl (by kernel_rfl)) rfl ?_
 exact ⟨zE, by repeat (first | (with_reducible first | exact HB.out | apply below_alloc | apply pw_below_drewN | apply below_drew1 | refine below_set ?_ GE174.out | refine below_set ?_ GE175.out | refine below_set ?_ GE176.out) | exact HB.out)⟩
/-! ### laws_eqIntS: function 23 -/
def laws_eqIntS.l0 : Nat → List Int → List Int → Int → Option (Bool)
 | 0, _, _, _ => none
 | k + 1, x0, x1, x5 => if x5 < (x0.length : Int) then (if 0 ≤ x5 then (if x5 < (x1.length : Int) then (if (rd x0 x5) = (rd x1 x5) then (laws_eqIntS.l0 k x0 x1 (wrap64 (x5 + 1))) else (some false)) else (none)) else (none)) else (some true)
def laws_eqIntS.f (k : Nat) (l0 : List Int) (l1 : List Int) : Option (Bool) := if (l0.length : Int) = (l1.length : Int) then (laws_eqIntS.l0 k l0 l1 0) else (some false)
theorem laws_eqIntS.mono_l : ∀ k, (∀ y0 y1 y2, LeO (laws_eqIntS.l0 k y0 y1 y2) (laws_eqIntS.l0 (k + 1) y0 y1 y2))
 | 0 => fun _ _ _ r h => by simp [laws_eqIntS.l0] at h
 | k + 1 => by
  have ih0 := laws_eqIntS.mono_l k
  ·intro y0 y1 y2
   unfold laws_eqIntS.l0
   repeat' first
   | (with_reducible exact ih0 _ _ _)
   | (with_reducible exact LeO.refl _)
   | (with_reducible exact LeO.none _)
   | (with_reducible refine LeO.ite ?_ ?_)
   | (with_reducible refine LeO.bind ?_ (fun _ => ?_))
   | exact ih0 _ _ _
   | exact LeO.none _
   | refine LeO.ite ?_ ?_
   | refine LeO.bind ?_ (fun _ => ?_)
theorem laws_eqIntS.mono : ∀ a0 a1 k, LeO (laws_eqIntS.f k a0 a1) (laws_eqIntS.f (k + 1) a0 a1) := by
 intro a0 a1 k
 have ih0 := laws_eqIntS.mono_l k
 unfold laws_eqIntS.f
 repeat' first
   | (with_reducible exact ih0 _ _ _)
   | (with_reducible exact LeO.refl _)
   | (with_reducible exact LeO.none _)
   | (with_reducible refine LeO.ite ?_ ?_)
   | (with_reducible refine LeO.bind ?_ (fun _ => ?_))
   | exact ih0 _ _ _
   | exact LeO.none _
   | refine LeO.ite ?_ ?_
   | refine LeO.bind ?_ (fun _ => ?_)
set_option maxHeartbeats 8000000 in
set_option maxRecDepth 100000 in
theorem laws_eqIntS.calls (k : Nat) (A0 : Option Addr) (c0 : Nat) (l0 : List Int) (A1 : Option Addr) (c1 : Nat) (l1 : List Int) (r : Bool) (w : World) (hr0 : Kd.C (Kd.int .i64) w A0 l0.length l0) (hc0 : l0.length ≤ c0) (hr1 : Kd.C (Kd.int .i64) w A1 l1.length l1) (hc1 : l1.length ≤ c1) (h : laws_eqIntS.f k l0 l1 = some r) :
  Calls Try.prog 23 #[.slice A0 l0.length c0, .slice A1 l1.length c1] w fun e w' => e = .returned (.bool r) ∧ Drawn0 w w' := by
 have HR0 := Aside0.mk hr0
 have HC0 := Aside0.mk hc0
 clear hr0 hc0
 have HR1 := Aside0.mk hr1
 have HC1 := Aside0.mk hc1
 clear hr1 hc1
 have H : (if (l0.length : Int) = (l1.length : Int) then (laws_eqIntS.l0 k l0 l1 0) else (some false)) = some r := h
 clear h
 by_cases c3 : (l0.length : Int) = (l1.length : Int)
 ·rw [if_pos c3] at H
  have c3b0 : ((l0.length : Int) == (l1.length : Int)) = true := beq_iff_eq.mpr c3
  have c3b1 : ((l0.length : Int) != (l1.length : Int)) = false := bne_eq_false_iff_eq.mpr c3
  have c3b2 : (l0.length == l1.length) = true := by first | simpa using c3 | (simp at c3 ⊢; omega)
  clear c3
  have H' := Aside0.mk H
  clear H
  go_enter Try.func23, Try.ntmps23
  go_wp2
  repeat (go_quiet (fail); try go_wp2)
  go_loopg [5] k (fun kq v5 w' => ∃ (x5_1 : Int), v5 = .int .i64 x5_1 ∧ Aside0 (laws_eqIntS.l0 kq l0 l1 x5_1 = some r) ∧ Aside0 (kq ≤ k) ∧ Drawn0 w w')
  case atStart => exact ⟨(0), zF, H', ⟨Nat.le_refl _⟩, by repeat (first | exact Drawn0.refl _ | apply Drawn0.step)⟩
  case round =>
   clear H'
   try clear c1
   try clear c2
   try clear p2
   try clear c3
   try clear c3b0
   try clear c3b1
   try clear c3b2
   obtain ⟨x5_1, rfl, HA, HK1, ⟨m1, rfl⟩⟩ := hrel
   cases gk with
   | zero => exact absurd HA.out (by simp [laws_eqIntS.l0])
   | succ k1 =>
    have H := HA.out
    clear HA
    simp only [laws_eqIntS.l0] at H
    by_cases c4 : x5_1 < (l0.length : Int)
    ·rw [if_pos c4] at H
     have c4b0 : decide (x5_1 < (l0.length : Int)) = true := decide_eq_true c4
     clear c4
     by_cases c5 : 0 ≤ x5_1
     ·rw [if_pos c5] at H
      have c5b0 : decide (0 ≤ x5_1) = true := decide_eq_true c5
      clear c5
      by_cases c6 : x5_1 < (l1.length : Int)
      ·rw [if_pos c6] at H
       have c6b0 : decide (x5_1 < (l1.length : Int)) = true := decide_eq_true c6
       clear c6
       by_cases c7 : (rd l0 x5_1) = (rd l1 x5_1)
       ·rw [if_pos c7] at H
        have c7b0 : ((rd l0 x5_1) == (rd l1 x5_1)) = true := beq_iff_eq.mpr c7
        have c7b1 : ((rd l0 x5_1) != (rd l1 x5_1)) = false := bne_eq_false_iff_eq.mpr c7
        clear c7
        have H' := Aside0.mk H
        clear H
        have p316 : 0 ≤ (x5_1 : Int) := zA
        have q316 : x5_1 < (l0.length : Int) := zA
        obtain ⟨ad316, e316, hx316_0⟩ := Kd.at_int HR0.out x5_1 p316 q316
        cases e316
        replace p316 := eq_true p316
        replace q316 := eq_true q316
        have p317 : 0 ≤ (x5_1 : Int) := zA
        have q317 : x5_1 < (l1.length : Int) := zA
        obtain ⟨ad317, e317, hx317_0⟩ := Kd.at_int HR1.out x5_1 p317 q317
        cases e317
        replace p317 := eq_true p317
        replace q317 := eq_true q317
        go_wp2
        repeat (go_quiet (fail); try go_wp2)
        go_roundg k1
        case measure => have := HK1.out; omega
        case rel => exact ⟨(wrap64 (x5_1 + 1)), zF, H', ⟨by have := HK1.out; omega⟩, by repeat (first | exact Drawn0.refl _ | apply Drawn0.step)⟩
       ·rw [if_neg c7] at H
        have c7b0 : ((rd l0 x5_1) == (rd l1 x5_1)) = false := beq_eq_false_iff_ne.mpr c7
        have c7b1 : ((rd l0 x5_1) != (rd l1 x5_1)) = true := bne_iff_ne.mpr c7
        obtain rfl := Option.some.inj H
        have p316 : 0 ≤ (x5_1 : Int) := zA
        have q316 : x5_1 < (l0.length : Int) := zA
        obtain ⟨ad316, e316, hx316_0⟩ := Kd.at_int HR0.out x5_1 p316 q316
        cases e316
        replace p316 := eq_true p316
        replace q316 := eq_true q316
        have p317 : 0 ≤ (x5_1 : Int) := zA
        have q317 : x5_1 < (l1.length : Int) := zA
        obtain ⟨ad317, e317, hx317_0⟩ := Kd.at_int HR1.out x5_1 p317 q317
        cases e317
        replace p317 := eq_true p317
        replace q317 := eq_true q317
        go_wp2
        repeat (go_quiet (fail); try go_wp2)
        go_ret
        exact ⟨by first | rfl | (simp; done) | (simp [*]; done), by repeat (first | exact Drawn0.refl _ | apply Drawn0.step)⟩
      ·rw [if_neg c6] at H
       exact absurd H (by simp)
     ·rw [if_neg c5] at H
      exact absurd H (by simp)
    ·rw [if_neg c4] at H
     have c4b0 : decide (x5_1 < (l0.length : Int)) = false := decide_eq_false c4
     clear c4
     obtain rfl := Option.some.inj H
     go_wp2
     repeat (go_quiet (fail); try go_wp2)
     go_ret
     exact ⟨by first | rfl | (simp; done) | (simp [*]; done), by repeat (first | exact Drawn0.refl _ | apply Drawn0.step)⟩
 ·rw [if_neg c3] at H
  have c3b0 : ((l0.length : Int) == (l1.length : Int)) = false := beq_eq_false_iff_ne.mpr c3
  have c3b1 : ((l0.length : Int) != (l1.length : Int)) = true := bne_iff_ne.mpr c3
  have c3b2 : (l0.length == l1.length) = false := by first | simpa using c3 | (simp at c3 ⊢; omega)
  obtain rfl := Option.some.inj H
  go_enter Try.func23, Try.ntmps23
  go_wp2
  repeat (go_quiet (fail); try go_wp2)
  go_ret
  exact ⟨by first | rfl | (simp; done) | (simp [*]; done), by repeat (first | exact Drawn0.refl _ | apply Drawn0.step)⟩
/-! ### laws_heldIntS: function 25 -/
def laws_heldIntS.l0 : Nat → List Int → Int → Int → Option (Int)
 | 0, _, _, _ => none
 | k + 1, x0, x1, x5 => if x5 < (x0.length : Int) then (if 0 ≤ x5 then (if (rd x0 x5) = x1 then (laws_heldIntS.l0 k x0 (wrap64 (x1 + 1)) (wrap64 (x5 + 1))) else (some (-1))) else (none)) else (some x1)
def laws_heldIntS.f (k : Nat) (l0 : List Int) (a1 : Int) : Option (Int) := laws_heldIntS.l0 k l0 a1 0
theorem laws_heldIntS.mono_l : ∀ k, (∀ y0 y1 y2, LeO (laws_heldIntS.l0 k y0 y1 y2) (laws_heldIntS.l0 (k + 1) y0 y1 y2))
 | 0 => fun _ _ _ r h => by simp [laws_heldIntS.l0] at h
 | k + 1 => by
  have ih0 := laws_heldIntS.mono_l k
  ·intro y0 y1 y2
   unfold laws_heldIntS.l0
   repeat' first
   | (with_reducible exact ih0 _ _ _)
   | (with_reducible exact LeO.refl _)
   | (with_reducible exact LeO.none _)
   | (with_reducible refine LeO.ite ?_ ?_)
   | (with_reducible refine LeO.bind ?_ (fun _ => ?_))
   | exact ih0 _ _ _
   | exact LeO.none _
   | refine LeO.ite ?_ ?_
   | refine LeO.bind ?_ (fun _ => ?_)
theorem laws_heldIntS.mono : ∀ a0 a1 k, LeO (laws_heldIntS.f k a0 a1) (laws_heldIntS.f (k + 1) a0 a1) := by
 intro a0 a1 k
 have ih0 := laws_heldIntS.mono_l k
 unfold laws_heldIntS.f
 repeat' first
   | (with_reducible exact ih0 _ _ _)
   | (with_reducible exact LeO.refl _)
   | (with_reducible exact LeO.none _)
   | (with_reducible refine LeO.ite ?_ ?_)
   | (with_reducible refine LeO.bind ?_ (fun _ => ?_))
   | exact ih0 _ _ _
   | exact LeO.none _
   | refine LeO.ite ?_ ?_
   | refine LeO.bind ?_ (fun _ => ?_)
set_option maxHeartbeats 8000000 in
set_option maxRecDepth 100000 in
theorem laws_heldIntS.calls (k : Nat) (A0 : Option Addr) (c0 : Nat) (l0 : List Int) (a1 : Int) (r : Int) (w : World) (hr0 : Kd.C (Kd.int .i64) w A0 l0.length l0) (hc0 : l0.length ≤ c0) (h : laws_heldIntS.f k l0 a1 = some r) :
  Calls Try.prog 25 #[.slice A0 l0.length c0, .int .i64 a1] w fun e w' => e = .returned (.int .i64 r) ∧ Drawn0 w w' := by
 have HR0 := Aside0.mk hr0
 have HC0 := Aside0.mk hc0
 clear hr0 hc0
 have H : (laws_heldIntS.l0 k l0 a1 0) = some r := h
 clear h
 have H' := Aside0.mk H
 clear H
 go_enter Try.func25, Try.ntmps25
 go_wp2
 go_loopg [1, 5] k (fun kq v1 v5 w' => ∃ (x1_1 : Int) (x5_1 : Int), v1 = .int .i64 x1_1 ∧ v5 = .int .i64 x5_1 ∧ Aside0 (laws_heldIntS.l0 kq l0 x1_1 x5_1 = some r) ∧ Aside0 (kq ≤ k) ∧ Drawn0 w w')
 case atStart => exact ⟨(a1), (0), zF, zF, H', ⟨Nat.le_refl _⟩, by repeat (first | exact Drawn0.refl _ | apply Drawn0.step)⟩
 case round =>
  clear H'
  try clear c2
  try clear p2
  obtain ⟨x1_1, x5_1, rfl, rfl, HA, HK1, ⟨m1, rfl⟩⟩ := hrel
  cases gk with
  | zero => exact absurd HA.out (by simp [laws_heldIntS.l0])
  | succ k1 =>
   have H := HA.out
   clear HA
   simp only [laws_heldIntS.l0] at H
   by_cases c3 : x5_1 < (l0.length : Int)
   ·rw [if_pos c3] at H
    have c3b0 : decide (x5_1 < (l0.length : Int)) = true := decide_eq_true c3
    clear c3
    by_cases c4 : 0 ≤ x5_1
    ·rw [if_pos c4] at H
     have c4b0 : decide (0 ≤ x5_1) = true := decide_eq_true c4
     clear c4
     by_cases c5 : (rd l0 x5_1) = x1_1
     ·rw [if_pos c5] at H
      have c5b0 : ((rd l0 x5_1) == x1_1) = true := beq_iff_eq.mpr c5
      have c5b1 : ((rd l0 x5_1) != x1_1) = false := bne_eq_false_iff_eq.mpr c5
      clear c5
      have H' := Aside0.mk H
      clear H
      have p323 : 0 ≤ (x5_1 : Int) := zA
      have q323 : x5_1 < (l0.length : Int) := zA
      obtain ⟨ad323, e323, hx323_0⟩ := Kd.at_int HR0.out x5_1 p323 q323
      cases e323
      replace p323 := eq_true p323
      replace q323 := eq_true q323
      go_wp2
      go_roundg k1
      case measure => have := HK1.out; omega
      case rel => exact ⟨(wrap64 (x1_1 + 1)), (wrap64 (x5_1 + 1)), zF, zF, H', ⟨by have := HK1.out; omega⟩, by repeat (first | exact Drawn0.refl _ | apply Drawn0.step)⟩
     ·rw [if_neg c5] at H
      have c5b0 : ((rd l0 x5_1) == x1_1) = false := beq_eq_false_iff_ne.mpr c5
      have c5b1 : ((rd l0 x5_1) != x1_1) = true := bne_iff_ne.mpr c5
      obtain rfl := Option.some.inj H
      have p323 : 0 ≤ (x5_1 : Int) := zA
      have q323 : x5_1 < (l0.length : Int) := zA
      obtain ⟨ad323, e323, hx323_0⟩ := Kd.at_int HR0.out x5_1 p323 q323
      cases e323
      replace p323 := eq_true p323
      replace q323 := eq_true q323
      go_wp2
      go_ret
      exact ⟨by first | rfl | (simp; done) | (simp [*]; done), by repeat (first | exact Drawn0.refl _ | apply Drawn0.step)⟩
    ·rw [if_neg c4] at H
     exact absurd H (by simp)
   ·rw [if_neg c3] at H
    have c3b0 : decide (x5_1 < (l0.length : Int)) = false := decide_eq_false c3
    clear c3
    obtain rfl := Option.some.inj H
    go_wp2
    go_ret
    exact ⟨by first | rfl | (simp; done) | (simp [*]; done), by repeat (first | exact Drawn0.refl _ | apply Drawn0.step)⟩
/-! ### spec_l3Byte: function 93 -/
def spec_l3Byte.f (a0 : Int) : Option (ByteArray) := if a0 > 0 then (some (⟨#[43]⟩ : ByteArray)) else (some (⟨#[45]⟩ : ByteArray))
set_option maxHeartbeats 8000000 in
set_option maxRecDepth 100000 in
theorem spec_l3Byte.calls (a0 : Int) (r : ByteArray) (w : World) (h : spec_l3Byte.f a0 = some r) :
  Calls Try.prog 93 #[.int .i64 a0] w fun e w' => e = .returned (.string r) ∧ Drawn0 w w' := by
 have H : (if a0 > 0 then (some (⟨#[43]⟩ : ByteArray)) else (some (⟨#[45]⟩ : ByteArray))) = some r := h
 clear h
 by_cases c2 : a0 > 0
 ·rw [if_pos c2] at H
  have c2b0 : decide (0 < a0) = true := decide_eq_true c2
  clear c2
  obtain rfl := Option.some.inj H
  go_enter Try.func93, Try.ntmps93
  go_wp2
  go_ret
  exact ⟨by first | rfl | (simp; done) | (simp [*]; done), by repeat (first | exact Drawn0.refl _ | apply Drawn0.step)⟩
 ·rw [if_neg c2] at H
  have c2b0 : decide (0 < a0) = false := decide_eq_false c2
  clear c2
  obtain rfl := Option.some.inj H
  go_enter Try.func93, Try.ntmps93
  go_wp2
  go_ret
  exact ⟨by first | rfl | (simp; done) | (simp [*]; done), by repeat (first | exact Drawn0.refl _ | apply Drawn0.step)⟩
/-! ### spec_l4Circuit: function 81 -/
def spec_l4Circuit.f (k : Nat) (a0_0 : Int) (a0_1 : ByteArray) (a1 : Int) (a2 : Int) (a3 : Int) (a4 : Int) : Option (ByteArray) := (spec_l3At.f k a0_0 a0_1 a2 a3 a4).bind fun t146 => ((spec_l3At.f k a0_0 a0_1 a1 a3 a4).bind fun t147 => ((spec_l3Byte.f (wrap64 ((wrap64 (-t146)) * t147))).bind fun t148 => (if 1 + t148.size ≤ 9223372036854775807 then ((spec_l3At.f k a0_0 a0_1 a1 a2 a4).bind fun t149 => ((spec_l3Byte.f (wrap64 (t146 * t149))).bind fun t150 => (if 1 + t148.size + t150.size ≤ 9223372036854775807 then ((spec_l3At.f k a0_0 a0_1 a1 a2 a3).bind fun t151 => ((spec_l3Byte.f (wrap64 ((wrap64 (-t146)) * t151))).bind fun t152 => (if 1 + t148.size + t150.size + t152.size ≤ 9223372036854775807 then (some ((((⟨#[43]⟩ : ByteArray) ++ t148) ++ t150) ++ t152)) else (none)))) else (none)))) else (none))))
theorem spec_l4Circuit.mono : ∀ a0 a1 a2 a3 a4 a5 k, LeO (spec_l4Circuit.f k a0 a1 a2 a3 a4 a5) (spec_l4Circuit.f (k + 1) a0 a1 a2 a3 a4 a5) := by
 intro a0 a1 a2 a3 a4 a5 k
 unfold spec_l4Circuit.f
 repeat' first
   | (with_reducible exact spec_l3At.mono _ _ _ _ _ _)
   | (with_reducible exact LeO.refl _)
   | (with_reducible exact LeO.none _)
   | (with_reducible refine LeO.ite ?_ ?_)
   | (with_reducible refine LeO.bind ?_ (fun _ => ?_))
   | exact spec_l3At.mono _ _ _ _ _ _
   | exact LeO.none _
   | refine LeO.ite ?_ ?_
   | refine LeO.bind ?_ (fun _ => ?_)
def spec_l4Circuit.T2 : Bool × List (List Nat × List Nat) := (true, [([], []), ([0], [0]), ([], []), ([], []), ([], []), ([], []), ([2, 3, 4, 5], [2, 3, 4, 5]), ([1, 6], [1, 6]), ([7, 6], [7]), ([8], [8]), ([], []), ([], []), ([], []), ([], []), ([], []), ([11, 12, 13, 14, 8], [11, 12, 13, 14]), ([10, 15], [10, 15]), ([16, 15], [16]), ([9, 17], [9, 17]), ([18, 17, 0, 1, 2, 3, 4, 5, 6, 7, 8, 9, 10, 11, 12, 13, 14, 15, 16, 17, 18], [18])])
def spec_l4Circuit.B2 : List Nat := [0, 1, 0, 0, 0, 0, 60, 127, 255, 511, 0, 0, 0, 0, 0, 31231, 65023, 130559, 262143, 524287]
theorem spec_l4Circuit.tab2 : rtab .any (opsOf Try.f81 2) = spec_l4Circuit.T2 := by kernel_rfl
theorem spec_l4Circuit.bits2 : waitsOk spec_l4Circuit.T2.2 spec_l4Circuit.B2 = true := by kernel_rfl
set_option maxHeartbeats 8000000 in
set_option maxRecDepth 100000 in
theorem spec_l4Circuit.calls (k : Nat) (a0_0 : Int) (a0_1 : ByteArray) (a1 : Int) (a2 : Int) (a3 : Int) (a4 : Int) (r : ByteArray) (w : World) (h : spec_l4Circuit.f k a0_0 a0_1 a1 a2 a3 a4 = some r) :
  Calls Try.prog 81 #[.agg #[.int .i64 a0_0, .string a0_1], .int .i64 a1, .int .i64 a2, .int .i64 a3, .int .i64 a4] w fun e w' => e = .returned (.string r) ∧ Below w.heap.size w w' := by
 have hu26 := Try.underlying26
 have HB := Aside0.mk (Below.refl w.heap.size w)
 have H : ((spec_l3At.f k a0_0 a0_1 a2 a3 a4).bind fun t146 => ((spec_l3At.f k a0_0 a0_1 a1 a3 a4).bind fun t147 => ((spec_l3Byte.f (wrap64 ((wrap64 (-t146)) * t147))).bind fun t148 => (if 1 + t148.size ≤ 9223372036854775807 then ((spec_l3At.f k a0_0 a0_1 a1 a2 a4).bind fun t149 => ((spec_l3Byte.f (wrap64 (t146 * t149))).bind fun t150 => (if 1 + t148.size + t150.size ≤ 9223372036854775807 then ((spec_l3At.f k a0_0 a0_1 a1 a2 a3).bind fun t151 => ((spec_l3Byte.f (wrap64 ((wrap64 (-t146)) * t151))).bind fun t152 => (if 1 + t148.size + t150.size + t152.size ≤ 9223372036854775807 then (some ((((⟨#[43]⟩ : ByteArray) ++ t148) ++ t150) ++ t152)) else (none)))) else (none)))) else (none))))) = some r := h
 clear h
 replace H := Option.bind_eq_some_iff.mp H
 obtain ⟨t146, A60, H⟩ := H
 replace H : ((spec_l3At.f k a0_0 a0_1 a1 a3 a4).bind fun t147 => ((spec_l3Byte.f (wrap64 ((wrap64 (-t146)) * t147))).bind fun t148 => (if 1 + t148.size ≤ 9223372036854775807 then ((spec_l3At.f k a0_0 a0_1 a1 a2 a4).bind fun t149 => ((spec_l3Byte.f (wrap64 (t146 * t149))).bind fun t150 => (if 1 + t148.size + t150.size ≤ 9223372036854775807 then ((spec_l3At.f k a0_0 a0_1 a1 a2 a3).bind fun t151 => ((spec_l3Byte.f (wrap64 ((wrap64 (-t146)) * t151))).bind fun t152 => (if 1 + t148.size + t150.size + t152.size ≤ 9223372036854775807 then (some ((((⟨#[43]⟩ : ByteArray) ++ t148) ++ t150) ++ t152)) else (none)))) else (none)))) else (none)))) = some r := H
 have A6 := Aside0.mk A60
 clear A60
 replace H := Option.bind_eq_some_iff.mp H
 obtain ⟨t147, A70, H⟩ := H
 replace H : ((spec_l3Byte.f (wrap64 ((wrap64 (-t146)) * t147))).bind fun t148 => (if 1 + t148.size ≤ 9223372036854775807 then ((spec_l3At.f k a0_0 a0_1 a1 a2 a4).bind fun t149 => ((spec_l3Byte.f (wrap64 (t146 * t149))).bind fun t150 => (if 1 + t148.size + t150.size ≤ 9223372036854775807 then ((spec_l3At.f k a0_0 a0_1 a1 a2 a3).bind fun t151 => ((spec_l3Byte.f (wrap64 ((wrap64 (-t146)) * t151))).bind fun t152 => (if 1 + t148.size + t150.size + t152.size ≤ 9223372036854775807 then (some ((((⟨#[43]⟩ : ByteArray) ++ t148) ++ t150) ++ t152)) else (none)))) else (none)))) else (none))) = some r := H
 have A7 := Aside0.mk A70
 clear A70
 replace H := Option.bind_eq_some_iff.mp H
 obtain ⟨t148, A80, H⟩ := H
 replace H : (if 1 + t148.size ≤ 9223372036854775807 then ((spec_l3At.f k a0_0 a0_1 a1 a2 a4).bind fun t149 => ((spec_l3Byte.f (wrap64 (t146 * t149))).bind fun t150 => (if 1 + t148.size + t150.size ≤ 9223372036854775807 then ((spec_l3At.f k a0_0 a0_1 a1 a2 a3).bind fun t151 => ((spec_l3Byte.f (wrap64 ((wrap64 (-t146)) * t151))).bind fun t152 => (if 1 + t148.size + t150.size + t152.size ≤ 9223372036854775807 then (some ((((⟨#[43]⟩ : ByteArray) ++ t148) ++ t150) ++ t152)) else (none)))) else (none)))) else (none)) = some r := H
 have A8 := Aside0.mk A80
 clear A80
 by_cases c9 : 1 + t148.size ≤ 9223372036854775807
 ·rw [if_pos c9] at H
  have c9b0 := eq_true c9
  have c9b1 : decide (1 + t148.size ≤ 9223372036854775807) = true := decide_eq_true c9
  try have c9b2 : (9223372036854775807 < 1 + t148.size) = False := eq_false (Nat.not_lt.2 c9)
  replace H := Option.bind_eq_some_iff.mp H
  obtain ⟨t149, A100, H⟩ := H
  replace H : ((spec_l3Byte.f (wrap64 (t146 * t149))).bind fun t150 => (if 1 + t148.size + t150.size ≤ 9223372036854775807 then ((spec_l3At.f k a0_0 a0_1 a1 a2 a3).bind fun t151 => ((spec_l3Byte.f (wrap64 ((wrap64 (-t146)) * t151))).bind fun t152 => (if 1 + t148.size + t150.size + t152.size ≤ 9223372036854775807 then (some ((((⟨#[43]⟩ : ByteArray) ++ t148) ++ t150) ++ t152)) else (none)))) else (none))) = some r := H
  have A10 := Aside0.mk A100
  clear A100
  replace H := Option.bind_eq_some_iff.mp H
  obtain ⟨t150, A110, H⟩ := H
  replace H : (if 1 + t148.size + t150.size ≤ 9223372036854775807 then ((spec_l3At.f k a0_0 a0_1 a1 a2 a3).bind fun t151 => ((spec_l3Byte.f (wrap64 ((wrap64 (-t146)) * t151))).bind fun t152 => (if 1 + t148.size + t150.size + t152.size ≤ 9223372036854775807 then (some ((((⟨#[43]⟩ : ByteArray) ++ t148) ++ t150) ++ t152)) else (none)))) else (none)) = some r := H
  have A11 := Aside0.mk A110
  clear A110
  by_cases c12 : 1 + t148.size + t150.size ≤ 9223372036854775807
  ·rw [if_pos c12] at H
   have c12b0 := eq_true c12
   have c12b1 : decide (1 + t148.size + t150.size ≤ 9223372036854775807) = true := decide_eq_true c12
   try have c12b2 : (9223372036854775807 < 1 + t148.size + t150.size) = False := eq_false (Nat.not_lt.2 c12)
   replace H := Option.bind_eq_some_iff.mp H
   obtain ⟨t151, A130, H⟩ := H
   replace H : ((spec_l3Byte.f (wrap64 ((wrap64 (-t146)) * t151))).bind fun t152 => (if 1 + t148.size + t150.size + t152.size ≤ 9223372036854775807 then (some ((((⟨#[43]⟩ : ByteArray) ++ t148) ++ t150) ++ t152)) else (none))) = some r := H
   have A13 := Aside0.mk A130
   clear A130
   replace H := Option.bind_eq_some_iff.mp H
   obtain ⟨t152, A140, H⟩ := H
   replace H : (if 1 + t148.size + t150.size + t152.size ≤ 9223372036854775807 then (some ((((⟨#[43]⟩ : ByteArray) ++ t148) ++ t150) ++ t152)) else (none)) = some r := H
   have A14 := Aside0.mk A140
   clear A140
   by_cases c15 : 1 + t148.size + t150.size + t152.size ≤ 9223372036854775807
   ·rw [if_pos c15] at H
    have c15b0 := eq_true c15
    have c15b1 : decide (1 + t148.size + t150.size + t152.size ≤ 9223372036854775807) = true := decide_eq_true c15
    try have c15b2 : (9223372036854775807 < 1 + t148.size + t150.size + t152.size) = False := eq_false (Nat.not_lt.2 c15)
    obtain rfl := Option.some.inj H
    go_enter Try.func81, Try.ntmps81
    try go_wp2_with (first | ((with_reducible refine gate_dst (N := 5) rfl ?_); refine box_event ?hg (N := 5) ?hd (cs := #[.int .i64 a0_0, .string a0_1]) (t := 26) ?hr ?_; (case hd => rfl); (case hg => rfl); (case hr => first | (go_simp; done) | (go_simp; rfl)); intro gb145 hg w16 hbox hb; have BK145 := Aside0.mk (hbox); have GW145 := Aside0.mk ((by rw [hg]; exact (below_size zB) : w.heap.size ≤ gb145)); have GE145 := Aside0.mk ((by rw [hg]; exact (below_size zB) : w.heap.size ≤ gb145)); replace HB := Aside0.mk (below_step zB hb); clear hb hbox hg; have hcz17_0 : w16.cell? ⟨gb145, 0, none⟩ = some (.int .i64 a0_0) := (blk_cell BK145.out 0).trans rfl; have hcz17_1 : w16.cell? ⟨gb145, 1, none⟩ = some (.string a0_1) := (blk_cell BK145.out 1).trans rfl; have hfz17_0 := blk_frozen BK145.out 0; have hfz17_1 := blk_frozen BK145.out 1) | ((with_reducible refine gate_callee (f := 63) rfl ?_); refine goesL_ (some 17) rfl rfl Try.func63 (by kernel_rfl) rfl #[.agg #[.int .i64 a0_0, .string a0_1], .int .i64 a2, .int .i64 a3, .int .i64 a4] rfl zM ?_; (with_reducible refine (spec_l3At.calls k a0_0 a0_1 a2 a3 a4 t146 _ A6.out).mono ?_); rintro e w18 ⟨rfl, hb⟩; refine ⟨_, rfl, ?_⟩; replace BK145 := Aside0.mk (blk_below (g := gb145) (o := .cells #[.int .i64 a0_0, .string a0_1] 26 (0, 0)) (zK BK145.out) hb); replace HB := Aside0.mk (below_step (zG GE145.out) hb); (try clear hb)))
    have n0_ := Aside0.mk (blk_drew BK145.out)
    have n1_ := Aside0.mk (below_drew1 HB.out)
    clear BK145
    clear HB
    have BK145 := n0_
    have HB := n1_
    clear n0_ n1_
    refine start_ (n := 20) (S := fun w' => w'.cell? ⟨gb145, 0, none⟩ = some (.int .i64 a0_0) ∧ w'.cell? ⟨gb145, 1, none⟩ = some (.string a0_1)) (ds := []) #[false, false, false, false, false, false, false, false, false, false, false, false, false, false, false, false, false, false, false, false] (by kernel_rfl) rfl rfl ⟨(blk_cell BK145.out 0).trans rfl, (blk_cell BK145.out 1).trans rfl⟩ (fun hHeld => ?_); refine with_tabW spec_l4Circuit.tab2 spec_l4Circuit.bits2 (fun HT_ HW_ => ?_)
    generalize w18.drew = w19 at BK145 HB hHeld ⊢
    refine zP 0 (some 18) rfl rfl ?_
    refine zP 1 (some 19) rfl rfl ?_
    refine zP 3 (some 21) rfl rfl ?_
    refine zP 4 (some 22) rfl rfl ?_
    refine zP 5 (some 23) rfl rfl ?_
    refine zP 10 (some 28) rfl rfl ?_
    refine zP 12 (some 30) rfl rfl ?_
    refine zP 13 (some 31) rfl rfl ?_
    refine zP 14 (some 32) rfl rfl ?_
    refine take_ (i := 2) (N := some 20) (v := ?_) (a' := ?_) #[true, true, true, true, true, true, false, false, false, false, true, false, true, true, true, false, false, false, false, false] rfl rfl (take_ofW HT_.out HW_.out (by kernel_rfl)) (fun _ _ _ h => h) (Or.inl ⟨by rfl, ?_⟩) hHeld ?_ ?_
    rotate_left
    ·rintro w' ⟨s0, s1⟩
     go_simp
     with_reducible rfl
    rotate_left
    ·simp only [Act.put, List.setIfInBounds_toArray, List.set_cons_zero, List.set_cons_succ, i64_w, i32_w]
     rfl
    refine take_ (i := 11) (N := some 29) (v := ?_) (a' := ?_) #[true, true, true, true, true, true, false, false, false, false, true, true, true, true, true, false, false, false, false, false] rfl rfl (take_ofW HT_.out HW_.out (by kernel_rfl)) (fun _ _ _ h => h) (Or.inl ⟨by rfl, ?_⟩) hHeld ?_ ?_
    rotate_left
    ·rintro w' ⟨s0, s1⟩
     go_simp
     with_reducible rfl
    rotate_left
    ·simp only [Act.put, List.setIfInBounds_toArray, List.set_cons_zero, List.set_cons_succ, i64_w, i32_w]
     rfl
    refine one_ (i := 6) (N := some 24) #[true, true, true, true, true, true, true, false, false, false, true, true, true, true, true, false, false, false, false, false] rfl rfl (one_of HT_.out (by kernel_rfl)) (by decide) (fun K hK => ?_)
    refine goes_ Try.func63 (by kernel_rfl) rfl #[.agg #[.int .i64 a0_0, .string a0_1], .int .i64 a1, .int .i64 a3, .int .i64 a4] (by rfl) rfl rfl zM ?_
    with_reducible refine (spec_l3At.calls k a0_0 a0_1 a1 a3 a4 t147 _ A7.out).mono ?_
    rintro e w20 ⟨rfl, hb⟩
    refine ⟨_, rfl, ?_⟩
    have n0_ := Aside0.mk (blk_below (g := gb145) (o := .cells #[.int .i64 a0_0, .string a0_1] 26 (0, 0)) (zK BK145.out) hb)
    have n1_ := Aside0.mk (below_step (zG GE145.out) hb)
    clear BK145
    clear HB
    have BK145 := n0_
    have HB := n1_
    clear n0_ n1_
    (try clear hb)
    (try clear hb2)
    (try clear hk)
    (try clear hi)
    refine hK.out _ _ ⟨(blk_cell BK145.out 0).trans rfl, (blk_cell BK145.out 1).trans rfl⟩ (fun hHeld => ?_)
    clear hK K
    refine norm_ (a' := ?_) ?_ ?_
    rotate_left
    ·show Act.put _ (some 24) _ = _
     simp only [Act.put, List.setIfInBounds_toArray, List.set_cons_zero, List.set_cons_succ, i64_w, i32_w]
     rfl
    refine zP 7 (some 25) rfl rfl ?_
    refine one_ (i := 8) (N := some 26) #[true, true, true, true, true, true, true, true, true, false, true, true, true, true, true, false, false, false, false, false] rfl rfl (one_of HT_.out (by kernel_rfl)) (by decide) (fun K hK => ?_)
    refine goes_ Try.func93 (by kernel_rfl) rfl #[.int .i64 (wrap64 ((wrap64 (-t146)) * t147))] (by rfl) rfl rfl zM ?_
    with_reducible refine (spec_l3Byte.calls (wrap64 ((wrap64 (-t146)) * t147)) t148 _ A8.out).mono ?_
    rintro e w' ⟨rfl, ⟨nd, rfl⟩⟩
    refine ⟨_, rfl, ?_⟩
    refine hK.out _ _ ⟨(blk_cell BK145.out 0).trans rfl, (blk_cell BK145.out 1).trans rfl⟩ (fun hHeld => ?_)
    clear hK K
    refine norm_ (a' := ?_) ?_ ?_
    rotate_left
    ·show Act.put _ (some 26) _ = _
     simp only [Act.put, List.setIfInBounds_toArray, List.set_cons_zero, List.set_cons_succ, i64_w, i32_w]
     rfl
    refine zP 9 (some 27) rfl rfl ?_
    refine one_ (i := 15) (N := some 33) #[true, true, true, true, true, true, true, true, true, true, true, true, true, true, true, true, false, false, false, false] rfl rfl (one_of HT_.out (by kernel_rfl)) (by decide) (fun K hK => ?_)
    refine goes_ Try.func63 (by kernel_rfl) rfl #[.agg #[.int .i64 a0_0, .string a0_1], .int .i64 a1, .int .i64 a2, .int .i64 a4] (by rfl) rfl rfl zM ?_
    with_reducible refine (spec_l3At.calls k a0_0 a0_1 a1 a2 a4 t149 _ A10.out).mono ?_
    rintro e w21 ⟨rfl, hb⟩
    refine ⟨_, rfl, ?_⟩
    have n0_ := Aside0.mk (blk_below (g := gb145) (o := .cells #[.int .i64 a0_0, .string a0_1] 26 (0, 0)) (zK BK145.out) hb)
    have n1_ := Aside0.mk (below_step (zG GE145.out) hb)
    clear BK145
    clear HB
    have BK145 := n0_
    have HB := n1_
    clear n0_ n1_
    (try clear hb)
    (try clear hb2)
    (try clear hk)
    (try clear hi)
    refine hK.out _ _ ⟨(blk_cell BK145.out 0).trans rfl, (blk_cell BK145.out 1).trans rfl⟩ (fun hHeld => ?_)
    clear hK K
    refine norm_ (a' := ?_) ?_ ?_
    rotate_left
    ·show Act.put _ (some 33) _ = _
     simp only [Act.put, List.setIfInBounds_toArray, List.set_cons_zero, List.set_cons_succ, i64_w, i32_w]
     rfl
    refine zP 16 (some 34) rfl rfl ?_
    refine one_ (i := 17) (N := some 35) #[true, true, true, true, true, true, true, true, true, true, true, true, true, true, true, true, true, true, false, false] rfl rfl (one_of HT_.out (by kernel_rfl)) (by decide) (fun K hK => ?_)
    refine goes_ Try.func93 (by kernel_rfl) rfl #[.int .i64 (wrap64 (t146 * t149))] (by rfl) rfl rfl zM ?_
    with_reducible refine (spec_l3Byte.calls (wrap64 (t146 * t149)) t150 _ A11.out).mono ?_
    rintro e w' ⟨rfl, ⟨nd, rfl⟩⟩
    refine ⟨_, rfl, ?_⟩
    refine hK.out _ _ ⟨(blk_cell BK145.out 0).trans rfl, (blk_cell BK145.out 1).trans rfl⟩ (fun hHeld => ?_)
    clear hK K
    refine norm_ (a' := ?_) ?_ ?_
    rotate_left
    ·show Act.put _ (some 35) _ = _
     simp only [Act.put, List.setIfInBounds_toArray, List.set_cons_zero, List.set_cons_succ, i64_w, i32_w]
     rfl
    refine zP 18 (some 36) rfl rfl ?_
    refine zP 19 (some 12) rfl rfl ?_
    refine done_ (done_of HT_.out (by kernel_rfl)) ?_
    have hcz22_0 : w21.cell? ⟨gb145, 0, none⟩ = some (.int .i64 a0_0) := (blk_cell BK145.out 0).trans rfl
    have hcz22_1 : w21.cell? ⟨gb145, 1, none⟩ = some (.string a0_1) := (blk_cell BK145.out 1).trans rfl
    have hfz22_0 := blk_frozen BK145.out 0
    have hfz22_1 := blk_frozen BK145.out 1
    try go_wp2_with (first | ((with_reducible refine gate_callee (f := 63) rfl ?_); refine goesL_ (some 44) rfl rfl Try.func63 (by kernel_rfl) rfl #[.agg #[.int .i64 a0_0, .string a0_1], .int .i64 a1, .int .i64 a2, .int .i64 a3] rfl zM ?_; (with_reducible refine (spec_l3At.calls k a0_0 a0_1 a1 a2 a3 t151 _ A13.out).mono ?_); rintro e w23 ⟨rfl, hb⟩; refine ⟨_, rfl, ?_⟩; replace BK145 := Aside0.mk (blk_below (g := gb145) (o := .cells #[.int .i64 a0_0, .string a0_1] 26 (0, 0)) (zK BK145.out) hb); replace HB := Aside0.mk (below_step (zG GE145.out) hb); (try clear hb)) | ((with_reducible refine gate_callee (f := 93) rfl ?_); refine goesL_ (some 46) rfl rfl Try.func93 (by kernel_rfl) rfl #[.int .i64 (wrap64 ((wrap64 (-t146)) * t151))] rfl zM ?_; (with_reducible refine (spec_l3Byte.calls (wrap64 ((wrap64 (-t146)) * t151)) t152 _ A14.out).mono ?_); rintro e w' ⟨rfl, ⟨nd, rfl⟩⟩; refine ⟨_, rfl, ?_⟩))
    go_ret
    exact ⟨zE, zG GE145.out⟩
   ·rw [if_neg c15] at H
    exact absurd H (by simp)
  ·rw [if_neg c12] at H
   exact absurd H (by simp)
 ·rw [if_neg c9] at H
  exact absurd H (by simp)
/-! ### spec_l4Acyclic: function 61 -/
mutual
def spec_l4Acyclic.l0 : Nat → Int → Int → ByteArray → Option (Bool)
 | 0, _, _, _ => none
 | k + 1, x3, x154000, x154001 => if x3 < x154000 then (spec_l4Acyclic.l1 k x3 (wrap64 (x3 + 1)) x154000 x154001) else (some true)
def spec_l4Acyclic.l1 : Nat → Int → Int → Int → ByteArray → Option (Bool)
 | 0, _, _, _, _ => none
 | k + 1, x3, x4, x154000, x154001 => if x4 < x154000 then (spec_l4Acyclic.l2 k x3 x4 (wrap64 (x4 + 1)) x154000 x154001) else (spec_l4Acyclic.l0 k (wrap64 (x3 + 1)) x154000 x154001)
def spec_l4Acyclic.l2 : Nat → Int → Int → Int → Int → ByteArray → Option (Bool)
 | 0, _, _, _, _, _ => none
 | k + 1, x3, x4, x5, x154000, x154001 => if x5 < x154000 then (spec_l4Acyclic.l3 k x3 x4 x5 (wrap64 (x5 + 1)) x154000 x154001) else (spec_l4Acyclic.l1 k x3 (wrap64 (x4 + 1)) x154000 x154001)
def spec_l4Acyclic.l3 : Nat → Int → Int → Int → Int → Int → ByteArray → Option (Bool)
 | 0, _, _, _, _, _, _ => none
 | k + 1, x3, x4, x5, x6, x154000, x154001 => if x6 < x154000 then ((spec_l4Circuit.f k x154000 x154001 x3 x4 x5 x6).bind fun t154 => (if t154.toList = ([43, 43, 43, 43] : List UInt8) then (some false) else (spec_l4Acyclic.l3 k x3 x4 x5 (wrap64 (x6 + 1)) x154000 x154001))) else (spec_l4Acyclic.l2 k x3 x4 (wrap64 (x5 + 1)) x154000 x154001)
end
def spec_l4Acyclic.f (k : Nat) (a0_0 : Int) (a0_1 : ByteArray) : Option (Bool) := spec_l4Acyclic.l0 k 0 a0_0 a0_1
theorem spec_l4Acyclic.mono_l : ∀ k, (∀ y0 y1 y2, LeO (spec_l4Acyclic.l0 k y0 y1 y2) (spec_l4Acyclic.l0 (k + 1) y0 y1 y2)) ∧ (∀ y0 y1 y2 y3, LeO (spec_l4Acyclic.l1 k y0 y1 y2 y3) (spec_l4Acyclic.l1 (k + 1) y0 y1 y2 y3)) ∧ (∀ y0 y1 y2 y3 y4, LeO (spec_l4Acyclic.l2 k y0 y1 y2 y3 y4) (spec_l4Acyclic.l2 (k + 1) y0 y1 y2 y3 y4)) ∧ (∀ y0 y1 y2 y3 y4 y5, LeO (spec_l4Acyclic.l3 k y0 y1 y2 y3 y4 y5) (spec_l4Acyclic.l3 (k + 1) y0 y1 y2 y3 y4 y5))
 | 0 => ⟨fun _ _ _ r h => by simp [spec_l4Acyclic.l0] at h, fun _ _ _ _ r h => by simp [spec_l4Acyclic.l1] at h, fun _ _ _ _ _ r h => by simp [spec_l4Acyclic.l2] at h, fun _ _ _ _ _ _ r h => by simp [spec_l4Acyclic.l3] at h⟩
 | k + 1 => by
  obtain ⟨ih0, ih1, ih2, ih3⟩ := spec_l4Acyclic.mono_l k
  refine ⟨?_, ?_, ?_, ?_⟩ <;> intros <;> (first | unfold spec_l4Acyclic.l0 | unfold spec_l4Acyclic.l1 | unfold spec_l4Acyclic.l2 | unfold spec_l4Acyclic.l3) <;> repeat' first
  | (with_reducible exact ih0 _ _ _)
  | (with_reducible exact ih1 _ _ _ _)
  | (with_reducible exact ih2 _ _ _ _ _)
  | (with_reducible exact ih3 _ _ _ _ _ _)
  | (with_reducible exact spec_l4Circuit.mono _ _ _ _ _ _ _)
  | (with_reducible exact LeO.refl _)
  | (with_reducible exact LeO.none _)
  | (with_reducible refine LeO.ite ?_ ?_)
  | (with_reducible refine LeO.bind ?_ (fun _ => ?_))
  | exact ih0 _ _ _
  | exact ih1 _ _ _ _
  | exact ih2 _ _ _ _ _
  | exact ih3 _ _ _ _ _ _
  | exact spec_l4Circuit.mono _ _ _ _ _ _ _
  | exact LeO.none _
  | refine LeO.ite ?_ ?_
  | refine LeO.bind ?_ (fun _ => ?_)
theorem spec_l4Acyclic.mono : ∀ a0 a1 k, LeO (spec_l4Acyclic.f k a0 a1) (spec_l4Acyclic.f (k + 1) a0 a1) := by
 intro a0 a1 k
 obtain ⟨ih0, ih1, ih2, ih3⟩ := spec_l4Acyclic.mono_l k
 unfold spec_l4Acyclic.f
 repeat' first
   | (with_reducible exact ih0 _ _ _)
   | (with_reducible exact ih1 _ _ _ _)
   | (with_reducible exact ih2 _ _ _ _ _)
   | (with_reducible exact ih3 _ _ _ _ _ _)
   | (with_reducible exact spec_l4Circuit.mono _ _ _ _ _ _ _)
   | (with_reducible exact LeO.refl _)
   | (with_reducible exact LeO.none _)
   | (with_reducible refine LeO.ite ?_ ?_)
   | (with_reducible refine LeO.bind ?_ (fun _ => ?_))
   | exact ih0 _ _ _
   | exact ih1 _ _ _ _
   | exact ih2 _ _ _ _ _
   | exact ih3 _ _ _ _ _ _
   | exact spec_l4Circuit.mono _ _ _ _ _ _ _
   | exact LeO.none _
   | refine LeO.ite ?_ ?_
   | refine LeO.bind ?_ (fun _ => ?_)
set_option maxHeartbeats 8000000 in
set_option maxRecDepth 100000 in
theorem spec_l4Acyclic.calls (k : Nat) (a0_0 : Int) (a0_1 : ByteArray) (r : Bool) (w : World) (h : spec_l4Acyclic.f k a0_0 a0_1 = some r) :
  Calls Try.prog 61 #[.agg #[.int .i64 a0_0, .string a0_1]] w fun e w' => e = .returned (.bool r) ∧ Below w.heap.size w w' := by
 have hu26 := Try.underlying26
 have HB := Aside0.mk (Below.refl w.heap.size w)
 have H : (spec_l4Acyclic.l0 k 0 a0_0 a0_1) = some r := h
 clear h
 have H' := Aside0.mk H
 clear H
 go_enter Try.func61, Try.ntmps61
 go_wp2_with (first | ((with_reducible refine gate_dst (N := 1) rfl ?_); refine box_event ?hg (N := 1) ?hd (cs := #[.int .i64 a0_0, .string a0_1]) (t := 26) ?hr ?_; (case hd => rfl); (case hg => rfl); (case hr => first | (go_simp; done) | (go_simp; rfl)); intro gb153 hg w2 hbox hb; have BK153 := Aside0.mk (hbox); have GW153 := Aside0.mk ((by rw [hg]; exact (below_size zB) : w.heap.size ≤ gb153)); have GE153 := Aside0.mk ((by rw [hg]; exact (below_size zB) : w.heap.size ≤ gb153)); replace HB := Aside0.mk (below_step zB hb); clear hb hbox hg))
 go_loopg [3] k (fun kq v3 w' => ∃ (x3_1 : Int), v3 = .int .i64 x3_1 ∧ Aside0 (spec_l4Acyclic.l0 kq x3_1 a0_0 a0_1 = some r) ∧ Aside0 (kq ≤ k) ∧ Aside0 (w'.heap[gb153]? = some (.cells #[.int .i64 a0_0, .string a0_1] 26 (0, 0))) ∧ Aside0 (Below w.heap.size w w'))
 case atStart => exact ⟨(0), zF, H', ⟨Nat.le_refl _⟩, ⟨zK BK153.out⟩, ⟨zG GE153.out⟩⟩
 case round =>
  clear H'
  try clear p2
  obtain ⟨x3_1, rfl, HA, HK1, BK153, HB⟩ := hrel
  cases gk with
  | zero => exact absurd HA.out (by simp [spec_l4Acyclic.l0])
  | succ k1 =>
   have H := HA.out
   clear HA
   simp only [spec_l4Acyclic.l0] at H
   by_cases c3 : x3_1 < a0_0
   ·rw [if_pos c3] at H
    have c3b0 : decide (x3_1 < a0_0) = true := decide_eq_true c3
    clear c3
    have H' := Aside0.mk H
    clear H
    have hcz4_0 : wr.cell? ⟨gb153, 0, none⟩ = some (.int .i64 a0_0) := (blk_cell BK153.out 0).trans rfl
    have hcz4_1 : wr.cell? ⟨gb153, 1, none⟩ = some (.string a0_1) := (blk_cell BK153.out 1).trans rfl
    have hfz4_0 := blk_frozen BK153.out 0
    have hfz4_1 := blk_frozen BK153.out 1
    go_wp2
    go_loopg [4] k1 (fun kq v4 w' => ∃ (x4_2 : Int), v4 = .int .i64 x4_2 ∧ Aside0 (spec_l4Acyclic.l1 kq x3_1 x4_2 a0_0 a0_1 = some r) ∧ Aside0 (kq ≤ k1) ∧ Aside0 (w'.heap[gb153]? = some (.cells #[.int .i64 a0_0, .string a0_1] 26 (0, 0))) ∧ Aside0 (Below w.heap.size w w'))
    case atStart => exact ⟨(wrap64 (x3_1 + 1)), zF, H', ⟨Nat.le_refl _⟩, ⟨zK BK153.out⟩, ⟨zG GE153.out⟩⟩
    case round =>
     clear H'
     try clear p2
     try clear c3
     try clear c3b0
     try clear hcz4_0
     try clear hcz4_1
     try clear hfz4_0
     try clear hfz4_1
     try clear p2
     obtain ⟨x4_2, rfl, HA, HK2, BK153, HB⟩ := hrel
     cases gk with
     | zero => exact absurd HA.out (by simp [spec_l4Acyclic.l1])
     | succ k2 =>
      have H := HA.out
      clear HA
      simp only [spec_l4Acyclic.l1] at H
      by_cases c5 : x4_2 < a0_0
      ·rw [if_pos c5] at H
       have c5b0 : decide (x4_2 < a0_0) = true := decide_eq_true c5
       clear c5
       have H' := Aside0.mk H
       clear H
       have hcz6_0 : wr.cell? ⟨gb153, 0, none⟩ = some (.int .i64 a0_0) := (blk_cell BK153.out 0).trans rfl
       have hcz6_1 : wr.cell? ⟨gb153, 1, none⟩ = some (.string a0_1) := (blk_cell BK153.out 1).trans rfl
       have hfz6_0 := blk_frozen BK153.out 0
       have hfz6_1 := blk_frozen BK153.out 1
       go_wp2
       go_loopg [5] k2 (fun kq v5 w' => ∃ (x5_3 : Int), v5 = .int .i64 x5_3 ∧ Aside0 (spec_l4Acyclic.l2 kq x3_1 x4_2 x5_3 a0_0 a0_1 = some r) ∧ Aside0 (kq ≤ k2) ∧ Aside0 (w'.heap[gb153]? = some (.cells #[.int .i64 a0_0, .string a0_1] 26 (0, 0))) ∧ Aside0 (Below w.heap.size w w'))
       case atStart => exact ⟨(wrap64 (x4_2 + 1)), zF, H', ⟨Nat.le_refl _⟩, ⟨zK BK153.out⟩, ⟨zG GE153.out⟩⟩
       case round =>
        clear H'
        try clear p2
        try clear c3
        try clear c3b0
        try clear c5
        try clear c5b0
        try clear c6
        try clear p6
        try clear hcz4_0
        try clear hcz4_1
        try clear hcz6_0
        try clear hcz6_1
        try clear hfz4_0
        try clear hfz4_1
        try clear hfz6_0
        try clear hfz6_1
        try clear p2
        obtain ⟨x5_3, rfl, HA, HK3, BK153, HB⟩ := hrel
        cases gk with
        | zero => exact absurd HA.out (by simp [spec_l4Acyclic.l2])
        | succ k3 =>
         have H := HA.out
         clear HA
         simp only [spec_l4Acyclic.l2] at H
         by_cases c7 : x5_3 < a0_0
         ·rw [if_pos c7] at H
          have c7b0 : decide (x5_3 < a0_0) = true := decide_eq_true c7
          clear c7
          have H' := Aside0.mk H
          clear H
          have hcz8_0 : wr.cell? ⟨gb153, 0, none⟩ = some (.int .i64 a0_0) := (blk_cell BK153.out 0).trans rfl
          have hcz8_1 : wr.cell? ⟨gb153, 1, none⟩ = some (.string a0_1) := (blk_cell BK153.out 1).trans rfl
          have hfz8_0 := blk_frozen BK153.out 0
          have hfz8_1 := blk_frozen BK153.out 1
          go_wp2
          go_loopg [6] k3 (fun kq v6 w' => ∃ (x6_4 : Int), v6 = .int .i64 x6_4 ∧ Aside0 (spec_l4Acyclic.l3 kq x3_1 x4_2 x5_3 x6_4 a0_0 a0_1 = some r) ∧ Aside0 (kq ≤ k3) ∧ Aside0 (w'.heap[gb153]? = some (.cells #[.int .i64 a0_0, .string a0_1] 26 (0, 0))) ∧ Aside0 (Below w.heap.size w w'))
          case atStart => exact ⟨(wrap64 (x5_3 + 1)), zF, H', ⟨Nat.le_refl _⟩, ⟨zK BK153.out⟩, ⟨zG GE153.out⟩⟩
          case round =>
           clear H'
           try clear p2
           try clear c3
           try clear c3b0
           try clear c5
           try clear c5b0
           try clear c6
           try clear p6
           try clear c7
           try clear c7b0
           try clear hcz4_0
           try clear hcz4_1
           try clear hcz6_0
           try clear hcz6_1
           try clear hcz8_0
           try clear hcz8_1
           try clear hfz4_0
           try clear hfz4_1
           try clear hfz6_0
           try clear hfz6_1
           try clear hfz8_0
           try clear hfz8_1
           try clear p2
           try clear p6
           obtain ⟨x6_4, rfl, HA, HK4, BK153, HB⟩ := hrel
           cases gk with
           | zero => exact absurd HA.out (by simp [spec_l4Acyclic.l3])
           | succ k4 =>
            have H := HA.out
            clear HA
            simp only [spec_l4Acyclic.l3] at H
            by_cases c9 : x6_4 < a0_0
            ·rw [if_pos c9] at H
             have c9b0 : decide (x6_4 < a0_0) = true := decide_eq_true c9
             clear c9
             replace H := Option.bind_eq_some_iff.mp H
             obtain ⟨t154, A100, H⟩ := H
             replace H : (if t154.toList = ([43, 43, 43, 43] : List UInt8) then (some false) else (spec_l4Acyclic.l3 k4 x3_1 x4_2 x5_3 (wrap64 (x6_4 + 1)) a0_0 a0_1)) = some r := H
             have A10 := Aside0.mk A100
             clear A100
             by_cases c11 : t154.toList = ([43, 43, 43, 43] : List UInt8)
             ·rw [if_pos c11] at H
              have c11b0 : (t154.toList == ([43, 43, 43, 43] : List UInt8)) = true := beq_iff_eq.mpr c11
              have c11b1 : (t154.toList != ([43, 43, 43, 43] : List UInt8)) = false := bne_eq_false_iff_eq.mpr c11
              clear c11
              obtain rfl := Option.some.inj H
              have hcz12_0 : wr.cell? ⟨gb153, 0, none⟩ = some (.int .i64 a0_0) := (blk_cell BK153.out 0).trans rfl
              have hcz12_1 : wr.cell? ⟨gb153, 1, none⟩ = some (.string a0_1) := (blk_cell BK153.out 1).trans rfl
              have hfz12_0 := blk_frozen BK153.out 0
              have hfz12_1 := blk_frozen BK153.out 1
              go_wp2_with (first | ((with_reducible refine gate_callee (f := 81) rfl ?_); refine goesL_ (some 42) rfl rfl Try.func81 (by kernel_rfl) rfl #[.agg #[.int .i64 a0_0, .string a0_1], .int .i64 x3_1, .int .i64 x4_2, .int .i64 x5_3, .int .i64 x6_4] rfl zM ?_; (with_reducible refine (spec_l4Circuit.calls k4 a0_0 a0_1 x3_1 x4_2 x5_3 x6_4 t154 _ A10.out).mono ?_); rintro e w13 ⟨rfl, hb⟩; refine ⟨_, rfl, ?_⟩; replace BK153 := Aside0.mk (blk_below (g := gb153) (o := .cells #[.int .i64 a0_0, .string a0_1] 26 (0, 0)) (zK BK153.out) hb); replace HB := Aside0.mk (below_step (zG GE153.out) hb); (try clear hb)))
              go_ret
              exact ⟨zE, zG GE153.out⟩
             ·rw [if_neg c11] at H
              have c11b0 : (t154.toList == ([43, 43, 43, 43] : List UInt8)) = false := beq_eq_false_iff_ne.mpr c11
              have c11b1 : (t154.toList != ([43, 43, 43, 43] : List UInt8)) = true := bne_iff_ne.mpr c11
              have H' := Aside0.mk H
              clear H
              have hcz14_0 : wr.cell? ⟨gb153, 0, none⟩ = some (.int .i64 a0_0) := (blk_cell BK153.out 0).trans rfl
              have hcz14_1 : wr.cell? ⟨gb153, 1, none⟩ = some (.string a0_1) := (blk_cell BK153.out 1).trans rfl
              have hfz14_0 := blk_frozen BK153.out 0
              have hfz14_1 := blk_frozen BK153.out 1
              go_wp2_with (first | ((with_reducible refine gate_callee (f := 81) rfl ?_); refine goesL_ (some 42) rfl rfl Try.func81 (by kernel_rfl) rfl #[.agg #[.int .i64 a0_0, .string a0_1], .int .i64 x3_1, .int .i64 x4_2, .int .i64 x5_3, .int .i64 x6_4] rfl zM ?_; (with_reducible refine (spec_l4Circuit.calls k4 a0_0 a0_1 x3_1 x4_2 x5_3 x6_4 t154 _ A10.out).mono ?_); rintro e w15 ⟨rfl, hb⟩; refine ⟨_, rfl, ?_⟩; replace BK153 := Aside0.mk (blk_below (g := gb153) (o := .cells #[.int .i64 a0_0, .string a0_1] 26 (0, 0)) (zK BK153.out) hb); replace HB := Aside0.mk (below_step (zG GE153.out) hb); (try clear hb)))
              go_roundg k4
              case measure => have := HK1.out; have := HK2.out; have := HK3.out; have := HK4.out; omega
              case rel => exact ⟨(wrap64 (x6_4 + 1)), zF, H', ⟨by have := HK1.out; have := HK2.out; have := HK3.out; have := HK4.out; omega⟩, ⟨zK BK153.out⟩, ⟨zG GE153.out⟩⟩
            ·rw [if_neg c9] at H
             have c9b0 : decide (x6_4 < a0_0) = false := decide_eq_false c9
             clear c9
             have H' := Aside0.mk H
             clear H
             have hcz16_0 : wr.cell? ⟨gb153, 0, none⟩ = some (.int .i64 a0_0) := (blk_cell BK153.out 0).trans rfl
             have hcz16_1 : wr.cell? ⟨gb153, 1, none⟩ = some (.string a0_1) := (blk_cell BK153.out 1).trans rfl
             have hfz16_0 := blk_frozen BK153.out 0
             have hfz16_1 := blk_frozen BK153.out 1
             go_wp2
             go_roundg k4
             case measure => have := HK1.out; have := HK2.out; have := HK3.out; have := HK4.out; omega
             case rel => exact ⟨(wrap64 (x5_3 + 1)), zF, H', ⟨by have := HK1.out; have := HK2.out; have := HK3.out; have := HK4.out; omega⟩, ⟨zK BK153.out⟩, ⟨zG GE153.out⟩⟩
         ·rw [if_neg c7] at H
          have c7b0 : decide (x5_3 < a0_0) = false := decide_eq_false c7
          clear c7
          have H' := Aside0.mk H
          clear H
          have hcz17_0 : wr.cell? ⟨gb153, 0, none⟩ = some (.int .i64 a0_0) := (blk_cell BK153.out 0).trans rfl
          have hcz17_1 : wr.cell? ⟨gb153, 1, none⟩ = some (.string a0_1) := (blk_cell BK153.out 1).trans rfl
          have hfz17_0 := blk_frozen BK153.out 0
          have hfz17_1 := blk_frozen BK153.out 1
          go_wp2
          go_roundg k3
          case measure => have := HK1.out; have := HK2.out; have := HK3.out; omega
          case rel => exact ⟨(wrap64 (x4_2 + 1)), zF, H', ⟨by have := HK1.out; have := HK2.out; have := HK3.out; omega⟩, ⟨zK BK153.out⟩, ⟨zG GE153.out⟩⟩
      ·rw [if_neg c5] at H
       have c5b0 : decide (x4_2 < a0_0) = false := decide_eq_false c5
       clear c5
       have H' := Aside0.mk H
       clear H
       have hcz18_0 : wr.cell? ⟨gb153, 0, none⟩ = some (.int .i64 a0_0) := (blk_cell BK153.out 0).trans rfl
       have hcz18_1 : wr.cell? ⟨gb153, 1, none⟩ = some (.string a0_1) := (blk_cell BK153.out 1).trans rfl
       have hfz18_0 := blk_frozen BK153.out 0
       have hfz18_1 := blk_frozen BK153.out 1
       go_wp2
       go_roundg k2
       case measure => have := HK1.out; have := HK2.out; omega
       case rel => exact ⟨(wrap64 (x3_1 + 1)), zF, H', ⟨by have := HK1.out; have := HK2.out; omega⟩, ⟨zK BK153.out⟩, ⟨zG GE153.out⟩⟩
   ·rw [if_neg c3] at H
    have c3b0 : decide (x3_1 < a0_0) = false := decide_eq_false c3
    clear c3
    obtain rfl := Option.some.inj H
    have hcz19_0 : wr.cell? ⟨gb153, 0, none⟩ = some (.int .i64 a0_0) := (blk_cell BK153.out 0).trans rfl
    have hcz19_1 : wr.cell? ⟨gb153, 1, none⟩ = some (.string a0_1) := (blk_cell BK153.out 1).trans rfl
    have hfz19_0 := blk_frozen BK153.out 0
    have hfz19_1 := blk_frozen BK153.out 1
    go_wp2
    go_ret
    exact ⟨zE, zG GE153.out⟩
end Go.Proofs.Ytbjncemaeagjjaa.PX
