/- A part of proofs about signs and points: what some functions answer, and that their calls answer so. No condition. -/
import Derived.Test.YtckkfjdkaimmhaaProg
import Derived.Test.YtckkfjdkaimmhaaV1
import Derived.Test.YtckkfjdkaimmhaaBzwlise1
import Derived.Test.YtckkfjdkaimmhaaBzwlise2
set_option linter.unusedVariables false
set_option linter.unusedSimpArgs false
namespace Go.Proofs.Ytckkfjdkaimmhaa.PX
open Go.RowKit Go.Proofs.Ytckkfjdkaimmhaa.G Go.Proofs.YtckkfjdkaimmhaaW.PrintWords Go.Proofs.YtckkfjdkaimmhaaW.PrintLast Go.Proofs.YtckkfjdkaimmhaaW.PrintMore
attribute [local go_sem] max2_int min2_int max_two min_two max_three min_three max_four min_four   -- for this text's walks alone
set_option linter.unusedVariables false
set_option linter.unusedSimpArgs false
/-! ### spec_l4Reverse: function 90 -/
mutual
def spec_l4Reverse.l0 : Nat → Int → Int → Int → ByteArray → Int → ByteArray → Option (Int × ByteArray)
 | 0, _, _, _, _, _, _ => none
 | k + 1, x1, x6, x107000, x107001, x109000, x109001 => if x6 < x107000 then (spec_l4Reverse.l1 k x1 x6 (wrap64 (x6 + 1)) x107000 x107001 x109000 x109001) else (some (x109000, x109001))
def spec_l4Reverse.l1 : Nat → Int → Int → Int → Int → ByteArray → Int → ByteArray → Option (Int × ByteArray)
 | 0, _, _, _, _, _, _, _ => none
 | k + 1, x1, x6, x7, x107000, x107001, x109000, x109001 => if x7 < x107000 then (spec_l4Reverse.l2 k x1 x6 x7 (wrap64 (x7 + 1)) x107000 x107001 x109000 x109001) else (spec_l4Reverse.l0 k x1 (wrap64 (x6 + 1)) x107000 x107001 x109000 x109001)
def spec_l4Reverse.l2 : Nat → Int → Int → Int → Int → Int → ByteArray → Int → ByteArray → Option (Int × ByteArray)
 | 0, _, _, _, _, _, _, _, _ => none
 | k + 1, x1, x6, x7, x8, x107000, x107001, x109000, x109001 => if x8 < x107000 then ((spec_l3At.f k x107000 x107001 x6 x7 x8).bind fun t109 => (if 0 ≤ (IntKind.u64.wrap (x6)) then (if 0 ≤ (IntKind.u64.wrap (x7)) then (if 0 ≤ (IntKind.u64.wrap (x8)) then (if (Go.bits .and .i64 (wrap64 ((wrap64 ((shr .i64 x1 (IntKind.u64.wrap (x6))) + (shr .i64 x1 (IntKind.u64.wrap (x7))))) + (shr .i64 x1 (IntKind.u64.wrap (x8))))) 1) = 1 then ((spec_l3Byte.f (wrap64 (-t109))).bind fun t110 => (if x109001.size + t110.size ≤ 9223372036854775807 then (spec_l4Reverse.l2 k x1 x6 x7 (wrap64 (x8 + 1)) x107000 x107001 x109000 (x109001 ++ t110)) else (none))) else ((spec_l3Byte.f t109).bind fun t111 => (if x109001.size + t111.size ≤ 9223372036854775807 then (spec_l4Reverse.l2 k x1 x6 x7 (wrap64 (x8 + 1)) x107000 x107001 x109000 (x109001 ++ t111)) else (none)))) else (none)) else (none)) else (none))) else (spec_l4Reverse.l1 k x1 x6 (wrap64 (x7 + 1)) x107000 x107001 x109000 x109001)
end
def spec_l4Reverse.f (k : Nat) (a0_0 : Int) (a0_1 : ByteArray) (a1 : Int) : Option (Int × ByteArray) := spec_l4Reverse.l0 k a1 0 a0_0 a0_1 a0_0 (⟨#[]⟩ : ByteArray)
set_option maxHeartbeats 8000000 in
set_option maxRecDepth 100000 in
theorem spec_l4Reverse.calls (k : Nat) (a0_0 : Int) (a0_1 : ByteArray) (a1 : Int) (r1 : Int) (r2 : ByteArray) (w : World) (h : spec_l4Reverse.f k a0_0 a0_1 a1 = some (r1, r2)) :
  Calls Try.prog 90 #[.agg #[.int .i64 a0_0, .string a0_1], .int .i64 a1] w fun e w' => e = .returned (.agg #[.int .i64 r1, .string r2]) ∧ Below w.heap.size w w' := by
 have hu25 := Try.underlying25
 have HB := Aside0.mk (Below.refl w.heap.size w)
 have H : (spec_l4Reverse.l0 k a1 0 a0_0 a0_1 a0_0 (⟨#[]⟩ : ByteArray)) = some (r1, r2) := h
 clear h
 have H' := Aside0.mk H; clear H
 go_enter Try.func90, Try.ntmps90
 go_wp2_with (first | ((with_reducible refine gate_dst (N := 2) rfl ?_); refine zBx (N := 2) #[.int .i64 a0_0, .string a0_1] 25 ?_; intro gb106 hg w3 hbox hb; have BK106 := Aside0.mk (hbox); have GW106 := zS hg; have GE106 := zS hg; replace HB := zX hb; clear hb hbox hg) | ((with_reducible refine gate_dst (N := 4) rfl ?_); refine zBx (N := 4) #[.int .i64 0, .string (⟨#[]⟩ : ByteArray)] 25 ?_; intro gb107 hg w4 hbox hb; have BK107 := Aside0.mk (hbox); have GW107 := zSg hg (zG GE106.out); have GE107 := zSg hg (zG GE106.out); have NB106_107 := zL hg BK106.out; have NB107_106 := zLg hg BK106.out; replace BK106 := zV BK106.out hb; replace HB := zX1 GE106.out hb; clear hb hbox hg; have hnb5 := NB106_107.out; have hnc5 := NB107_106.out; obtain ⟨hcz6_0, hcz6_1, hfz6_0, hfz6_1⟩ := zq2 BK106.out) | ((with_reducible refine gate_dst (N := 5) rfl ?_); refine zBx (N := 5) #[.int .i64 0, .string (⟨#[]⟩ : ByteArray)] 25 ?_; intro gb108 hg w7 hbox hb; have BK108 := Aside0.mk (hbox); have GW108 := zSg hg (zG2 GE106.out GE107.out); have GE108 := zSg hg (zG2 GE106.out GE107.out); have NB106_108 := zL hg BK106.out; have NB108_106 := zLg hg BK106.out; replace BK106 := zV BK106.out hb; have NB107_108 := zL hg BK107.out; have NB108_107 := zLg hg BK107.out; replace BK107 := zV BK107.out hb; replace HB := Aside0.mk (below_step (zG2 GE106.out GE107.out) hb); clear hb hbox hg; have hnb8 := NB108_106.out; have hnc8 := NB106_108.out; have hnb9 := NB108_107.out; have hnc9 := NB107_108.out; obtain ⟨hcz10_0, hcz10_1, hfz10_0, hfz10_1⟩ := zq2 BK108.out))
 go_loopg [6] k (fun kq v6 w' => ∃ (x6_1 : Int) (x109001_1 : ByteArray), v6 = .int .i64 x6_1 ∧ Aside0 (spec_l4Reverse.l0 kq a1 x6_1 a0_0 a0_1 a0_0 x109001_1 = some (r1, r2)) ∧ Aside0 (kq ≤ k) ∧ Aside0 (w'.heap[gb106]? = some (.cells #[.int .i64 a0_0, .string a0_1] 25 (0, 0))) ∧ Aside0 (w'.heap[gb107]? = some (.cells #[.int .i64 0, .string (⟨#[]⟩ : ByteArray)] 25 (0, 0))) ∧ Aside0 (w'.heap[gb108]? = some (.cells #[.int .i64 a0_0, .string x109001_1] 25 (0, 0))) ∧ Aside0 (Below w.heap.size w w'))
 case atStart => exact ⟨(0), ((⟨#[]⟩ : ByteArray)), zF, H', ⟨Nat.le_refl _⟩, ⟨zk2 BK106.out NB106_108.out NB106_108.out⟩, ⟨zk2 BK107.out NB107_108.out NB107_108.out⟩, ⟨zk0 BK108.out⟩, ⟨zG3 GE106.out GE107.out GE108.out⟩⟩
 case round =>
 clear H'
 try clear hcz10_0
 try clear hcz10_1
 try clear hcz6_0
 try clear hcz6_1
 try clear hfz10_0
 try clear hfz10_1
 try clear hfz6_0
 try clear hfz6_1
 obtain ⟨x6_1, x109001_1, rfl, HA, HK1, BK106, BK107, BK108, HB⟩ := hrel
 cases gk with
 | zero => exact absurd HA.out (by simp [spec_l4Reverse.l0])
 | succ k1 =>
 have H := HA.out
 clear HA
 simp only [spec_l4Reverse.l0] at H
 by_cases c11 : x6_1 < a0_0
 ·rw [if_pos c11] at H
  have c11b0 : decide (x6_1 < a0_0) = true := decide_eq_true c11
  clear c11
  have H' := Aside0.mk H; clear H
  have hnb12 := NB106_107.out
  have hnc12 := NB107_106.out
  have hnb13 := NB106_108.out
  have hnc13 := NB108_106.out
  obtain ⟨hcz14_0, hcz14_1, hfz14_0, hfz14_1⟩ := zq2 BK106.out
  go_wp2
  go_loopg [7] k1 (fun kq v7 w' => ∃ (x7_2 : Int) (x109001_2 : ByteArray), v7 = .int .i64 x7_2 ∧ Aside0 (spec_l4Reverse.l1 kq a1 x6_1 x7_2 a0_0 a0_1 a0_0 x109001_2 = some (r1, r2)) ∧ Aside0 (kq ≤ k1) ∧ Aside0 (w'.heap[gb106]? = some (.cells #[.int .i64 a0_0, .string a0_1] 25 (0, 0))) ∧ Aside0 (w'.heap[gb107]? = some (.cells #[.int .i64 0, .string (⟨#[]⟩ : ByteArray)] 25 (0, 0))) ∧ Aside0 (w'.heap[gb108]? = some (.cells #[.int .i64 a0_0, .string x109001_2] 25 (0, 0))) ∧ Aside0 (Below w.heap.size w w'))
  case atStart => exact ⟨(wrap64 (x6_1 + 1)), (x109001_1), zF, H', ⟨Nat.le_refl _⟩, ⟨zK BK106.out⟩, ⟨zK BK107.out⟩, ⟨zK BK108.out⟩, ⟨zG3 GE106.out GE107.out GE108.out⟩⟩
  case round =>
  clear H'
  try clear c11
  try clear c11b0
  try clear hcz10_0
  try clear hcz10_1
  try clear hcz14_0
  try clear hcz14_1
  try clear hcz6_0
  try clear hcz6_1
  try clear hfz10_0
  try clear hfz10_1
  try clear hfz14_0
  try clear hfz14_1
  try clear hfz6_0
  try clear hfz6_1
  obtain ⟨x7_2, x109001_2, rfl, HA, HK2, BK106, BK107, BK108, HB⟩ := hrel
  cases gk with
  | zero => exact absurd HA.out (by simp [spec_l4Reverse.l1])
  | succ k2 =>
  have H := HA.out
  clear HA
  simp only [spec_l4Reverse.l1] at H
  by_cases c15 : x7_2 < a0_0
  ·rw [if_pos c15] at H
   have c15b0 : decide (x7_2 < a0_0) = true := decide_eq_true c15
   clear c15
   have H' := Aside0.mk H; clear H
   have hnb16 := NB106_107.out
   have hnc16 := NB107_106.out
   have hnb17 := NB106_108.out
   have hnc17 := NB108_106.out
   obtain ⟨hcz18_0, hcz18_1, hfz18_0, hfz18_1⟩ := zq2 BK106.out
   go_wp2
   go_loopg [8] k2 (fun kq v8 w' => ∃ (x8_3 : Int) (x109001_3 : ByteArray), v8 = .int .i64 x8_3 ∧ Aside0 (spec_l4Reverse.l2 kq a1 x6_1 x7_2 x8_3 a0_0 a0_1 a0_0 x109001_3 = some (r1, r2)) ∧ Aside0 (kq ≤ k2) ∧ Aside0 (w'.heap[gb106]? = some (.cells #[.int .i64 a0_0, .string a0_1] 25 (0, 0))) ∧ Aside0 (w'.heap[gb107]? = some (.cells #[.int .i64 0, .string (⟨#[]⟩ : ByteArray)] 25 (0, 0))) ∧ Aside0 (w'.heap[gb108]? = some (.cells #[.int .i64 a0_0, .string x109001_3] 25 (0, 0))) ∧ Aside0 (Below w.heap.size w w'))
   case atStart => exact ⟨(wrap64 (x7_2 + 1)), (x109001_2), zF, H', ⟨Nat.le_refl _⟩, ⟨zK BK106.out⟩, ⟨zK BK107.out⟩, ⟨zK BK108.out⟩, ⟨zG3 GE106.out GE107.out GE108.out⟩⟩
   case round =>
   clear H'
   try clear c11
   try clear c11b0
   try clear c15
   try clear c15b0
   try clear hcz10_0
   try clear hcz10_1
   try clear hcz14_0
   try clear hcz14_1
   try clear hcz18_0
   try clear hcz18_1
   try clear hcz6_0
   try clear hcz6_1
   try clear hfz10_0
   try clear hfz10_1
   try clear hfz14_0
   try clear hfz14_1
   try clear hfz18_0
   try clear hfz18_1
   try clear hfz6_0
   try clear hfz6_1
   obtain ⟨x8_3, x109001_3, rfl, HA, HK3, BK106, BK107, BK108, HB⟩ := hrel
   cases gk with
   | zero => exact absurd HA.out (by simp [spec_l4Reverse.l2])
   | succ k3 =>
   have H := HA.out
   clear HA
   simp only [spec_l4Reverse.l2] at H
   by_cases c19 : x8_3 < a0_0
   ·rw [if_pos c19] at H
    have c19b0 : decide (x8_3 < a0_0) = true := decide_eq_true c19
    clear c19
    obtain ⟨t109, A20, H⟩ := zO H
    obtain ⟨ji21, hji21⟩ : ∃ j_ : Int, (IntKind.u64.wrap (x6_1)) = j_ := ⟨_, rfl⟩
    replace H : (if 0 ≤ (ji21) then (if 0 ≤ (IntKind.u64.wrap (x7_2)) then (if 0 ≤ (IntKind.u64.wrap (x8_3)) then (if (Go.bits .and .i64 (wrap64 ((wrap64 ((shr .i64 a1 (ji21)) + (shr .i64 a1 (IntKind.u64.wrap (x7_2))))) + (shr .i64 a1 (IntKind.u64.wrap (x8_3))))) 1) = 1 then ((spec_l3Byte.f (wrap64 (-t109))).bind fun t110 => (if x109001_3.size + t110.size ≤ 9223372036854775807 then (spec_l4Reverse.l2 k3 a1 x6_1 x7_2 (wrap64 (x8_3 + 1)) a0_0 a0_1 a0_0 (x109001_3 ++ t110)) else (none))) else ((spec_l3Byte.f t109).bind fun t111 => (if x109001_3.size + t111.size ≤ 9223372036854775807 then (spec_l4Reverse.l2 k3 a1 x6_1 x7_2 (wrap64 (x8_3 + 1)) a0_0 a0_1 a0_0 (x109001_3 ++ t111)) else (none)))) else (none)) else (none)) else (none)) = some (r1, r2) := by first | (rw [hji21] at H; exact H) | (simp only [hji21] at H ⊢; exact H)
    (try rw [hji21] at A20)
    by_cases c22 : 0 ≤ (ji21)
    ·rw [if_pos c22] at H
     have c22b0 := eq_true c22
     have c22b1 : decide (0 ≤ (ji21)) = true := decide_eq_true c22
     clear c22
     obtain ⟨ji23, hji23⟩ : ∃ j_ : Int, (shr .i64 a1 (ji21)) = j_ := ⟨_, rfl⟩
     replace H : (if 0 ≤ (IntKind.u64.wrap (x7_2)) then (if 0 ≤ (IntKind.u64.wrap (x8_3)) then (if (Go.bits .and .i64 (wrap64 ((wrap64 ((ji23) + (shr .i64 a1 (IntKind.u64.wrap (x7_2))))) + (shr .i64 a1 (IntKind.u64.wrap (x8_3))))) 1) = 1 then ((spec_l3Byte.f (wrap64 (-t109))).bind fun t110 => (if x109001_3.size + t110.size ≤ 9223372036854775807 then (spec_l4Reverse.l2 k3 a1 x6_1 x7_2 (wrap64 (x8_3 + 1)) a0_0 a0_1 a0_0 (x109001_3 ++ t110)) else (none))) else ((spec_l3Byte.f t109).bind fun t111 => (if x109001_3.size + t111.size ≤ 9223372036854775807 then (spec_l4Reverse.l2 k3 a1 x6_1 x7_2 (wrap64 (x8_3 + 1)) a0_0 a0_1 a0_0 (x109001_3 ++ t111)) else (none)))) else (none)) else (none)) = some (r1, r2) := by first | (rw [hji23] at H; exact H) | (simp only [hji23] at H ⊢; exact H)
     (try rw [hji23] at A20)
     have hji23_ : (a1 / 2 ^ min (ji21).toNat 64) = ji23 := hji23
     have hji23z : (ji21) ≤ 64 → (a1 / 2 ^ (ji21).toNat) = ji23 := shr_small hji23
     obtain ⟨ji24, hji24⟩ : ∃ j_ : Int, (IntKind.u64.wrap (x7_2)) = j_ := ⟨_, rfl⟩
     replace H : (if 0 ≤ (ji24) then (if 0 ≤ (IntKind.u64.wrap (x8_3)) then (if (Go.bits .and .i64 (wrap64 ((wrap64 ((ji23) + (shr .i64 a1 (ji24)))) + (shr .i64 a1 (IntKind.u64.wrap (x8_3))))) 1) = 1 then ((spec_l3Byte.f (wrap64 (-t109))).bind fun t110 => (if x109001_3.size + t110.size ≤ 9223372036854775807 then (spec_l4Reverse.l2 k3 a1 x6_1 x7_2 (wrap64 (x8_3 + 1)) a0_0 a0_1 a0_0 (x109001_3 ++ t110)) else (none))) else ((spec_l3Byte.f t109).bind fun t111 => (if x109001_3.size + t111.size ≤ 9223372036854775807 then (spec_l4Reverse.l2 k3 a1 x6_1 x7_2 (wrap64 (x8_3 + 1)) a0_0 a0_1 a0_0 (x109001_3 ++ t111)) else (none)))) else (none)) else (none)) = some (r1, r2) := by first | (rw [hji24] at H; exact H) | (simp only [hji24] at H ⊢; exact H)
     (try rw [hji24] at A20)
     by_cases c25 : 0 ≤ (ji24)
     ·rw [if_pos c25] at H
      have c25b0 := eq_true c25
      have c25b1 : decide (0 ≤ (ji24)) = true := decide_eq_true c25
      clear c25
      obtain ⟨ji26, hji26⟩ : ∃ j_ : Int, (shr .i64 a1 (ji24)) = j_ := ⟨_, rfl⟩
      replace H : (if 0 ≤ (IntKind.u64.wrap (x8_3)) then (if (Go.bits .and .i64 (wrap64 ((wrap64 ((ji23) + (ji26))) + (shr .i64 a1 (IntKind.u64.wrap (x8_3))))) 1) = 1 then ((spec_l3Byte.f (wrap64 (-t109))).bind fun t110 => (if x109001_3.size + t110.size ≤ 9223372036854775807 then (spec_l4Reverse.l2 k3 a1 x6_1 x7_2 (wrap64 (x8_3 + 1)) a0_0 a0_1 a0_0 (x109001_3 ++ t110)) else (none))) else ((spec_l3Byte.f t109).bind fun t111 => (if x109001_3.size + t111.size ≤ 9223372036854775807 then (spec_l4Reverse.l2 k3 a1 x6_1 x7_2 (wrap64 (x8_3 + 1)) a0_0 a0_1 a0_0 (x109001_3 ++ t111)) else (none)))) else (none)) = some (r1, r2) := by first | (rw [hji26] at H; exact H) | (simp only [hji26] at H ⊢; exact H)
      (try rw [hji26] at A20)
      have hji26_ : (a1 / 2 ^ min (ji24).toNat 64) = ji26 := hji26
      have hji26z : (ji24) ≤ 64 → (a1 / 2 ^ (ji24).toNat) = ji26 := shr_small hji26
      obtain ⟨ji27, hji27⟩ : ∃ j_ : Int, (IntKind.u64.wrap (x8_3)) = j_ := ⟨_, rfl⟩
      replace H : (if 0 ≤ (ji27) then (if (Go.bits .and .i64 (wrap64 ((wrap64 ((ji23) + (ji26))) + (shr .i64 a1 (ji27)))) 1) = 1 then ((spec_l3Byte.f (wrap64 (-t109))).bind fun t110 => (if x109001_3.size + t110.size ≤ 9223372036854775807 then (spec_l4Reverse.l2 k3 a1 x6_1 x7_2 (wrap64 (x8_3 + 1)) a0_0 a0_1 a0_0 (x109001_3 ++ t110)) else (none))) else ((spec_l3Byte.f t109).bind fun t111 => (if x109001_3.size + t111.size ≤ 9223372036854775807 then (spec_l4Reverse.l2 k3 a1 x6_1 x7_2 (wrap64 (x8_3 + 1)) a0_0 a0_1 a0_0 (x109001_3 ++ t111)) else (none)))) else (none)) = some (r1, r2) := by first | (rw [hji27] at H; exact H) | (simp only [hji27] at H ⊢; exact H)
      (try rw [hji27] at A20)
      by_cases c28 : 0 ≤ (ji27)
      ·rw [if_pos c28] at H
       have c28b0 := eq_true c28
       have c28b1 : decide (0 ≤ (ji27)) = true := decide_eq_true c28
       clear c28
       obtain ⟨ji29, hji29⟩ : ∃ j_ : Int, (shr .i64 a1 (ji27)) = j_ := ⟨_, rfl⟩
       replace H : (if (Go.bits .and .i64 (wrap64 ((wrap64 ((ji23) + (ji26))) + (ji29))) 1) = 1 then ((spec_l3Byte.f (wrap64 (-t109))).bind fun t110 => (if x109001_3.size + t110.size ≤ 9223372036854775807 then (spec_l4Reverse.l2 k3 a1 x6_1 x7_2 (wrap64 (x8_3 + 1)) a0_0 a0_1 a0_0 (x109001_3 ++ t110)) else (none))) else ((spec_l3Byte.f t109).bind fun t111 => (if x109001_3.size + t111.size ≤ 9223372036854775807 then (spec_l4Reverse.l2 k3 a1 x6_1 x7_2 (wrap64 (x8_3 + 1)) a0_0 a0_1 a0_0 (x109001_3 ++ t111)) else (none)))) = some (r1, r2) := by first | (rw [hji29] at H; exact H) | (simp only [hji29] at H ⊢; exact H)
       (try rw [hji29] at A20)
       have hji29_ : (a1 / 2 ^ min (ji27).toNat 64) = ji29 := hji29
       have hji29z : (ji27) ≤ 64 → (a1 / 2 ^ (ji27).toNat) = ji29 := shr_small hji29
       by_cases c30 : (Go.bits .and .i64 (wrap64 ((wrap64 ((ji23) + (ji26))) + (ji29))) 1) = 1
       ·rw [if_pos c30] at H
        have c30b0 : ((Go.bits .and .i64 (wrap64 ((wrap64 ((ji23) + (ji26))) + (ji29))) 1) == 1) = true := beq_iff_eq.mpr c30
        have c30b1 : ((Go.bits .and .i64 (wrap64 ((wrap64 ((ji23) + (ji26))) + (ji29))) 1) != 1) = false := bne_eq_false_iff_eq.mpr c30
        clear c30
        obtain ⟨t110, A31, H⟩ := zO H
        by_cases c32 : x109001_3.size + t110.size ≤ 9223372036854775807
        ·rw [if_pos c32] at H
         have c32b0 := eq_true c32
         have c32b1 : decide (x109001_3.size + t110.size ≤ 9223372036854775807) = true := decide_eq_true c32
         try have c32b2 : (9223372036854775807 < x109001_3.size + t110.size) = False := eq_false (Nat.not_lt.2 c32)
         have H' := Aside0.mk H; clear H
         have hnb33 := NB106_107.out
         have hnc33 := NB107_106.out
         have hnb34 := NB106_108.out
         have hnc34 := NB108_106.out
         obtain ⟨hcz35_0, hcz35_1, hfz35_0, hfz35_1⟩ := zq2 BK106.out
         try go_wp2_with (first | ((with_reducible refine gate_callee (f := 144) rfl ?_); refine zD (some 39) Try.func144 #[.agg #[.int .i64 a0_0, .string a0_1], .int .i64 x6_1, .int .i64 x7_2, .int .i64 x8_3] ?_; (with_reducible refine (spec_l3At.calls k3 a0_0 a0_1 x6_1 x7_2 x8_3 t109 _ A20.out).mono ?_); rintro e w36 ⟨rfl, hb⟩; refine ⟨_, rfl, ?_⟩; replace BK106 := zV BK106.out hb; replace BK107 := zV BK107.out hb; replace BK108 := zV BK108.out hb; replace HB := Aside0.mk (below_step (zG3 GE106.out GE107.out GE108.out) hb); (try clear hb)))
         replace BK106 := Aside0.mk (blk_drew BK106.out)
         replace BK107 := Aside0.mk (blk_drew BK107.out)
         replace BK108 := Aside0.mk (blk_drew BK108.out)
         replace HB := Aside0.mk (below_drew1 HB.out)
         refine start_ (n := 7) (S := fun w' => w'.cell? ⟨gb108, 0, none⟩ = some (.int .i64 a0_0) ∧ w'.cell? ⟨gb108, 1, none⟩ = some (.string x109001_3)) (ds := [6]) #[false, false, false, false, false, false, false] (by kernel_rfl) rfl rfl ⟨(blk_cell BK108.out 0).trans rfl, (blk_cell BK108.out 1).trans rfl⟩ (fun hHeld => ?_)
         generalize w36.drew = w37 at BK106 BK107 BK108 HB hHeld ⊢
         refine pure_ (i := 0) (N := some 58) (v := ?_) (a' := ?_) #[true, false, false, false, false, false, false] rfl rfl (by kernel_rfl) (fun _ _ _ h => h) (Or.inl ⟨by rfl, ?_⟩) ?_ ?_
         rotate_left
         ·intro w'
          go_simp
          with_reducible rfl
         rotate_left
         ·simp only [Act.put, List.setIfInBounds_toArray, List.set_cons_zero, List.set_cons_succ, i64_w, i32_w]
          rfl
         refine pure_ (i := 2) (N := some 60) (v := ?_) (a' := ?_) #[true, false, true, false, false, false, false] rfl rfl (by kernel_rfl) (fun _ _ _ h => h) (Or.inl ⟨by rfl, ?_⟩) ?_ ?_
         rotate_left
         ·intro w'
          go_simp
          with_reducible rfl
         rotate_left
         ·simp only [Act.put, List.setIfInBounds_toArray, List.set_cons_zero, List.set_cons_succ, i64_w, i32_w]
          rfl
         refine take_ (i := 1) (N := some 59) (v := ?_) (a' := ?_) #[true, true, true, false, false, false, false] rfl rfl (by kernel_rfl) (fun _ _ _ h => h) (Or.inl ⟨by rfl, ?_⟩) hHeld ?_ ?_
         rotate_left
         ·rintro w' ⟨s0, s1⟩
          go_simp
          with_reducible rfl
         rotate_left
         ·simp only [Act.put, List.setIfInBounds_toArray, List.set_cons_zero, List.set_cons_succ, i64_w, i32_w]
          rfl
         refine one_ (i := 3) (N := some 61) #[true, true, true, true, false, false, false] rfl rfl (by kernel_rfl) (by decide) (fun K hK => ?_)
         refine goes_ Try.func102 (by kernel_rfl) rfl #[.int .i64 (wrap64 (-t109))] (by rfl) rfl rfl zM ?_
         with_reducible refine (spec_l3Byte.calls (wrap64 (-t109)) t110 _ A31.out).mono ?_
         rintro e w' ⟨rfl, ⟨nd, rfl⟩⟩
         refine ⟨_, rfl, ?_⟩
         refine hK.out _ _ (zh2 BK108.out) (fun hHeld => ?_)
         clear hK K
         refine zN ?_
         refine pure_ (i := 4) (N := some 62) (v := ?_) (a' := ?_) #[true, true, true, true, true, false, false] rfl rfl (by kernel_rfl) (fun _ _ _ h => h) (Or.inl ⟨by rfl, ?_⟩) ?_ ?_
         rotate_left
         ·intro w'
          go_simp
          with_reducible rfl
         rotate_left
         ·simp only [Act.put, List.setIfInBounds_toArray, List.set_cons_zero, List.set_cons_succ, i64_w, i32_w]
          rfl
         refine pure_ (i := 5) (N := some 63) (v := ?_) (a' := ?_) #[true, true, true, true, true, true, false] rfl rfl (by kernel_rfl) (fun _ _ _ h => h) (Or.inl ⟨by rfl, ?_⟩) ?_ ?_
         rotate_left
         ·intro w'
          go_simp
          with_reducible rfl
         rotate_left
         ·simp only [Act.put, List.setIfInBounds_toArray, List.set_cons_zero, List.set_cons_succ, i64_w, i32_w]
          rfl
         refine last_ (i := 6) (N := none) #[true, true, true, true, true, true, true] rfl rfl (by kernel_rfl) (by decide) (fun K hK => ?_)
         have hs38 : w37.cell? ⟨gb108, 1, none⟩ = some (.string x109001_3) := (blk_cell BK108.out 1).trans rfl
         have hfs38 := blk_frozen BK108.out 1
         have hns38_0 := NB106_108.out
         have hns38_1 := NB107_108.out
         have hms38_0 := NB108_106.out
         have hms38_1 := NB108_107.out
         refine skip_ (w1 := ?_) (by rfl) rfl ?_ ?_
         rotate_left
         ·go_simp
          rfl
         refine hK.out _ _ ?_
         clear hK K
         refine done_ (by kernel_rfl) ?_
         try go_wp2
         go_roundg k3
         case measure => have := HK1.out; have := HK2.out; have := HK3.out; omega
         case rel => exact ⟨(wrap64 (x8_3 + 1)), (x109001_3 ++ t110), zF, H', ⟨by have := HK1.out; have := HK2.out; have := HK3.out; omega⟩, ⟨zk1 BK106.out NB106_108.out⟩, ⟨zk1 BK107.out NB107_108.out⟩, ⟨zk0 BK108.out⟩, ⟨zG3 GE106.out GE107.out GE108.out⟩⟩
        rw [if_neg c32] at H
        exact absurd H (by simp)
       rw [if_neg c30] at H
       have c30b0 : ((Go.bits .and .i64 (wrap64 ((wrap64 ((ji23) + (ji26))) + (ji29))) 1) == 1) = false := beq_eq_false_iff_ne.mpr c30
       have c30b1 : ((Go.bits .and .i64 (wrap64 ((wrap64 ((ji23) + (ji26))) + (ji29))) 1) != 1) = true := bne_iff_ne.mpr c30
       obtain ⟨t111, A39, H⟩ := zO H
       by_cases c40 : x109001_3.size + t111.size ≤ 9223372036854775807
       ·rw [if_pos c40] at H
        have c40b0 := eq_true c40
        have c40b1 : decide (x109001_3.size + t111.size ≤ 9223372036854775807) = true := decide_eq_true c40
        try have c40b2 : (9223372036854775807 < x109001_3.size + t111.size) = False := eq_false (Nat.not_lt.2 c40)
        have H' := Aside0.mk H; clear H
        have hnb41 := NB106_107.out
        have hnc41 := NB107_106.out
        have hnb42 := NB106_108.out
        have hnc42 := NB108_106.out
        obtain ⟨hcz43_0, hcz43_1, hfz43_0, hfz43_1⟩ := zq2 BK106.out
        try go_wp2_with (first | ((with_reducible refine gate_callee (f := 144) rfl ?_); refine zD (some 39) Try.func144 #[.agg #[.int .i64 a0_0, .string a0_1], .int .i64 x6_1, .int .i64 x7_2, .int .i64 x8_3] ?_; (with_reducible refine (spec_l3At.calls k3 a0_0 a0_1 x6_1 x7_2 x8_3 t109 _ A20.out).mono ?_); rintro e w44 ⟨rfl, hb⟩; refine ⟨_, rfl, ?_⟩; replace BK106 := zV BK106.out hb; replace BK107 := zV BK107.out hb; replace BK108 := zV BK108.out hb; replace HB := Aside0.mk (below_step (zG3 GE106.out GE107.out GE108.out) hb); (try clear hb)))
        replace BK106 := Aside0.mk (blk_drew BK106.out)
        replace BK107 := Aside0.mk (blk_drew BK107.out)
        replace BK108 := Aside0.mk (blk_drew BK108.out)
        replace HB := Aside0.mk (below_drew1 HB.out)
        refine start_ (n := 7) (S := fun w' => w'.cell? ⟨gb108, 0, none⟩ = some (.int .i64 a0_0) ∧ w'.cell? ⟨gb108, 1, none⟩ = some (.string x109001_3)) (ds := [6]) #[false, false, false, false, false, false, false] (by kernel_rfl) rfl rfl ⟨(blk_cell BK108.out 0).trans rfl, (blk_cell BK108.out 1).trans rfl⟩ (fun hHeld => ?_)
        generalize w44.drew = w45 at BK106 BK107 BK108 HB hHeld ⊢
        refine pure_ (i := 0) (N := some 58) (v := ?_) (a' := ?_) #[true, false, false, false, false, false, false] rfl rfl (by kernel_rfl) (fun _ _ _ h => h) (Or.inl ⟨by rfl, ?_⟩) ?_ ?_
        rotate_left
        ·intro w'
         go_simp
         with_reducible rfl
        rotate_left
        ·simp only [Act.put, List.setIfInBounds_toArray, List.set_cons_zero, List.set_cons_succ, i64_w, i32_w]
         rfl
        refine pure_ (i := 2) (N := some 60) (v := ?_) (a' := ?_) #[true, false, true, false, false, false, false] rfl rfl (by kernel_rfl) (fun _ _ _ h => h) (Or.inl ⟨by rfl, ?_⟩) ?_ ?_
        rotate_left
        ·intro w'
         go_simp
         with_reducible rfl
        rotate_left
        ·simp only [Act.put, List.setIfInBounds_toArray, List.set_cons_zero, List.set_cons_succ, i64_w, i32_w]
         rfl
        refine take_ (i := 1) (N := some 59) (v := ?_) (a' := ?_) #[true, true, true, false, false, false, false] rfl rfl (by kernel_rfl) (fun _ _ _ h => h) (Or.inl ⟨by rfl, ?_⟩) hHeld ?_ ?_
        rotate_left
        ·rintro w' ⟨s0, s1⟩
         go_simp
         with_reducible rfl
        rotate_left
        ·simp only [Act.put, List.setIfInBounds_toArray, List.set_cons_zero, List.set_cons_succ, i64_w, i32_w]
         rfl
        refine one_ (i := 3) (N := some 61) #[true, true, true, true, false, false, false] rfl rfl (by kernel_rfl) (by decide) (fun K hK => ?_)
        refine goes_ Try.func102 (by kernel_rfl) rfl #[.int .i64 t109] (by rfl) rfl rfl zM ?_
        with_reducible refine (spec_l3Byte.calls t109 t111 _ A39.out).mono ?_
        rintro e w' ⟨rfl, ⟨nd, rfl⟩⟩
        refine ⟨_, rfl, ?_⟩
        refine hK.out _ _ (zh2 BK108.out) (fun hHeld => ?_)
        clear hK K
        refine zN ?_
        refine pure_ (i := 4) (N := some 62) (v := ?_) (a' := ?_) #[true, true, true, true, true, false, false] rfl rfl (by kernel_rfl) (fun _ _ _ h => h) (Or.inl ⟨by rfl, ?_⟩) ?_ ?_
        rotate_left
        ·intro w'
         go_simp
         with_reducible rfl
        rotate_left
        ·simp only [Act.put, List.setIfInBounds_toArray, List.set_cons_zero, List.set_cons_succ, i64_w, i32_w]
         rfl
        refine pure_ (i := 5) (N := some 63) (v := ?_) (a' := ?_) #[true, true, true, true, true, true, false] rfl rfl (by kernel_rfl) (fun _ _ _ h => h) (Or.inl ⟨by rfl, ?_⟩) ?_ ?_
        rotate_left
        ·intro w'
         go_simp
         with_reducible rfl
        rotate_left
        ·simp only [Act.put, List.setIfInBounds_toArray, List.set_cons_zero, List.set_cons_succ, i64_w, i32_w]
         rfl
        refine last_ (i := 6) (N := none) #[true, true, true, true, true, true, true] rfl rfl (by kernel_rfl) (by decide) (fun K hK => ?_)
        have hs46 : w45.cell? ⟨gb108, 1, none⟩ = some (.string x109001_3) := (blk_cell BK108.out 1).trans rfl
        have hfs46 := blk_frozen BK108.out 1
        have hns46_0 := NB106_108.out
        have hns46_1 := NB107_108.out
        have hms46_0 := NB108_106.out
        have hms46_1 := NB108_107.out
        refine skip_ (w1 := ?_) (by rfl) rfl ?_ ?_
        rotate_left
        ·go_simp
         rfl
        refine hK.out _ _ ?_
        clear hK K
        refine done_ (by kernel_rfl) ?_
        try go_wp2
        go_roundg k3
        case measure => have := HK1.out; have := HK2.out; have := HK3.out; omega
        case rel => exact ⟨(wrap64 (x8_3 + 1)), (x109001_3 ++ t111), zF, H', ⟨by have := HK1.out; have := HK2.out; have := HK3.out; omega⟩, ⟨zk1 BK106.out NB106_108.out⟩, ⟨zk1 BK107.out NB107_108.out⟩, ⟨zk0 BK108.out⟩, ⟨zG3 GE106.out GE107.out GE108.out⟩⟩
       rw [if_neg c40] at H
       exact absurd H (by simp)
      rw [if_neg c28] at H
      exact absurd H (by simp)
     rw [if_neg c25] at H
     exact absurd H (by simp)
    rw [if_neg c22] at H
    exact absurd H (by simp)
   rw [if_neg c19] at H
   have c19b0 : decide (x8_3 < a0_0) = false := decide_eq_false c19
   clear c19
   have H' := Aside0.mk H; clear H
   have hnb47 := NB106_107.out
   have hnc47 := NB107_106.out
   have hnb48 := NB106_108.out
   have hnc48 := NB108_106.out
   obtain ⟨hcz49_0, hcz49_1, hfz49_0, hfz49_1⟩ := zq2 BK106.out
   go_wp2
   go_roundg k3
   case measure => have := HK1.out; have := HK2.out; have := HK3.out; omega
   case rel => exact ⟨(wrap64 (x7_2 + 1)), (x109001_3), zF, H', ⟨by have := HK1.out; have := HK2.out; have := HK3.out; omega⟩, ⟨zK BK106.out⟩, ⟨zK BK107.out⟩, ⟨zK BK108.out⟩, ⟨zG3 GE106.out GE107.out GE108.out⟩⟩
  rw [if_neg c15] at H
  have c15b0 : decide (x7_2 < a0_0) = false := decide_eq_false c15
  clear c15
  have H' := Aside0.mk H; clear H
  have hnb50 := NB106_107.out
  have hnc50 := NB107_106.out
  have hnb51 := NB106_108.out
  have hnc51 := NB108_106.out
  obtain ⟨hcz52_0, hcz52_1, hfz52_0, hfz52_1⟩ := zq2 BK106.out
  go_wp2
  go_roundg k2
  case measure => have := HK1.out; have := HK2.out; omega
  case rel => exact ⟨(wrap64 (x6_1 + 1)), (x109001_2), zF, H', ⟨by have := HK1.out; have := HK2.out; omega⟩, ⟨zK BK106.out⟩, ⟨zK BK107.out⟩, ⟨zK BK108.out⟩, ⟨zG3 GE106.out GE107.out GE108.out⟩⟩
 rw [if_neg c11] at H
 have c11b0 : decide (x6_1 < a0_0) = false := decide_eq_false c11
 clear c11
 simp only [Option.some.injEq, Prod.mk.injEq] at H
 obtain ⟨rfl, rfl⟩ := H
 have hnb53 := NB106_107.out
 have hnc53 := NB107_106.out
 have hnb54 := NB106_108.out
 have hnc54 := NB108_106.out
 obtain ⟨hcz55_0, hcz55_1, hfz55_0, hfz55_1⟩ := zq2 BK106.out
 have hnb56 := NB108_107.out
 have hnc56 := NB107_108.out
 obtain ⟨hcz57_0, hcz57_1, hfz57_0, hfz57_1⟩ := zq2 BK108.out
 obtain ⟨hcz58_0, hcz58_1, hfz58_0, hfz58_1⟩ := zq2 BK107.out
 go_wp2
 refine bodyPost_ret (results_cell_row rfl _ _ gb107 25 #[.int .i64 a0_0, .string x109001_1] (0, 0) _ rfl (zk0 BK107.out) Try.underlying25 rfl (by kernel_rfl)) rfl ?_
 exact ⟨zE, zG3 GE106.out GE107.out GE108.out⟩
/-! ### spec_l4Draw: function 80 -/
def spec_l4Draw.j0 : Nat → Bool → List Int → Int → Int → Int → ByteArray → Option (Int × ByteArray × Int × Int)
 | 0, _, _, _, _, _, _ => none
 | k + 1, x11, x1000, x1001, x1002, x233000, x233001 => if x11 = true then ((spec_l1Below.f x1000 x1001 x1002 x233000).bind fun bt237 => (if 0 ≤ (IntKind.u64.wrap (bt237.1)) then ((spec_l4Reverse.f k x233000 x233001 (shl .i64 1 (IntKind.u64.wrap (bt237.1)))).bind fun bt240 => (some (bt240.1, bt240.2, bt237.2.1, bt237.2.2))) else (none))) else (some (x233000, x233001, x1001, x1002))
def spec_l4Draw.f (k : Nat) (s0_0 : List Int) (s0_1 : Int) (s0_2 : Int) : Option (Int × ByteArray × Int × Int) := (spec_l3Bent.f k s0_0 s0_1 s0_2).bind fun bt228 => ((spec_AreSigns.f k bt228.1 bt228.2.1).bind fun t233 => (if t233 = true then ((spec_l1Once.f s0_0 bt228.2.2.1 bt228.2.2.2 4).bind fun bt234 => (spec_l4Draw.j0 k bt234.1 s0_0 bt234.2.1 bt234.2.2 bt228.1 bt228.2.1)) else (spec_l4Draw.j0 k false s0_0 bt228.2.2.1 bt228.2.2.2 bt228.1 bt228.2.1)))
def spec_l4Draw.T3 : Bool × List (List Nat × List Nat) := (true, [([], []), ([], []), ([], []), ([2], [2]), ([1, 3], [1, 3]), ([4], [4]), ([5], [5]), ([0, 6, 4], [0, 6]), ([7, 7, 0, 1, 2, 3, 4, 5, 6, 7], [7])])
def spec_l4Draw.B3 : List Nat := [0, 0, 0, 4, 14, 30, 62, 127, 255]
theorem spec_l4Draw.tab3 : rtab .any (opsOf Try.f80 3) = spec_l4Draw.T3 := by kernel_rfl
theorem spec_l4Draw.bits3 : waitsOk spec_l4Draw.T3.2 spec_l4Draw.B3 = true := by kernel_rfl
theorem zl22_0 {p q : Prop} (g : p) (h : p → q := by intro zg_; repeat (first | (with_reducible first | exact zg_ | apply IsS110.alloc | apply IsS110.drewN | apply IsS110.drew | apply IsS110.set_1 | apply IsS110.set_2) | exact zg_)) : q := h g
theorem zl22_1 {p q : Prop} (g : p) (h : p → q := by intro zg_; repeat (first | (with_reducible first | exact zg_ | apply KeepBut.set_ | apply keep_drewN | apply keep_drew | apply keep_alloc) | exact zg_)) : q := h g
theorem zl22_2 {p q p0 : Prop} (g : p) (g0 : p0) (h : p → p0 → q := by intro zg_ z0_; repeat (first | (with_reducible first | exact zg_ | apply IsS110.alloc | apply IsS110.drewN | apply IsS110.drew | apply IsS110.set_1 | apply IsS110.set_2 | refine IsS110.far ?_ z0_ _) | exact zg_)) : q := h g g0
theorem zl22_3 {p q p0 p1 : Prop} (g : p) (g0 : p0) (g1 : p1) (h : p → p0 → p1 → q := by intro zg_ z0_ z1_; repeat (first | (with_reducible first | exact zg_ | apply below_alloc | apply pw_below_drewN | apply below_drew1 | refine below_set ?_ z0_ | refine below_set ?_ z1_) | exact zg_)) : q := h g g0 g1
theorem zl22_4 {p q p0 : Prop} (g : p) (g0 : p0) (h : p → p0 → q := by intro zg_ z0_; repeat (first | (with_reducible first | exact zg_ | apply KeepBut.set_ | apply keep_drewN | apply keep_drew | apply keep_alloc | refine keep_far ?_ z0_ _) | exact zg_)) : q := h g g0
theorem zl22_5 {p q p0 p1 : Prop} (g : p) (g0 : p0) (g1 : p1) (h : p → p0 → p1 → q := by intro zg_ z0_ z1_; repeat (first | (with_reducible first | exact zg_ | apply IsS110.alloc | apply IsS110.drewN | apply IsS110.drew | apply IsS110.set_1 | apply IsS110.set_2 | refine IsS110.far ?_ z0_ _ | refine IsS110.far ?_ z1_ _) | exact zg_)) : q := h g g0 g1
theorem zl22_6 {p q p0 p1 : Prop} (g : p) (g0 : p0) (g1 : p1) (h : p → p0 → p1 → q := by intro zg_ z0_ z1_; repeat (first | (with_reducible first | exact zg_ | apply KeepBut.set_ | apply keep_drewN | apply keep_drew | apply keep_alloc | refine keep_far ?_ z0_ _ | refine keep_far ?_ z1_ _) | exact zg_)) : q := h g g0 g1
theorem zl22_7 {p q p0 p1 p2 : Prop} (g : p) (g0 : p0) (g1 : p1) (g2 : p2) (h : p → p0 → p1 → p2 → q := by intro zg_ z0_ z1_ z2_; repeat (first | (with_reducible first | exact zg_ | apply below_alloc | apply pw_below_drewN | apply below_drew1 | refine below_set ?_ z0_ | refine below_set ?_ z1_ | refine below_set ?_ z2_) | exact zg_)) : q := h g g0 g1 g2
set_option maxHeartbeats 8000000 in
set_option maxRecDepth 100000 in
theorem spec_l4Draw.calls (k : Nat) (g : Nat) (s0_0 : List Int) (s0_1 : Int) (s0_2 : Int) (r1 : Int) (r2 : ByteArray) (r3 : Int) (r4 : Int) (w0 w : World) (hI : IsS110 w0 w g s0_0 s0_1 s0_2) (hB : Below w0.heap.size w0 w) (h : spec_l4Draw.f k s0_0 s0_1 s0_2 = some (r1, r2, r3, r4)) :
  Calls Try.prog 80 #[.pointer (some ⟨g, 0, none⟩)] w fun e w' => e = .returned (.agg #[.int .i64 r1, .string r2]) ∧ IsS110 w0 w' g s0_0 r3 r4 ∧ Below w0.heap.size w0 w' ∧ KeepBut w w' g none := by
 have hu25 := Try.underlying25
 have HI0 := Aside0.mk hI
 have HK := Aside0.mk (KeepBut.refl w g none)
 have HL := Aside0.mk hB.size
 clear hI
 have HW0 := Aside0.mk hB.size
 have HB := Aside0.mk hB
 clear hB
 have H : ((spec_l3Bent.f k s0_0 s0_1 s0_2).bind fun bt228 => ((spec_AreSigns.f k bt228.1 bt228.2.1).bind fun t233 => (if t233 = true then ((spec_l1Once.f s0_0 bt228.2.2.1 bt228.2.2.2 4).bind fun bt234 => (spec_l4Draw.j0 k bt234.1 s0_0 bt234.2.1 bt234.2.2 bt228.1 bt228.2.1)) else (spec_l4Draw.j0 k false s0_0 bt228.2.2.1 bt228.2.2.2 bt228.1 bt228.2.1)))) = some (r1, r2, r3, r4) := h
 clear h
 obtain ⟨⟨t228, t229, t230, t231⟩, A2, H⟩ := zO H
 dsimp only at H
 have HC3 := Aside0.mk H
 clear H
 go_enter Try.func80, Try.ntmps80
 go_upto_region 2 with (first | ((with_reducible refine gate_dst (N := 2) rfl ?_); refine zBx (N := 2) #[.int .i64 0, .string (⟨#[]⟩ : ByteArray)] 25 ?_; intro gb227 hg w4 hbox hb; have n0_ := Aside0.mk (IsS110.below (zl22_0 HI0.out) hb); have n1_ := Aside0.mk (KeepBut.trans (zl22_1 HK.out) (KeepBut.of_below hb g none) (.inl rfl)); have n2_ := Aside0.mk (below_step (zG (IsS110.ge HI0.out)) hb); have n3_ := Aside0.mk (hbox); have n4_ := Aside0.mk ((by rw [hg]; exact (keep_size (w := w) (g := g) (row := none) (zl22_1 HK.out)) : w.heap.size ≤ gb227)); have n5_ := Aside0.mk ((Nat.le_trans HW0.out (by rw [hg]; exact (keep_size (w := w) (g := g) (row := none) (zl22_1 HK.out)) : w.heap.size ≤ gb227) : w0.heap.size ≤ gb227)); have n6_ := Aside0.mk ((by rw [hg]; exact Nat.ne_of_lt (IsS110.lt (show IsS110 w0 _ g s0_0 s0_1 s0_2 from (zl22_0 HI0.out))) : g ≠ gb227)); have n7_ := Aside0.mk ((by rw [hg]; exact Nat.ne_of_gt (IsS110.lt (show IsS110 w0 _ g s0_0 s0_1 s0_2 from (zl22_0 HI0.out))) : gb227 ≠ g)); clear HI0; clear HK; clear HB; have HI0 := n0_; have HK := n1_; have HB := n2_; have BK227 := n3_; have GW227 := n4_; have GE227 := n5_; have NB0_227 := n6_; have NB227_0 := n7_; clear n0_ n1_ n2_ n3_ n4_ n5_ n6_ n7_; clear hb hbox hg) | ((with_reducible refine gate_callee (f := 141) rfl ?_); refine zD (some 5) Try.func141 #[.pointer (some ⟨g, 0, none⟩)] ?_; (with_reducible refine (spec_l3Bent.calls k g s0_0 s0_1 s0_2 t228 t229 t230 t231 w0 _ ?side1 ?side2 A2.out).mono ?_); (case side1 => exact (zl22_2 HI0.out NB0_227.out)); (case side2 => exact (zl22_3 HB.out (IsS110.ge HI0.out) GE227.out)); rintro e w5 ⟨rfl, hi, hb, hk⟩; refine ⟨_, rfl, ?_⟩; replace BK227 := zKB hk BK227.out NB227_0.out; replace HK := Aside0.mk (KeepBut.trans (zl22_4 HK.out GW227.out) hk (.inl rfl)); replace HI0 := Aside0.mk (hi); replace HB := Aside0.mk (hb); (try clear hb); (try clear hk); (try clear hi)) | ((with_reducible refine gate_dst (N := 3) rfl ?_); refine zBx (N := 3) #[.int .i64 0, .string (⟨#[]⟩ : ByteArray)] 25 ?_; intro gb232 hg w6 hbox hb; have n0_ := Aside0.mk (IsS110.below (zl22_2 HI0.out NB0_227.out) hb); have n1_ := zV BK227.out hb; have n2_ := Aside0.mk (KeepBut.trans (zl22_4 HK.out GW227.out) (KeepBut.of_below hb g none) (.inl rfl)); have n3_ := Aside0.mk (below_step (zG2 (IsS110.ge HI0.out) GE227.out) hb); have n4_ := Aside0.mk (hbox); have n5_ := Aside0.mk ((by rw [hg]; exact (keep_size (w := w) (g := g) (row := none) (zl22_4 HK.out GW227.out)) : w.heap.size ≤ gb232)); have n6_ := Aside0.mk ((Nat.le_trans HW0.out (by rw [hg]; exact (keep_size (w := w) (g := g) (row := none) (zl22_4 HK.out GW227.out)) : w.heap.size ≤ gb232) : w0.heap.size ≤ gb232)); have n7_ := zL hg BK227.out; have n8_ := zLg hg BK227.out; have n9_ := Aside0.mk ((by rw [hg]; exact Nat.ne_of_lt (IsS110.lt (show IsS110 w0 _ g s0_0 t230 t231 from (zl22_2 HI0.out NB0_227.out))) : g ≠ gb232)); have n10_ := Aside0.mk ((by rw [hg]; exact Nat.ne_of_gt (IsS110.lt (show IsS110 w0 _ g s0_0 t230 t231 from (zl22_2 HI0.out NB0_227.out))) : gb232 ≠ g)); clear HI0; clear BK227; clear HK; clear HB; have HI0 := n0_; have BK227 := n1_; have HK := n2_; have HB := n3_; have BK232 := n4_; have GW232 := n5_; have GE232 := n6_; have NB227_232 := n7_; have NB232_227 := n8_; have NB0_232 := n9_; have NB232_0 := n10_; clear n0_ n1_ n2_ n3_ n4_ n5_ n6_ n7_ n8_ n9_ n10_; clear hb hbox hg; have hnb7 := NB232_227.out; have hnc7 := NB227_232.out; have hnb8 := NB232_0.out; have hnc8 := NB0_232.out; obtain ⟨hcz9_0, hcz9_1, hfz9_0, hfz9_1⟩ := zq2 BK232.out))
 (try simp only [Act.put, List.setIfInBounds_toArray, List.set_cons_zero, List.set_cons_succ])
 go_cut [11] (fun v11 wc => ∃ (kq : Nat) (x11_2 : Bool) (x1001_2 : Int) (x1002_2 : Int), v11 = .bool x11_2 ∧ Aside0 (spec_l4Draw.j0 kq x11_2 s0_0 x1001_2 x1002_2 t228 t229 = some (r1, r2, r3, r4)) ∧ Aside0 (kq ≤ k) ∧ Aside0 (wc.heap[gb227]? = some (.cells #[.int .i64 0, .string (⟨#[]⟩ : ByteArray)] 25 (0, 0))) ∧ Aside0 (wc.heap[gb232]? = some (.cells #[.int .i64 t228, .string t229] 25 (0, 0))) ∧ Aside0 (IsS110 w0 wc g s0_0 x1001_2 x1002_2) ∧ Aside0 (KeepBut w wc g none) ∧ Aside0 (Below w0.heap.size w0 wc))
 case first =>
  have H := HC3.out
  clear HC3
  obtain ⟨t233, A10, H⟩ := zO H
  by_cases c11 : t233 = true
  ·subst c11
   replace H := (if_pos rfl).symm.trans H
   obtain ⟨⟨t234, t235, t236⟩, A12, H⟩ := zO H
   replace H : (spec_l4Draw.j0 k t234 s0_0 t235 t236 t228 t229) = some (r1, r2, r3, r4) := H
   have H' := Aside0.mk H; clear H
   have hnb13 := NB232_227.out
   have hnc13 := NB227_232.out
   have hnb14 := NB232_0.out
   have hnc14 := NB0_232.out
   obtain ⟨hcz15_0, hcz15_1, hfz15_0, hfz15_1⟩ := zq2 BK232.out
   go_wp2_with (first | ((with_reducible refine gate_callee (f := 25) rfl ?_); refine zD (some 7) Try.func25 #[.agg #[.int .i64 t228, .string t229]] ?_; (with_reducible refine (spec_AreSigns.calls k t228 t229 true _ A10.out).mono ?_); rintro e w16 ⟨rfl, hb⟩; refine ⟨_, rfl, ?_⟩; have n0_ := Aside0.mk (IsS110.below (show IsS110 w0 ((w6.setCell ⟨gb232, 0, none⟩ (.int .i64 t228)).setCell ⟨gb232, 1, none⟩ (.string t229)) g s0_0 t230 t231 from (zl22_5 HI0.out NB0_227.out NB0_232.out)) hb); have n1_ := Aside0.mk (blk_below (g := gb227) (o := .cells #[.int .i64 0, .string (⟨#[]⟩ : ByteArray)] 25 (0, 0)) (zk2 BK227.out NB227_232.out NB227_232.out) hb); have n2_ := Aside0.mk (blk_below (g := gb232) (o := .cells #[.int .i64 t228, .string t229] 25 (0, 0)) (zk0 BK232.out) hb); have n3_ := Aside0.mk (KeepBut.trans (zl22_6 HK.out GW227.out GW232.out) (KeepBut.of_below hb g none) (.inl rfl)); have n4_ := Aside0.mk (below_step (zG3 (IsS110.ge HI0.out) GE227.out GE232.out) hb); clear HI0; clear BK227; clear BK232; clear HK; clear HB; have HI0 := n0_; have BK227 := n1_; have BK232 := n2_; have HK := n3_; have HB := n4_; clear n0_ n1_ n2_ n3_ n4_; (try clear hb)) | (go_at_call 127; (with_reducible refine (spec_l1Once.calls g s0_0 t230 t231 4 t234 t235 t236 w0 _ ?side1 ?side2 A12.out).mono ?_); (case side1 => exact (zl22_5 HI0.out NB0_227.out NB0_232.out)); (case side2 => exact (zl22_7 HB.out (IsS110.ge HI0.out) GE227.out GE232.out)); rintro e w17 ⟨rfl, hi, hb, hk⟩; replace BK227 := zKB hk BK227.out NB227_0.out; replace BK232 := zKB hk BK232.out NB232_0.out; replace HK := Aside0.mk (KeepBut.trans (zl22_6 HK.out GW227.out GW232.out) hk (.inl rfl)); replace HI0 := Aside0.mk (hi); replace HB := Aside0.mk (hb); (try clear hb); (try clear hb2); (try clear hk); (try clear hi)))
   go_meet
   case rel => exact ⟨_, (t234), (t235), (t236), zF, H', ⟨by first | omega | exact Nat.le_refl _⟩, ⟨zK BK227.out⟩, ⟨zK BK232.out⟩, ⟨(zl22_5 HI0.out NB0_227.out NB0_232.out)⟩, ⟨(zl22_6 HK.out GW227.out GW232.out)⟩, ⟨zG3 (IsS110.ge HI0.out) GE227.out GE232.out⟩⟩
  replace c11 := Bool.eq_false_iff.mpr c11
  subst c11
  replace H := (if_neg zFf).symm.trans H
  have H' := Aside0.mk H; clear H
  have hnb18 := NB232_227.out
  have hnc18 := NB227_232.out
  have hnb19 := NB232_0.out
  have hnc19 := NB0_232.out
  obtain ⟨hcz20_0, hcz20_1, hfz20_0, hfz20_1⟩ := zq2 BK232.out
  go_wp2_with (first | ((with_reducible refine gate_callee (f := 25) rfl ?_); refine zD (some 7) Try.func25 #[.agg #[.int .i64 t228, .string t229]] ?_; (with_reducible refine (spec_AreSigns.calls k t228 t229 false _ A10.out).mono ?_); rintro e w21 ⟨rfl, hb⟩; refine ⟨_, rfl, ?_⟩; have n0_ := Aside0.mk (IsS110.below (show IsS110 w0 ((w6.setCell ⟨gb232, 0, none⟩ (.int .i64 t228)).setCell ⟨gb232, 1, none⟩ (.string t229)) g s0_0 t230 t231 from (zl22_5 HI0.out NB0_227.out NB0_232.out)) hb); have n1_ := Aside0.mk (blk_below (g := gb227) (o := .cells #[.int .i64 0, .string (⟨#[]⟩ : ByteArray)] 25 (0, 0)) (zk2 BK227.out NB227_232.out NB227_232.out) hb); have n2_ := Aside0.mk (blk_below (g := gb232) (o := .cells #[.int .i64 t228, .string t229] 25 (0, 0)) (zk0 BK232.out) hb); have n3_ := Aside0.mk (KeepBut.trans (zl22_6 HK.out GW227.out GW232.out) (KeepBut.of_below hb g none) (.inl rfl)); have n4_ := Aside0.mk (below_step (zG3 (IsS110.ge HI0.out) GE227.out GE232.out) hb); clear HI0; clear BK227; clear BK232; clear HK; clear HB; have HI0 := n0_; have BK227 := n1_; have BK232 := n2_; have HK := n3_; have HB := n4_; clear n0_ n1_ n2_ n3_ n4_; (try clear hb)))
  go_meet
  case rel => exact ⟨_, (false), (t230), (t231), zF, H', ⟨by first | omega | exact Nat.le_refl _⟩, ⟨zK BK227.out⟩, ⟨zK BK232.out⟩, ⟨(zl22_5 HI0.out NB0_227.out NB0_232.out)⟩, ⟨(zl22_6 HK.out GW227.out GW232.out)⟩, ⟨zG3 (IsS110.ge HI0.out) GE227.out GE232.out⟩⟩
 case rest =>
 clear HC3
 try clear hcz9_0
 try clear hcz9_1
 try clear hfz9_0
 try clear hfz9_1
 obtain ⟨kq, x11_2, x1001_2, x1002_2, rfl, HA, HJ2, BK227, BK232, HI0, HK, HB⟩ := hcut
 cases kq with
 | zero => exact absurd HA.out (by simp [spec_l4Draw.j0])
 | succ kj2 =>
 have H := HA.out
 clear HA
 simp only [spec_l4Draw.j0] at H
 by_cases c22 : x11_2 = true
 ·subst c22
  replace H := (if_pos rfl).symm.trans H
  obtain ⟨⟨t237, t238, t239⟩, A23, H⟩ := zO H
  dsimp only at H
  obtain ⟨ji24, hji24⟩ : ∃ j_ : Int, (IntKind.u64.wrap (t237)) = j_ := ⟨_, rfl⟩
  replace H : (if 0 ≤ (ji24) then ((spec_l4Reverse.f kj2 t228 t229 (shl .i64 1 (ji24))).bind fun bt240 => (some (bt240.1, bt240.2, t238, t239))) else (none)) = some (r1, r2, r3, r4) := by first | (rw [hji24] at H; exact H) | (simp only [hji24] at H ⊢; exact H)
  (try rw [hji24] at A23)
  by_cases c25 : 0 ≤ (ji24)
  ·rw [if_pos c25] at H
   have c25b0 := eq_true c25
   have c25b1 : decide (0 ≤ (ji24)) = true := decide_eq_true c25
   clear c25
   obtain ⟨ji26, hji26⟩ : ∃ j_ : Int, (shl .i64 1 (ji24)) = j_ := ⟨_, rfl⟩
   replace H : ((spec_l4Reverse.f kj2 t228 t229 (ji26)).bind fun bt240 => (some (bt240.1, bt240.2, t238, t239))) = some (r1, r2, r3, r4) := by first | (rw [hji26] at H; exact H) | (simp only [hji26] at H ⊢; exact H)
   (try rw [hji26] at A23)
   have hji26_ : (IntKind.i64.wrap (1 * 2 ^ min (ji24).toNat 64)) = ji26 := hji26
   have hji26z : (ji24) ≤ 64 → (IntKind.i64.wrap (1 * 2 ^ (ji24).toNat)) = ji26 := shl_small hji26
   have hji26u : (IntKind.i64.wrap (2 ^ min (ji24).toNat 64)) = ji26 := by have h_ := hji26_; rw [Int.one_mul] at h_; exact h_
   have hji26v : (ji24) ≤ 64 → (IntKind.i64.wrap (2 ^ (ji24).toNat)) = ji26 := fun hle_ => by have h_ := hji26z hle_; rw [Int.one_mul] at h_; exact h_
   have hji26y : (wrap64 (1 * 2 ^ min (ji24).toNat 64)) = ji26 := (i64_w _).symm.trans hji26_
   have hji26x : (ji24) ≤ 64 → (wrap64 (1 * 2 ^ (ji24).toNat)) = ji26 := fun h_ => (i64_w _).symm.trans (hji26z h_)
   obtain ⟨⟨t240, t241⟩, A27, H⟩ := zO H
   replace H : (some (t240, t241, t238, t239)) = some (r1, r2, r3, r4) := H
   simp only [Option.some.injEq, Prod.mk.injEq] at H
   obtain ⟨rfl, rfl, rfl, rfl⟩ := H
   try go_wp2
   replace BK227 := Aside0.mk (blk_drew BK227.out)
   replace BK232 := Aside0.mk (blk_drew BK232.out)
   replace HI0 := Aside0.mk (IsS110.drew HI0.out)
   replace HK := Aside0.mk (keep_drew HK.out)
   replace HB := Aside0.mk (below_drew1 HB.out)
   refine start_ (n := 9) (S := fun w' => w'.cell? ⟨gb232, 0, none⟩ = some (.int .i64 t228) ∧ w'.cell? ⟨gb232, 1, none⟩ = some (.string t229)) (ds := []) #[false, false, false, false, false, false, false, false, false] (by kernel_rfl) rfl rfl ⟨(blk_cell BK232.out 0).trans rfl, (blk_cell BK232.out 1).trans rfl⟩ (fun hHeld => ?_); refine with_tabW spec_l4Draw.tab3 spec_l4Draw.bits3 (fun HT_ HW_ => ?_)
   generalize wc.drew = w28 at BK227 BK232 HI0 HK HB hHeld ⊢
   refine zP 1 (some 13) rfl rfl ?_
   refine zP 2 (some 14) rfl rfl ?_
   refine zY2 0 (some 12) rfl rfl hHeld ?_
   refine zY2 3 (some 15) rfl rfl hHeld ?_
   refine zU 4 (some 16) rfl rfl (fun K hK => ?_)
   refine goes_ Try.func125 (by kernel_rfl) rfl #[.pointer (some ⟨g, 0, none⟩), .int .i64 t228] (by rfl) rfl rfl zM ?_
   with_reducible refine (spec_l1Below.calls g s0_0 x1001_2 x1002_2 t228 t237 t238 t239 w0 _ ?side1 ?side2 A23.out).mono ?_
   (case side1 => exact (zl22_5 HI0.out NB0_227.out NB0_232.out))
   (case side2 => exact (zl22_7 HB.out (IsS110.ge HI0.out) GE227.out GE232.out))
   rintro e w29 ⟨rfl, hi, hb, hk⟩
   refine ⟨_, rfl, ?_⟩
   replace BK227 := zKB hk BK227.out NB227_0.out
   replace BK232 := zKB hk BK232.out NB232_0.out
   replace HK := Aside0.mk (KeepBut.trans (zl22_6 HK.out GW227.out GW232.out) hk (.inl rfl))
   replace HI0 := Aside0.mk (hi)
   replace HB := Aside0.mk (hb)
   (try clear hb)
   (try clear hk)
   (try clear hi)
   refine hK.out _ _ (zh2 BK232.out) (fun hHeld => ?_)
   clear hK K
   refine zN ?_
   refine zP 5 (some 17) rfl rfl ?_
   refine zP 6 (some 18) rfl rfl ?_
   refine zU 7 (some 19) rfl rfl (fun K hK => ?_)
   refine goes_ Try.func90 (by kernel_rfl) rfl #[.agg #[.int .i64 t228, .string t229], .int .i64 ji26] (by rfl) rfl rfl (by (try simp only [List.map_toArray, List.map_cons, List.map_nil]); first | done | (simp only [hji26]; rfl) | rfl | (simp only [List.length_drop, List.length_take]; rfl)) ?_
   with_reducible refine (spec_l4Reverse.calls kj2 t228 t229 ji26 t240 t241 _ A27.out).mono ?_
   rintro e w30 ⟨rfl, hb⟩
   refine ⟨_, rfl, ?_⟩
   have n0_ := zV BK227.out hb
   have n1_ := zV BK232.out hb
   have n2_ := Aside0.mk (IsS110.below (zl22_5 HI0.out NB0_227.out NB0_232.out) hb)
   have n3_ := Aside0.mk (KeepBut.trans (zl22_6 HK.out GW227.out GW232.out) (KeepBut.of_below hb g none) (.inl rfl))
   have n4_ := Aside0.mk (below_step (zG3 (IsS110.ge HI0.out) GE227.out GE232.out) hb)
   clear BK227
   clear BK232
   clear HI0
   clear HK
   clear HB
   have BK227 := n0_
   have BK232 := n1_
   have HI0 := n2_
   have HK := n3_
   have HB := n4_
   clear n0_ n1_ n2_ n3_ n4_
   (try clear hb)
   refine hK.out _ _ (zh2 BK232.out) (fun hHeld => ?_)
   clear hK K
   refine zN ?_
   refine zU 8 none rfl rfl (fun K hK => ?_)
   have hs31 : w30.cell? ⟨gb227, 0, none⟩ = some (.int .i64 0) := (blk_cell BK227.out 0).trans rfl
   have hfs31 := blk_frozen BK227.out 0
   have hns31_1 := NB232_227.out
   have hms31_1 := NB227_232.out
   have hs32 : w30.cell? ⟨gb227, 1, none⟩ = some (.string (⟨#[]⟩ : ByteArray)) := (blk_cell BK227.out 1).trans rfl
   have hfs32 := blk_frozen BK227.out 1
   have hns32_1 := NB232_227.out
   have hms32_1 := NB227_232.out
   refine skip_ (w1 := ?_) (by rfl) rfl ?_ ?_
   rotate_left
   ·go_simp
    rfl
   refine hK.out _ _ ⟨((cell_far (p := ⟨gb227, _, none⟩) NB232_227.out _).trans (((cell_far (p := ⟨gb227, _, none⟩) NB232_227.out _).trans (hHeld.1)))), ((cell_far (p := ⟨gb227, _, none⟩) NB232_227.out _).trans (((cell_far (p := ⟨gb227, _, none⟩) NB232_227.out _).trans (hHeld.2))))⟩ (fun hHeld => ?_)
   clear hK K
   refine done_ (done_of HT_.out (by kernel_rfl)) ?_
   try go_wp2
   refine bodyPost_ret (results_cell_row rfl _ _ gb227 25 #[.int .i64 t240, .string t241] (0, 0) _ rfl (zk0 BK227.out) Try.underlying25 rfl (by kernel_rfl)) rfl ?_
   exact ⟨by first | rfl | (simp [errW_none, errW_some] <;> rfl) | (simp only [← hji24, ← hji26]; first | rfl | (simp [errW_none, errW_some] <;> rfl)) | (simp [*, errW_none, errW_some] <;> rfl), (zl22_5 HI0.out NB0_227.out NB0_232.out), zG3 (IsS110.ge HI0.out) GE227.out GE232.out, (zl22_6 HK.out GW227.out GW232.out)⟩
  rw [if_neg c25] at H
  exact absurd H (by simp)
 replace c22 := Bool.eq_false_iff.mpr c22
 subst c22
 replace H := (if_neg zFf).symm.trans H
 simp only [Option.some.injEq, Prod.mk.injEq] at H
 obtain ⟨rfl, rfl, rfl, rfl⟩ := H
 have hnb33 := NB232_227.out
 have hnc33 := NB227_232.out
 have hnb34 := NB232_0.out
 have hnc34 := NB0_232.out
 obtain ⟨hcz35_0, hcz35_1, hfz35_0, hfz35_1⟩ := zq2 BK232.out
 have hnb36 := NB227_0.out
 have hnc36 := NB0_227.out
 obtain ⟨hcz37_0, hcz37_1, hfz37_0, hfz37_1⟩ := zq2 BK227.out
 go_wp2
 refine bodyPost_ret (results_cell_row rfl _ _ gb227 25 #[.int .i64 t228, .string t229] (0, 0) _ rfl (zk0 BK227.out) Try.underlying25 rfl (by kernel_rfl)) rfl ?_
 exact ⟨zE, (zl22_5 HI0.out NB0_227.out NB0_232.out), zG3 (IsS110.ge HI0.out) GE227.out GE232.out, (zl22_6 HK.out GW227.out GW232.out)⟩
/-! ### spec_l1New: function 81 -/
def spec_l1New.l0 : Nat → List Int → Int → Int → Option (List Int × Int × Int)
 | 0, _, _, _ => none
 | k + 1, x0, x3, x4 => if x4 < (x0.length : Int) then (if x4 < 4000 then (if 0 ≤ x4 then (spec_l1New.l0 k x0 (Go.bits .and .i64 (wrap64 ((wrap64 ((wrap64 (x3 * 131)) + (wrap64 (rd x0 x4)))) + 7)) 1073741823) (wrap64 (x4 + 1))) else (none)) else (some (x0, 0, x3))) else (some (x0, 0, x3))
def spec_l1New.f (k : Nat) (l0 : List Int) : Option (List Int × Int × Int) := spec_l1New.l0 k l0 (wrap64 (26583 + (l0.length : Int))) 0
theorem zl23_0 {p q : Prop} (g : p) (h : p → q := by intro zg_; repeat (first | (with_reducible first | exact zg_ | apply below_alloc | apply pw_below_drewN | apply below_drew1) | exact zg_)) : q := h g
theorem zl23_1 {p q p0 : Prop} (g : p) (g0 : p0) (h : p → p0 → q := by intro zg_ z0_; repeat (first | (with_reducible first | exact zg_ | apply below_alloc | apply pw_below_drewN | apply below_drew1 | refine below_set ?_ z0_) | exact zg_)) : q := h g g0
set_option maxHeartbeats 8000000 in
set_option maxRecDepth 100000 in
theorem spec_l1New.calls (k : Nat) (A0 : Option Addr) (c0 : Nat) (l0 : List Int) (r1 : List Int) (r2 : Int) (r3 : Int) (w0 w : World) (hB : Below w0.heap.size w0 w) (hr0 : Kd.C (Kd.int .u8) w0 A0 l0.length l0) (hc0 : l0.length ≤ c0) (h : spec_l1New.f k l0 = some (r1, r2, r3)) :
  Calls Try.prog 81 #[.slice A0 l0.length c0] w fun e w' => ∃ g_ : Nat, e = .returned (.pointer (some ⟨g_, 0, none⟩)) ∧ IsS110 w0 w' g_ r1 r2 r3 ∧ Below w0.heap.size w0 w' ∧ Below w.heap.size w w' := by
 have hu110 := Try.underlying110
 have HR0 := Aside0.mk hr0
 have HC0 := Aside0.mk hc0
 clear hr0 hc0
 have HBW := Aside0.mk (Below.refl w.heap.size w)
 have HW0 := Aside0.mk hB.size
 have HB := Aside0.mk hB
 clear hB
 have H : (spec_l1New.l0 k l0 (wrap64 (26583 + (l0.length : Int))) 0) = some (r1, r2, r3) := h
 clear h
 have H' := Aside0.mk H; clear H
 go_enter Try.func81, Try.ntmps81
 go_wp2
 go_loopg [3, 4] k (fun kq v3 v4 w' => ∃ (x3_1 : Int) (x4_1 : Int), v3 = .int .i64 x3_1 ∧ v4 = .int .i64 x4_1 ∧ Aside0 (spec_l1New.l0 kq l0 x3_1 x4_1 = some (r1, r2, r3)) ∧ Aside0 (kq ≤ k) ∧ Aside0 (Below w0.heap.size w0 w') ∧ Aside0 (Below w.heap.size w w'))
 case atStart => exact ⟨(wrap64 (26583 + (l0.length : Int))), (0), zF, zF, H', ⟨Nat.le_refl _⟩, ⟨zB⟩, ⟨(zl23_0 HBW.out)⟩⟩
 case round =>
 clear H'
 obtain ⟨x3_1, x4_1, rfl, rfl, HA, HK1, HB, HBW⟩ := hrel
 cases gk with
 | zero => exact absurd HA.out (by simp [spec_l1New.l0])
 | succ k1 =>
 have H := HA.out
 clear HA
 simp only [spec_l1New.l0] at H
 by_cases c2 : x4_1 < (l0.length : Int)
 ·rw [if_pos c2] at H
  have c2b0 : decide (x4_1 < (l0.length : Int)) = true := decide_eq_true c2
  clear c2
  by_cases c3 : x4_1 < 4000
  ·rw [if_pos c3] at H
   have c3b0 : decide (x4_1 < 4000) = true := decide_eq_true c3
   clear c3
   by_cases c4 : 0 ≤ x4_1
   ·rw [if_pos c4] at H
    have c4b0 : decide (0 ≤ x4_1) = true := decide_eq_true c4
    clear c4
    have H' := Aside0.mk H; clear H
    have p242 : 0 ≤ (x4_1 : Int) := zA
    have q242 : x4_1 < (l0.length : Int) := zA
    obtain ⟨ad242, e242, hx242_0⟩ := Kd.at_int HR0.out x4_1 p242 q242
    cases e242
    replace hx242_0 := pw_cell_below HB.out hx242_0
    replace p242 := eq_true p242
    replace q242 := eq_true q242
    go_wp2
    go_roundg k1
    case measure => have := HK1.out; omega
    case rel => exact ⟨(Go.bits .and .i64 (wrap64 ((wrap64 ((wrap64 (x3_1 * 131)) + (wrap64 (rd l0 x4_1)))) + 7)) 1073741823), (wrap64 (x4_1 + 1)), zF, zF, H', ⟨by have := HK1.out; omega⟩, ⟨zB⟩, ⟨(zl23_0 HBW.out)⟩⟩
   rw [if_neg c4] at H
   exact absurd H (by simp)
  rw [if_neg c3] at H
  have c3b0 : decide (x4_1 < 4000) = false := decide_eq_false c3
  clear c3
  simp only [Option.some.injEq, Prod.mk.injEq] at H
  obtain ⟨rfl, rfl, rfl⟩ := H
  go_wp2_with (first | ((with_reducible refine gate_dst (N := 31) rfl ?_); refine zBx (N := 31) #[.slice A0 l0.length c0, .int .i64 0, .int .i64 x3_1] 110 ?_; intro gb243 hg w5 hbox hb; have BK243 := Aside0.mk (hbox); have GW243 := Aside0.mk ((by rw [hg]; exact (below_size (zl23_0 HBW.out)) : w.heap.size ≤ gb243)); have GE243 := Aside0.mk ((Nat.le_trans HW0.out (by rw [hg]; exact (below_size (zl23_0 HBW.out)) : w.heap.size ≤ gb243) : w0.heap.size ≤ gb243)); replace HBW := Aside0.mk (below_step HBW.out hb); replace HB := zX hb; clear hb hbox hg))
  go_ret
  exact ⟨_, rfl, (show IsS110 w0 _ gb243 l0 0 x3_1 from ⟨_, _, zK BK243.out, GE243.out, HR0.out⟩), zG GE243.out, (zl23_1 HBW.out GW243.out)⟩
 rw [if_neg c2] at H
 have c2b0 : decide (x4_1 < (l0.length : Int)) = false := decide_eq_false c2
 clear c2
 simp only [Option.some.injEq, Prod.mk.injEq] at H
 obtain ⟨rfl, rfl, rfl⟩ := H
 go_wp2_with (first | ((with_reducible refine gate_dst (N := 31) rfl ?_); refine zBx (N := 31) #[.slice A0 l0.length c0, .int .i64 0, .int .i64 x3_1] 110 ?_; intro gb244 hg w6 hbox hb; have BK244 := Aside0.mk (hbox); have GW244 := Aside0.mk ((by rw [hg]; exact (below_size (zl23_0 HBW.out)) : w.heap.size ≤ gb244)); have GE244 := Aside0.mk ((Nat.le_trans HW0.out (by rw [hg]; exact (below_size (zl23_0 HBW.out)) : w.heap.size ≤ gb244) : w0.heap.size ≤ gb244)); replace HBW := Aside0.mk (below_step HBW.out hb); replace HB := zX hb; clear hb hbox hg))
 go_ret
 exact ⟨_, rfl, (show IsS110 w0 _ gb244 l0 0 x3_1 from ⟨_, _, zK BK244.out, GE244.out, HR0.out⟩), zG GE244.out, (zl23_1 HBW.out GW244.out)⟩
/-! ### spec_DrawFirstBreak: function 8 -/
def spec_DrawFirstBreak.f (k : Nat) (l0 : List Int) : Option (Int × ByteArray) := (spec_l1New.f k l0).bind fun bt246 => ((spec_l4Draw.f k bt246.1 bt246.2.1 bt246.2.2).bind fun bt250 => (some (bt250.1, bt250.2.1)))
theorem zl24_0 {p q p0 : Prop} (g : p) (g0 : p0) (h : p → p0 → q := by intro zg_ z0_; repeat (first | (with_reducible first | exact zg_ | apply below_alloc | apply pw_below_drewN | apply below_drew1 | refine below_set ?_ z0_) | exact zg_)) : q := h g g0
theorem zl24_1 {p q p0 : Prop} (g : p) (g0 : p0) (h : p → p0 → q := by intro zg_ z0_; repeat (first | (with_reducible first | exact zg_ | apply IsS110.alloc | apply IsS110.drewN | apply IsS110.drew | apply IsS110.set_1 | apply IsS110.set_2 | refine IsS110.far ?_ z0_ _) | exact zg_)) : q := h g g0
theorem zl24_2 {p q p0 p1 : Prop} (g : p) (g0 : p0) (g1 : p1) (h : p → p0 → p1 → q := by intro zg_ z0_ z1_; repeat (first | (with_reducible first | exact zg_ | apply below_alloc | apply pw_below_drewN | apply below_drew1 | refine below_set ?_ z0_ | refine below_set ?_ z1_) | exact zg_)) : q := h g g0 g1
set_option maxHeartbeats 8000000 in
set_option maxRecDepth 100000 in
theorem spec_DrawFirstBreak.calls (k : Nat) (A0 : Option Addr) (c0 : Nat) (l0 : List Int) (r1 : Int) (r2 : ByteArray) (w : World) (hr0 : Kd.C (Kd.int .u8) w A0 l0.length l0) (hc0 : l0.length ≤ c0) (h : spec_DrawFirstBreak.f k l0 = some (r1, r2)) :
  Calls Try.prog 8 #[.slice A0 l0.length c0] w fun e w' => e = .returned (.agg #[.int .i64 r1, .string r2]) ∧ Below w.heap.size w w' := by
 have hu25 := Try.underlying25
 have HR0 := Aside0.mk hr0
 have HC0 := Aside0.mk hc0
 clear hr0 hc0
 have HB := Aside0.mk (Below.refl w.heap.size w)
 have H : ((spec_l1New.f k l0).bind fun bt246 => ((spec_l4Draw.f k bt246.1 bt246.2.1 bt246.2.2).bind fun bt250 => (some (bt250.1, bt250.2.1)))) = some (r1, r2) := h
 clear h
 obtain ⟨⟨t246, t247, t248⟩, A2, H⟩ := zO H
 dsimp only at H
 obtain ⟨⟨t250, t251, t252, t253⟩, A3, H⟩ := zO H
 replace H : (some (t250, t251)) = some (r1, r2) := H
 simp only [Option.some.injEq, Prod.mk.injEq] at H
 obtain ⟨rfl, rfl⟩ := H
 go_enter Try.func8, Try.ntmps8
 go_wp2_with (first | ((with_reducible refine gate_dst (N := 2) rfl ?_); refine zBx (N := 2) #[.int .i64 0, .string (⟨#[]⟩ : ByteArray)] 25 ?_; intro gb245 hg w4 hbox hb; have BK245 := Aside0.mk (hbox); have GW245 := zS hg; have GE245 := zS hg; replace HB := zX hb; clear hb hbox hg) | ((with_reducible refine gate_callee (f := 81) rfl ?_); refine zD (some 4) Try.func81 #[.slice A0 l0.length c0] ?_; (with_reducible refine (spec_l1New.calls k _ _ l0 t246 t247 t248 w _ ?side1 ?side2 ?side3 A2.out).mono ?_); (case side1 => exact (zl24_0 HB.out GE245.out)); (case side2 => exact HR0.out); (case side3 => exact HC0.out); rintro e w5 ⟨g249, rfl, hi, hb, hb2⟩; refine ⟨_, rfl, ?_⟩; have HI249 := Aside0.mk (hi); have NB249_245 := Aside0.mk (IsS110.ne_blk hi (blk_below (g := gb245) (o := .cells #[.int .i64 0, .string (⟨#[]⟩ : ByteArray)] 25 (0, 0)) (zK BK245.out) hb2) (by decide)); have NB245_249 := Aside0.mk (Ne.symm (IsS110.ne_blk hi (blk_below (g := gb245) (o := .cells #[.int .i64 0, .string (⟨#[]⟩ : ByteArray)] 25 (0, 0)) (zK BK245.out) hb2) (by decide))); replace BK245 := Aside0.mk (blk_below (g := gb245) (o := .cells #[.int .i64 0, .string (⟨#[]⟩ : ByteArray)] 25 (0, 0)) (zK BK245.out) hb2); replace HB := Aside0.mk (hb); (try clear hb); (try clear hb2); (try clear hi)) | ((with_reducible refine gate_callee (f := 80) rfl ?_); refine zD (some 5) Try.func80 #[.pointer (some ⟨g249, 0, none⟩)] ?_; (with_reducible refine (spec_l4Draw.calls k g249 t246 t247 t248 t250 t251 t252 t253 w _ ?side1 ?side2 A3.out).mono ?_); (case side1 => exact (zl24_1 HI249.out NB249_245.out)); (case side2 => exact (zl24_2 HB.out (IsS110.ge HI249.out) GE245.out)); rintro e w6 ⟨rfl, hi, hb, hk⟩; refine ⟨_, rfl, ?_⟩; replace BK245 := zKB hk BK245.out NB245_249.out; replace HI249 := Aside0.mk (hi); replace HB := Aside0.mk (hb); (try clear hb); (try clear hk); (try clear hi); have hnb7 := NB245_249.out; have hnc7 := NB249_245.out; obtain ⟨hcz8_0, hcz8_1, hfz8_0, hfz8_1⟩ := zq2 BK245.out))
 refine bodyPost_ret (results_cell_row rfl _ _ gb245 25 #[.int .i64 t250, .string t251] (0, 0) _ rfl (zk0 BK245.out) Try.underlying25 rfl (by kernel_rfl)) rfl ?_
 exact ⟨zE, zG2 (IsS110.ge HI249.out) GE245.out⟩
/-! ### laws_big: function 7 -/
def laws_big.f (l0 : List Int) : Option (Bool) := some (decide ((l0.length : Int) > 1048576))
set_option maxHeartbeats 8000000 in
set_option maxRecDepth 100000 in
theorem laws_big.calls (A0 : Option Addr) (c0 : Nat) (l0 : List Int) (r : Bool) (w : World) (hr0 : Kd.C (Kd.int .u8) w A0 l0.length l0) (hc0 : l0.length ≤ c0) (h : laws_big.f l0 = some r) :
  Calls Try.prog 7 #[.slice A0 l0.length c0] w fun e w' => e = .returned (.bool r) ∧ Drawn0 w w' := by
 have HR0 := Aside0.mk hr0
 have HC0 := Aside0.mk hc0
 clear hr0 hc0
 have H : (some (decide ((l0.length : Int) > 1048576))) = some r := h
 clear h
 obtain rfl := Option.some.inj H
 go_enter Try.func7, Try.ntmps7
 go_wp2
 go_ret
 exact ⟨by first | rfl | (simp; done) | (simp [*]; done), by repeat (first | exact Drawn0.refl _ | apply Drawn0.step)⟩
/-! ### spec_l1Max: function 112 -/
def spec_l1Max.f (a0 : Int) (a1 : Int) : Option (Int) := if a0 > a1 then (some a0) else (some a1)
set_option maxHeartbeats 8000000 in
set_option maxRecDepth 100000 in
theorem spec_l1Max.calls (a0 : Int) (a1 : Int) (r : Int) (w : World) (h : spec_l1Max.f a0 a1 = some r) :
  Calls Try.prog 112 #[.int .i64 a0, .int .i64 a1] w fun e w' => e = .returned (.int .i64 r) ∧ Drawn0 w w' := by
 have H : (if a0 > a1 then (some a0) else (some a1)) = some r := h
 clear h
 by_cases c3 : a0 > a1
 ·rw [if_pos c3] at H
  have c3b0 : decide (a1 < a0) = true := decide_eq_true c3
  clear c3
  obtain rfl := Option.some.inj H
  go_enter Try.func112, Try.ntmps112
  go_wp2
  go_ret
  exact ⟨by first | rfl | (simp; done) | (simp [*]; done), by repeat (first | exact Drawn0.refl _ | apply Drawn0.step)⟩
 rw [if_neg c3] at H
 have c3b0 : decide (a1 < a0) = false := decide_eq_false c3
 clear c3
 obtain rfl := Option.some.inj H
 go_enter Try.func112, Try.ntmps112
 go_wp2
 go_ret
 exact ⟨by first | rfl | (simp; done) | (simp [*]; done), by repeat (first | exact Drawn0.refl _ | apply Drawn0.step)⟩
/-! ### spec_l1Bit: function 119 -/
def spec_l1Bit.f (a0 : Bool) : Option (Int) := if a0 = true then (some 1) else (some 0)
set_option maxHeartbeats 8000000 in
set_option maxRecDepth 100000 in
theorem spec_l1Bit.calls (a0 : Bool) (r : Int) (w : World) (h : spec_l1Bit.f a0 = some r) :
  Calls Try.prog 119 #[.bool a0] w fun e w' => e = .returned (.int .i64 r) ∧ Drawn0 w w' := by
 have H : (if a0 = true then (some 1) else (some 0)) = some r := h
 clear h
 by_cases c2 : a0 = true
 ·subst c2
  replace H := (if_pos rfl).symm.trans H
  obtain rfl := Option.some.inj H
  go_enter Try.func119, Try.ntmps119
  go_wp2
  go_ret
  exact ⟨by first | rfl | (simp; done) | (simp [*]; done), by repeat (first | exact Drawn0.refl _ | apply Drawn0.step)⟩
 replace c2 := Bool.eq_false_iff.mpr c2
 subst c2
 replace H := (if_neg zFf).symm.trans H
 obtain rfl := Option.some.inj H
 go_enter Try.func119, Try.ntmps119
 go_wp2
 go_ret
 exact ⟨by first | rfl | (simp; done) | (simp [*]; done), by repeat (first | exact Drawn0.refl _ | apply Drawn0.step)⟩
/-! ### spec_l3One: function 85 -/
def spec_l3One.f (k : Nat) (l0 : List Int) : Option (Int × ByteArray × Int) := (spec_l1New.f k l0).bind fun bt303 => ((spec_l3Bent.f k bt303.1 bt303.2.1 bt303.2.2).bind fun bt307 => ((spec_l1Max.f 1 bt307.1).bind fun t312 => ((spec_l1Below.f bt303.1 bt307.2.2.1 bt307.2.2.2 t312).bind fun bt313 => ((spec_l1Once.f bt303.1 bt313.2.1 bt313.2.2 14).bind fun bt316 => ((spec_l1Bit.f bt316.1).bind fun t319 => (some (bt307.1, bt307.2.1, wrap64 (bt313.1 - t319))))))))
def spec_l3One.T3 : Bool × List (List Nat × List Nat) := (true, [([], []), ([], []), ([], []), ([2], [2]), ([3], [3]), ([1, 4, 4], [1, 4]), ([], []), ([6, 5], [6]), ([7, 7], [7]), ([5, 8], [5, 8]), ([0, 8, 0], [0]), ([9, 10, 0, 1, 2, 3, 4, 5, 6, 7, 8, 9, 10], [9])])
def spec_l3One.B3 : List Nat := [0, 0, 0, 4, 12, 30, 0, 126, 254, 510, 511, 2047]
theorem spec_l3One.tab3 : rtab .any (opsOf Try.f85 3) = spec_l3One.T3 := by kernel_rfl
theorem spec_l3One.bits3 : waitsOk spec_l3One.T3.2 spec_l3One.B3 = true := by kernel_rfl
theorem zl34_0 {p q p0 : Prop} (g : p) (g0 : p0) (h : p → p0 → q := by intro zg_ z0_; repeat (first | (with_reducible first | exact zg_ | apply below_alloc | apply pw_below_drewN | apply below_drew1 | refine below_set ?_ z0_) | exact zg_)) : q := h g g0
theorem zl34_1 {p q p0 : Prop} (g : p) (g0 : p0) (h : p → p0 → q := by intro zg_ z0_; repeat (first | (with_reducible first | exact zg_ | apply IsS110.alloc | apply IsS110.drewN | apply IsS110.drew | apply IsS110.set_1 | apply IsS110.set_2 | refine IsS110.far ?_ z0_ _) | exact zg_)) : q := h g g0
theorem zl34_2 {p q p0 p1 : Prop} (g : p) (g0 : p0) (g1 : p1) (h : p → p0 → p1 → q := by intro zg_ z0_ z1_; repeat (first | (with_reducible first | exact zg_ | apply below_alloc | apply pw_below_drewN | apply below_drew1 | refine below_set ?_ z0_ | refine below_set ?_ z1_) | exact zg_)) : q := h g g0 g1
theorem zl34_3 {p q p0 p1 : Prop} (g : p) (g0 : p0) (g1 : p1) (h : p → p0 → p1 → q := by intro zg_ z0_ z1_; repeat (first | (with_reducible first | exact zg_ | apply IsS110.alloc | apply IsS110.drewN | apply IsS110.drew | apply IsS110.set_1 | apply IsS110.set_2 | refine IsS110.far ?_ z0_ _ | refine IsS110.far ?_ z1_ _) | exact zg_)) : q := h g g0 g1
theorem zl34_4 {p q p0 p1 p2 : Prop} (g : p) (g0 : p0) (g1 : p1) (g2 : p2) (h : p → p0 → p1 → p2 → q := by intro zg_ z0_ z1_ z2_; repeat (first | (with_reducible first | exact zg_ | apply below_alloc | apply pw_below_drewN | apply below_drew1 | refine below_set ?_ z0_ | refine below_set ?_ z1_ | refine below_set ?_ z2_) | exact zg_)) : q := h g g0 g1 g2
set_option maxHeartbeats 8000000 in
set_option maxRecDepth 100000 in
theorem spec_l3One.calls (k : Nat) (A0 : Option Addr) (c0 : Nat) (l0 : List Int) (r1 : Int) (r2 : ByteArray) (r3 : Int) (w : World) (hr0 : Kd.C (Kd.int .u8) w A0 l0.length l0) (hc0 : l0.length ≤ c0) (h : spec_l3One.f k l0 = some (r1, r2, r3)) :
  Calls Try.prog 85 #[.slice A0 l0.length c0] w fun e w' => e = .returned (.tuple #[.agg #[.int .i64 r1, .string r2], .int .i64 r3]) ∧ Below w.heap.size w w' := by
 have hu25 := Try.underlying25
 have HR0 := Aside0.mk hr0
 have HC0 := Aside0.mk hc0
 clear hr0 hc0
 have HB := Aside0.mk (Below.refl w.heap.size w)
 have H : ((spec_l1New.f k l0).bind fun bt303 => ((spec_l3Bent.f k bt303.1 bt303.2.1 bt303.2.2).bind fun bt307 => ((spec_l1Max.f 1 bt307.1).bind fun t312 => ((spec_l1Below.f bt303.1 bt307.2.2.1 bt307.2.2.2 t312).bind fun bt313 => ((spec_l1Once.f bt303.1 bt313.2.1 bt313.2.2 14).bind fun bt316 => ((spec_l1Bit.f bt316.1).bind fun t319 => (some (bt307.1, bt307.2.1, wrap64 (bt313.1 - t319))))))))) = some (r1, r2, r3) := h
 clear h
 obtain ⟨⟨t303, t304, t305⟩, A2, H⟩ := zO H
 dsimp only at H
 obtain ⟨⟨t307, t308, t309, t310⟩, A3, H⟩ := zO H
 dsimp only at H
 obtain ⟨t312, A4, H⟩ := zO H
 obtain ⟨⟨t313, t314, t315⟩, A5, H⟩ := zO H
 dsimp only at H
 obtain ⟨⟨t316, t317, t318⟩, A6, H⟩ := zO H
 dsimp only at H
 obtain ⟨t319, A7, H⟩ := zO H
 simp only [Option.some.injEq, Prod.mk.injEq] at H
 obtain ⟨rfl, rfl, rfl⟩ := H
 go_enter Try.func85, Try.ntmps85
 try go_wp2_with (first | ((with_reducible refine gate_dst (N := 2) rfl ?_); refine zBx (N := 2) #[.int .i64 0, .string (⟨#[]⟩ : ByteArray)] 25 ?_; intro gb302 hg w8 hbox hb; have BK302 := Aside0.mk (hbox); have GW302 := zS hg; have GE302 := zS hg; replace HB := zX hb; clear hb hbox hg) | ((with_reducible refine gate_callee (f := 81) rfl ?_); refine zD (some 7) Try.func81 #[.slice A0 l0.length c0] ?_; (with_reducible refine (spec_l1New.calls k _ _ l0 t303 t304 t305 w _ ?side1 ?side2 ?side3 A2.out).mono ?_); (case side1 => exact (zl34_0 HB.out GE302.out)); (case side2 => exact HR0.out); (case side3 => exact HC0.out); rintro e w9 ⟨g306, rfl, hi, hb, hb2⟩; refine ⟨_, rfl, ?_⟩; have HI306 := Aside0.mk (hi); have NB306_302 := Aside0.mk (IsS110.ne_blk hi (blk_below (g := gb302) (o := .cells #[.int .i64 0, .string (⟨#[]⟩ : ByteArray)] 25 (0, 0)) (zK BK302.out) hb2) (by decide)); have NB302_306 := Aside0.mk (Ne.symm (IsS110.ne_blk hi (blk_below (g := gb302) (o := .cells #[.int .i64 0, .string (⟨#[]⟩ : ByteArray)] 25 (0, 0)) (zK BK302.out) hb2) (by decide))); replace BK302 := Aside0.mk (blk_below (g := gb302) (o := .cells #[.int .i64 0, .string (⟨#[]⟩ : ByteArray)] 25 (0, 0)) (zK BK302.out) hb2); replace HB := Aside0.mk (hb); (try clear hb); (try clear hb2); (try clear hi)) | ((with_reducible refine gate_callee (f := 141) rfl ?_); refine zD (some 9) Try.func141 #[.pointer (some ⟨g306, 0, none⟩)] ?_; (with_reducible refine (spec_l3Bent.calls k g306 t303 t304 t305 t307 t308 t309 t310 w _ ?side1 ?side2 A3.out).mono ?_); (case side1 => exact (zl34_1 HI306.out NB306_302.out)); (case side2 => exact (zl34_2 HB.out (IsS110.ge HI306.out) GE302.out)); rintro e w10 ⟨rfl, hi, hb, hk⟩; refine ⟨_, rfl, ?_⟩; replace BK302 := zKB hk BK302.out NB302_306.out; replace HI306 := Aside0.mk (hi); replace HB := Aside0.mk (hb); (try clear hb); (try clear hk); (try clear hi)) | ((with_reducible refine gate_dst (N := 5) rfl ?_); refine zBx (N := 5) #[.int .i64 0, .string (⟨#[]⟩ : ByteArray)] 25 ?_; intro gb311 hg w11 hbox hb; have n0_ := zV BK302.out hb; have n1_ := Aside0.mk (IsS110.below (zl34_1 HI306.out NB306_302.out) hb); have n2_ := Aside0.mk (below_step (zG2 (IsS110.ge HI306.out) GE302.out) hb); have n3_ := Aside0.mk (hbox); have n4_ := zSg hg (zG2 (IsS110.ge HI306.out) GE302.out); have n5_ := zSg hg (zG2 (IsS110.ge HI306.out) GE302.out); have n6_ := zL hg BK302.out; have n7_ := zLg hg BK302.out; have n8_ := Aside0.mk ((by rw [hg]; exact Nat.ne_of_lt (IsS110.lt (show IsS110 w _ g306 t303 t309 t310 from (zl34_1 HI306.out NB306_302.out))) : g306 ≠ gb311)); have n9_ := Aside0.mk ((by rw [hg]; exact Nat.ne_of_gt (IsS110.lt (show IsS110 w _ g306 t303 t309 t310 from (zl34_1 HI306.out NB306_302.out))) : gb311 ≠ g306)); clear BK302; clear HI306; clear HB; have BK302 := n0_; have HI306 := n1_; have HB := n2_; have BK311 := n3_; have GW311 := n4_; have GE311 := n5_; have NB302_311 := n6_; have NB311_302 := n7_; have NB306_311 := n8_; have NB311_306 := n9_; clear n0_ n1_ n2_ n3_ n4_ n5_ n6_ n7_ n8_ n9_; clear hb hbox hg; have hnb12 := NB311_302.out; have hnc12 := NB302_311.out; have hnb13 := NB311_306.out; have hnc13 := NB306_311.out; obtain ⟨hcz14_0, hcz14_1, hfz14_0, hfz14_1⟩ := zq2 BK311.out))
 have n0_ : Aside0 (((w11.setCell ⟨gb311, 0, none⟩ (.int .i64 t307)).setCell ⟨gb311, 1, none⟩ (.string t308)).heap[gb302]? = some (.cells #[.int .i64 0, .string (⟨#[]⟩ : ByteArray)] 25 (0, 0))) := ⟨zk2 BK302.out NB302_311.out NB302_311.out⟩
 have n1_ : Aside0 (((w11.setCell ⟨gb311, 0, none⟩ (.int .i64 t307)).setCell ⟨gb311, 1, none⟩ (.string t308)).heap[gb311]? = some (.cells #[.int .i64 t307, .string t308] 25 (0, 0))) := ⟨zk0 BK311.out⟩
 have n2_ : Aside0 (IsS110 w ((w11.setCell ⟨gb311, 0, none⟩ (.int .i64 t307)).setCell ⟨gb311, 1, none⟩ (.string t308)) g306 t303 t309 t310) := ⟨(zl34_3 HI306.out NB306_302.out NB306_311.out)⟩
 have n3_ : Aside0 (Below w.heap.size w ((w11.setCell ⟨gb311, 0, none⟩ (.int .i64 t307)).setCell ⟨gb311, 1, none⟩ (.string t308))) := ⟨zG3 (IsS110.ge HI306.out) GE302.out GE311.out⟩
 (try clear BK302)
 (try clear BK311)
 (try clear HI306)
 (try clear HB)
 generalize ((w11.setCell ⟨gb311, 0, none⟩ (.int .i64 t307)).setCell ⟨gb311, 1, none⟩ (.string t308)) = w15 at n0_ n1_ n2_ n3_ ⊢
 have BK302 := n0_
 have BK311 := n1_
 have HI306 := n2_
 have HB := n3_
 clear n0_ n1_ n2_ n3_
 replace BK302 := Aside0.mk (blk_drew BK302.out)
 replace BK311 := Aside0.mk (blk_drew BK311.out)
 replace HI306 := Aside0.mk (IsS110.drew HI306.out)
 replace HB := Aside0.mk (below_drew1 HB.out)
 refine start_ (n := 12) (S := fun w' => w'.cell? ⟨gb311, 0, none⟩ = some (.int .i64 t307) ∧ w'.cell? ⟨gb311, 1, none⟩ = some (.string t308)) (ds := []) #[false, false, false, false, false, false, false, false, false, false, false, false] (by kernel_rfl) rfl rfl ⟨(blk_cell BK311.out 0).trans rfl, (blk_cell BK311.out 1).trans rfl⟩ (fun hHeld => ?_); refine with_tabW spec_l3One.tab3 spec_l3One.bits3 (fun HT_ HW_ => ?_)
 generalize w15.drew = w16 at BK302 BK311 HI306 HB hHeld ⊢
 refine zP 1 (some 11) rfl rfl ?_
 refine zP 2 (some 12) rfl rfl ?_
 refine zP 6 (some 16) rfl rfl ?_
 refine zY2 0 (some 10) rfl rfl hHeld ?_
 refine zY2 3 (some 13) rfl rfl hHeld ?_
 refine zU 4 (some 14) rfl rfl (fun K hK => ?_)
 refine goes_ Try.func112 (by kernel_rfl) rfl #[.int .i64 1, .int .i64 t307] (by rfl) rfl rfl zM ?_
 with_reducible refine (spec_l1Max.calls 1 t307 t312 _ A4.out).mono ?_
 rintro e w' ⟨rfl, ⟨nd, rfl⟩⟩
 refine ⟨_, rfl, ?_⟩
 refine hK.out _ _ (zh2 BK311.out) (fun hHeld => ?_)
 clear hK K
 refine zN ?_
 refine zU 5 (some 15) rfl rfl (fun K hK => ?_)
 refine goes_ Try.func125 (by kernel_rfl) rfl #[.pointer (some ⟨g306, 0, none⟩), .int .i64 t312] (by rfl) rfl rfl zM ?_
 with_reducible refine (spec_l1Below.calls g306 t303 t309 t310 t312 t313 t314 t315 w _ ?side1 ?side2 A5.out).mono ?_
 (case side1 => exact (zl34_3 HI306.out NB306_302.out NB306_311.out))
 (case side2 => exact (zl34_4 HB.out (IsS110.ge HI306.out) GE302.out GE311.out))
 rintro e w17 ⟨rfl, hi, hb, hk⟩
 refine ⟨_, rfl, ?_⟩
 replace BK302 := zKB hk BK302.out NB302_306.out
 replace BK311 := zKB hk BK311.out NB311_306.out
 replace HI306 := Aside0.mk (hi)
 replace HB := Aside0.mk (hb)
 (try clear hb)
 (try clear hk)
 (try clear hi)
 refine hK.out _ _ (zh2 BK311.out) (fun hHeld => ?_)
 clear hK K
 refine zN ?_
 refine zU 7 (some 17) rfl rfl (fun K hK => ?_)
 refine goes_ Try.func127 (by kernel_rfl) rfl #[.pointer (some ⟨g306, 0, none⟩), .int .i64 14] (by rfl) rfl rfl zM ?_
 with_reducible refine (spec_l1Once.calls g306 t303 t314 t315 14 t316 t317 t318 w _ ?side1 ?side2 A6.out).mono ?_
 (case side1 => exact (zl34_3 HI306.out NB306_302.out NB306_311.out))
 (case side2 => exact (zl34_4 HB.out (IsS110.ge HI306.out) GE302.out GE311.out))
 rintro e w18 ⟨rfl, hi, hb, hk⟩
 refine ⟨_, rfl, ?_⟩
 replace BK302 := zKB hk BK302.out NB302_306.out
 replace BK311 := zKB hk BK311.out NB311_306.out
 replace HI306 := Aside0.mk (hi)
 replace HB := Aside0.mk (hb)
 (try clear hb)
 (try clear hk)
 (try clear hi)
 refine hK.out _ _ (zh2 BK311.out) (fun hHeld => ?_)
 clear hK K
 refine zN ?_
 refine zU 8 (some 18) rfl rfl (fun K hK => ?_)
 refine goes_ Try.func119 (by kernel_rfl) rfl #[.bool t316] (by rfl) rfl rfl zM ?_
 with_reducible refine (spec_l1Bit.calls t316 t319 _ A7.out).mono ?_
 rintro e w' ⟨rfl, ⟨nd, rfl⟩⟩
 refine ⟨_, rfl, ?_⟩
 refine hK.out _ _ (zh2 BK311.out) (fun hHeld => ?_)
 clear hK K
 refine zN ?_
 refine zP 9 (some 19) rfl rfl ?_
 refine zU 10 none rfl rfl (fun K hK => ?_)
 have hs19 : w18.cell? ⟨gb302, 0, none⟩ = some (.int .i64 0) := (blk_cell BK302.out 0).trans rfl
 have hfs19 := blk_frozen BK302.out 0
 have hns19_1 := NB311_302.out
 have hms19_1 := NB302_311.out
 have hs20 : w18.cell? ⟨gb302, 1, none⟩ = some (.string (⟨#[]⟩ : ByteArray)) := (blk_cell BK302.out 1).trans rfl
 have hfs20 := blk_frozen BK302.out 1
 have hns20_1 := NB311_302.out
 have hms20_1 := NB302_311.out
 refine skip_ (w1 := ?_) (by rfl) rfl ?_ ?_
 rotate_left
 ·go_simp
  rfl
 refine hK.out _ _ ⟨((cell_far (p := ⟨gb302, _, none⟩) NB311_302.out _).trans (((cell_far (p := ⟨gb302, _, none⟩) NB311_302.out _).trans (hHeld.1)))), ((cell_far (p := ⟨gb302, _, none⟩) NB311_302.out _).trans (((cell_far (p := ⟨gb302, _, none⟩) NB311_302.out _).trans (hHeld.2))))⟩ (fun hHeld => ?_)
 clear hK K
 refine zP 11 (some 3) rfl rfl ?_
 refine done_ (done_of HT_.out (by kernel_rfl)) ?_
 try go_wp2
 refine bodyPost_ret (results_ct rfl _ _ gb302 25 #[.int .i64 t307, .string t308] (0, 0) _ rfl (zk0 BK302.out) Try.underlying25 rfl (by kernel_rfl)) rfl ?_
 exact ⟨zE, zG3 (IsS110.ge HI306.out) GE302.out GE311.out⟩
/-! ### spec_DrawReverseElement: function 10 -/
def spec_DrawReverseElement.f (k : Nat) (l0 : List Int) : Option (Int × ByteArray × Int) := (spec_l3One.f k l0).bind fun bt321 => (some (bt321.1, bt321.2.1, bt321.2.2))
set_option maxHeartbeats 8000000 in
set_option maxRecDepth 100000 in
theorem spec_DrawReverseElement.calls (k : Nat) (A0 : Option Addr) (c0 : Nat) (l0 : List Int) (r1 : Int) (r2 : ByteArray) (r3 : Int) (w : World) (hr0 : Kd.C (Kd.int .u8) w A0 l0.length l0) (hc0 : l0.length ≤ c0) (h : spec_DrawReverseElement.f k l0 = some (r1, r2, r3)) :
  Calls Try.prog 10 #[.slice A0 l0.length c0] w fun e w' => e = .returned (.tuple #[.agg #[.int .i64 r1, .string r2], .int .i64 r3]) ∧ Below w.heap.size w w' := by
 have hu25 := Try.underlying25
 have HR0 := Aside0.mk hr0
 have HC0 := Aside0.mk hc0
 clear hr0 hc0
 have HB := Aside0.mk (Below.refl w.heap.size w)
 have H : ((spec_l3One.f k l0).bind fun bt321 => (some (bt321.1, bt321.2.1, bt321.2.2))) = some (r1, r2, r3) := h
 clear h
 obtain ⟨⟨t321, t322, t323⟩, A2, H⟩ := zO H
 replace H : (some (t321, t322, t323)) = some (r1, r2, r3) := H
 simp only [Option.some.injEq, Prod.mk.injEq] at H
 obtain ⟨rfl, rfl, rfl⟩ := H
 go_enter Try.func10, Try.ntmps10
 go_wp2_with (first | ((with_reducible refine gate_dst (N := 2) rfl ?_); refine zBx (N := 2) #[.int .i64 0, .string (⟨#[]⟩ : ByteArray)] 25 ?_; intro gb320 hg w3 hbox hb; have BK320 := Aside0.mk (hbox); have GW320 := zS hg; have GE320 := zS hg; replace HB := zX hb; clear hb hbox hg) | ((with_reducible refine gate_callee (f := 85) rfl ?_); refine zD (some 8) Try.func85 #[.slice A0 l0.length c0] ?_; (with_reducible refine (spec_l3One.calls k _ _ l0 t321 t322 t323 _ ?side1 ?side2 A2.out).mono ?_); (case side1 => repeat (first | exact (Kd.C_below HR0.out HB.out) | (with_reducible refine Kd.C_alloc ?_ _) | (with_reducible refine Kd.C_drewN ?_ _) | (with_reducible refine Kd.C_drew ?_))); (case side2 => exact HC0.out); rintro e w4 ⟨rfl, hb⟩; refine ⟨_, rfl, ?_⟩; replace BK320 := zV BK320.out hb; replace HB := zX1 GE320.out hb; (try clear hb)) | ((with_reducible refine gate_dst (N := 4) rfl ?_); refine zBx (N := 4) #[.int .i64 0, .string (⟨#[]⟩ : ByteArray)] 25 ?_; intro gb324 hg w5 hbox hb; have BK324 := Aside0.mk (hbox); have GW324 := zSg hg (zG GE320.out); have GE324 := zSg hg (zG GE320.out); have NB320_324 := zL hg BK320.out; have NB324_320 := zLg hg BK320.out; replace BK320 := zV BK320.out hb; replace HB := zX1 GE320.out hb; clear hb hbox hg; have hnb6 := NB324_320.out; have hnc6 := NB320_324.out; obtain ⟨hcz7_0, hcz7_1, hfz7_0, hfz7_1⟩ := zq2 BK324.out; obtain ⟨hcz8_0, hcz8_1, hfz8_0, hfz8_1⟩ := zq2 BK320.out))
 refine bodyPost_ret (results_ct rfl _ _ gb320 25 #[.int .i64 t321, .string t322] (0, 0) _ rfl (zk2 BK320.out NB320_324.out NB320_324.out) Try.underlying25 rfl (by kernel_rfl)) rfl ?_
 exact ⟨zE, zG2 GE320.out GE324.out⟩
/-! ### impl_isElement: function 86 -/
def impl_isElement.f (a0 : Int) (a1 : Int) : Option (Bool) := if a1 ≥ 0 then (some (decide (a1 < a0))) else (some false)
set_option maxHeartbeats 8000000 in
set_option maxRecDepth 100000 in
theorem impl_isElement.calls (a0 : Int) (a1 : Int) (r : Bool) (w : World) (h : impl_isElement.f a0 a1 = some r) :
  Calls Try.prog 86 #[.int .i64 a0, .int .i64 a1] w fun e w' => e = .returned (.bool r) ∧ Drawn0 w w' := by
 have H : (if a1 ≥ 0 then (some (decide (a1 < a0))) else (some false)) = some r := h
 clear h
 by_cases c3 : a1 ≥ 0
 ·rw [if_pos c3] at H
  have c3b0 : decide (0 ≤ a1) = true := decide_eq_true c3
  clear c3
  obtain rfl := Option.some.inj H
  go_enter Try.func86, Try.ntmps86
  go_wp2
  go_ret
  exact ⟨by first | rfl | (simp; done) | (simp [*]; done), by repeat (first | exact Drawn0.refl _ | apply Drawn0.step)⟩
 rw [if_neg c3] at H
 have c3b0 : decide (0 ≤ a1) = false := decide_eq_false c3
 clear c3
 obtain rfl := Option.some.inj H
 go_enter Try.func86, Try.ntmps86
 go_wp2
 go_ret
 exact ⟨by first | rfl | (simp; done) | (simp [*]; done), by repeat (first | exact Drawn0.refl _ | apply Drawn0.step)⟩
/-! ### impl_chi_reverse: function 87 -/
def impl_chi_reverse.l0 : Nat → List Int → Int → List (S99) → Int → Int → Option (List Int)
 | 0, _, _, _, _, _ => none
 | k + 1, x0, x1, x10, x11, x12 => if x12 < x11 then (if 0 ≤ x12 then (if x12 < (x10.length : Int) then (if ((rd_T99 x10 x12).f0) = x1 then (if x0.length = 344 then (if 0 ≤ ((rd_T99 x10 x12).f0) then (if ((rd_T99 x10 x12).f0) < 7 then (if 0 ≤ ((rd_T99 x10 x12).f1) then (if ((rd_T99 x10 x12).f1) < 7 then (if 0 ≤ ((rd_T99 x10 x12).f2) then (if ((rd_T99 x10 x12).f2) < 7 then ((impl_chi_set.f x0 ((rd_T99 x10 x12).f0) ((rd_T99 x10 x12).f1) ((rd_T99 x10 x12).f2) (wrap64 (-(rd3 x0 ((rd_T99 x10 x12).f0) ((rd_T99 x10 x12).f1) ((rd_T99 x10 x12).f2))))).bind fun t332 => (impl_chi_reverse.l0 k t332 x1 x10 x11 (wrap64 (x12 + 1)))) else (none)) else (none)) else (none)) else (none)) else (none)) else (none)) else (none)) else (if ((rd_T99 x10 x12).f1) = x1 then (if x0.length = 344 then (if 0 ≤ ((rd_T99 x10 x12).f0) then (if ((rd_T99 x10 x12).f0) < 7 then (if 0 ≤ ((rd_T99 x10 x12).f1) then (if ((rd_T99 x10 x12).f1) < 7 then (if 0 ≤ ((rd_T99 x10 x12).f2) then (if ((rd_T99 x10 x12).f2) < 7 then ((impl_chi_set.f x0 ((rd_T99 x10 x12).f0) ((rd_T99 x10 x12).f1) ((rd_T99 x10 x12).f2) (wrap64 (-(rd3 x0 ((rd_T99 x10 x12).f0) ((rd_T99 x10 x12).f1) ((rd_T99 x10 x12).f2))))).bind fun t334 => (impl_chi_reverse.l0 k t334 x1 x10 x11 (wrap64 (x12 + 1)))) else (none)) else (none)) else (none)) else (none)) else (none)) else (none)) else (none)) else (if ((rd_T99 x10 x12).f2) = x1 then (if x0.length = 344 then (if 0 ≤ ((rd_T99 x10 x12).f0) then (if ((rd_T99 x10 x12).f0) < 7 then (if 0 ≤ ((rd_T99 x10 x12).f1) then (if ((rd_T99 x10 x12).f1) < 7 then (if 0 ≤ ((rd_T99 x10 x12).f2) then (if ((rd_T99 x10 x12).f2) < 7 then ((impl_chi_set.f x0 ((rd_T99 x10 x12).f0) ((rd_T99 x10 x12).f1) ((rd_T99 x10 x12).f2) (wrap64 (-(rd3 x0 ((rd_T99 x10 x12).f0) ((rd_T99 x10 x12).f1) ((rd_T99 x10 x12).f2))))).bind fun t336 => (impl_chi_reverse.l0 k t336 x1 x10 x11 (wrap64 (x12 + 1)))) else (none)) else (none)) else (none)) else (none)) else (none)) else (none)) else (none)) else (impl_chi_reverse.l0 k x0 x1 x10 x11 (wrap64 (x12 + 1)))))) else (none)) else (none)) else (some x0)
def impl_chi_reverse.f (k : Nat) (l0 : List Int) (a1 : Int) : Option (List Int) := if l0.length = 344 then ((impl_triplesOf.f k (rd l0 0)).bind fun t326 => (impl_chi_reverse.l0 k l0 a1 t326 (t326.length : Int) 0)) else (none)
def impl_chi_reverse.T4 : Bool × List (List Nat × List Nat) := (true, [([], []), ([], []), ([1], [1]), ([], []), ([3], [3]), ([], []), ([5], [5]), ([], []), ([], []), ([8], [8]), ([], []), ([10], [10]), ([], []), ([12], [12]), ([7], [7]), ([14], [14]), ([15, 9], [9, 15]), ([16, 11], [11, 16]), ([17, 13], [13, 17]), ([18], [18]), ([19], [19]), ([0, 2, 4, 6, 20], [0, 2, 4, 6, 20])])
def impl_chi_reverse.B4 : List Nat := [0, 0, 2, 0, 8, 0, 32, 0, 0, 256, 0, 1024, 0, 4096, 128, 16512, 50048, 118656, 262016, 524160, 1048448, 2097151]
theorem impl_chi_reverse.tab4 : rtab .any (opsOf Try.f87 4) = impl_chi_reverse.T4 := by kernel_rfl
theorem impl_chi_reverse.bits4 : waitsOk impl_chi_reverse.T4.2 impl_chi_reverse.B4 = true := by kernel_rfl
theorem zl37_0 {p q : Prop} (g : p) (h : p → q := by intro zg_; repeat (first | (with_reducible first | exact zg_ | apply Kept.alloc | apply Kept.drewN | apply Kept.drew) | exact zg_)) : q := h g
theorem zl37_1 {p q p0 : Prop} (g : p) (g0 : p0) (h : p → p0 → q := by intro zg_ z0_; repeat (first | (with_reducible first | exact zg_ | apply below_alloc | apply pw_below_drewN | apply below_drew1 | refine below_set ?_ z0_) | exact zg_)) : q := h g g0
set_option maxHeartbeats 8000000 in
set_option maxRecDepth 100000 in
theorem impl_chi_reverse.calls (k : Nat) (P0_ : Nat → Prop) (u9000_ : Value) (l0 : List Int) (a1 : Int) (r : List Int) (w0 w : World) (hB : Below w0.heap.size w0 w) (ho0 : Kd.R (Kd.int .i64) 115 w w0.heap.size P0_ u9000_ l0) (h : impl_chi_reverse.f k l0 a1 = some r) :
  Calls Try.prog 87 #[ptrOf u9000_, .int .i64 a1] w fun e w' => e = .returned (.tuple #[]) ∧ Kd.R (Kd.int .i64) 115 w' w0.heap.size (fun k_ => (P0_ k_ ∨ w.heap.size ≤ k_)) u9000_ r ∧ Below w0.heap.size w0 w' ∧ Kept w w' (fun k_ => P0_ k_) := by
 have hu99 := Try.underlying99
 have hu115 := Try.underlying115
 have hu113 := Try.underlying113
 have hu112 := Try.underlying112
 have hu111 := Try.underlying111
 have HO0 := Aside0.mk (show Kd.R (Kd.int .i64) 115 w w0.heap.size (fun k_ => (P0_ k_ ∨ w.heap.size ≤ k_)) u9000_ l0 from Kd.R_mono ho0 (fun k_ hk => (.inl hk)))
 have HK := Aside0.mk (Kept.refl w (fun k_ => P0_ k_))
 have HW0 := Aside0.mk hB.size
 have HB := Aside0.mk hB
 clear hB
 have H : (if l0.length = 344 then ((impl_triplesOf.f k (rd l0 0)).bind fun t326 => (impl_chi_reverse.l0 k l0 a1 t326 (t326.length : Int) 0)) else (none)) = some r := h
 clear h
 by_cases c3 : l0.length = 344
 ·rw [if_pos c3] at H
  have c3b0 := eq_true c3
  have c3b1 : decide (l0.length = 344) = true := decide_eq_true c3
  clear c3
  obtain ⟨t326, A4, H⟩ := zO H
  have H' := Aside0.mk H; clear H
  obtain ⟨go5, co5, eo5, gb5, gl5, cl5, HG5⟩ := Kd.R_form HO0.out (by have hl_ := Nat.le_of_eq (Eq.symm (zA : l0.length = 344)); omega)
  (first | cases eo5 | (injection eo5 with ea_ en_ ec_; (first | subst ea_ | (injection ea_ with ea_; subst ea_)); subst ec_; clear en_))
  have GB5 := Aside0.mk gb5
  have GG5 := Aside0.mk HG5
  clear gb5 gl5 HG5
  have HMgo5 := Aside0.mk (show (P0_ go5 ∨ w.heap.size ≤ go5) from (HO0.out.1 _ rfl))
  have hL325 := (zA : l0.length = 344)
  have dq325 : decide (0 < (l0.length : Int)) = true := decide_eq_true (by omega)
  clear hL325
  have p325 : 0 ≤ (0 : Int) := (by omega)
  have q325 : 0 < (l0.length : Int) := zA
  obtain ⟨ad325, e325, hx325_0⟩ := Kd.at_int (Kd.R_reads' HO0.out).2.2 0 p325 q325
  obtain rfl : (⟨go5, 0, none⟩ : Addr) = ad325 := (by injection e325)
  (first | simp only [add_plain] at hx325_0 | simp only [add_at] at hx325_0 | simp only [Addr.add, Nat.zero_add] at hx325_0 | skip)
  have qi325 : (0 < l0.length) = True := eq_true (by omega)
  (try rw [show ((0 : Int)).toNat = 0 from rfl] at hx325_0)
  (try rw [Addr.add_zero'] at hx325_0)
  replace p325 := eq_true p325
  replace q325 := eq_true q325
  clear dq325
  go_enter Try.func87, Try.ntmps87
  go_wp2_with (first | ((with_reducible refine gate_callee (f := 118) rfl ?_); refine zD (some 10) Try.func118 #[.int .i64 (rd l0 0)] ?_; (with_reducible refine (impl_triplesOf.calls k (rd l0 0) t326 _ A4.out).mono ?_); rintro e w6 ⟨v327, rfl, ho0, hb⟩; refine ⟨_, rfl, ?_⟩; replace HO0 := zW HO0.out hb; have HO328 := Aside0.mk (Kd.R_lower (Kd.R_newM (M := fun k_ => (P0_ k_ ∨ w.heap.size ≤ k_)) ho0 (by first | exact HK.out.1 | exact (show Kept w _ (fun k_ => P0_ k_) from (zl37_0 HK.out)).1) (fun k_ h_ => .inr h_)) (below_size zB)); replace HK := Aside0.mk (Kept.below (S := (fun k_ => P0_ k_)) (zl37_0 HK.out) hb); replace HB := zX hb; (try clear hb); (try clear ho0); obtain ⟨Ao7, co7, eo7⟩ := Kd.R_slice HO328.out; subst eo7))
  go_loopg [12] k (fun kq v12 w' => ∃ (x0_1 : List Int) (x12_1 : Int), v12 = .int .i64 x12_1 ∧ Aside0 (impl_chi_reverse.l0 kq x0_1 a1 t326 (t326.length : Int) x12_1 = some r) ∧ Aside0 (kq ≤ k) ∧ Aside0 (Kd.R (Kd.int .i64) 115 w' w0.heap.size (fun k_ => (P0_ k_ ∨ w.heap.size ≤ k_)) (.slice (some ⟨go5, 0, none⟩) l0.length co5) x0_1) ∧ Aside0 (Kd.R k99 99 w' w0.heap.size (fun k_ => (P0_ k_ ∨ w.heap.size ≤ k_)) (.slice Ao7 t326.length co7) t326) ∧ Aside0 (Kept w w' (fun k_ => P0_ k_)) ∧ Aside0 (Below w0.heap.size w0 w'))
  case atStart => exact ⟨(l0), (0), zF, H', ⟨Nat.le_refl _⟩, ⟨zR HO0.out⟩, ⟨by (with_reducible repeat (first | apply Kd.R_alloc | apply Kd.R_drewN | apply Kd.R_drew)); exact Kd.R_mono HO328.out (fun _ hk => hk.1)⟩, ⟨(zl37_0 HK.out)⟩, ⟨zB⟩⟩
  case round =>
  clear H'
  try clear c3
  try clear c3b0
  try clear c3b1
  try clear hx325_0
  try clear p325
  try clear q325
  obtain ⟨x0_1, x12_1, rfl, HA, HK1, HO_0, HO_10, HK, HB⟩ := hrel
  have hl0_1 := (Kd.R_reads' HO_0.out).1
  rw [hl0_1] at HO_0
  (try simp only [hl0_1])
  (try simp only [hl0_1] at HO_10)
  cases gk with
  | zero => exact absurd HA.out (by simp [impl_chi_reverse.l0])
  | succ k1 =>
  have H := HA.out
  clear HA
  simp only [impl_chi_reverse.l0] at H
  by_cases c8 : x12_1 < (t326.length : Int)
  ·rw [if_pos c8] at H
   have c8b0 : decide (x12_1 < (t326.length : Int)) = true := decide_eq_true c8
   clear c8
   by_cases c9 : 0 ≤ x12_1
   ·rw [if_pos c9] at H
    have c9b0 : decide (0 ≤ x12_1) = true := decide_eq_true c9
    clear c9
    by_cases c10 : x12_1 < (t326.length : Int)
    ·rw [if_pos c10] at H
     have c10b0 : decide (x12_1 < (t326.length : Int)) = true := decide_eq_true c10
     clear c10
     by_cases c11 : ((rd_T99 t326 x12_1).f0) = a1
     ·rw [if_pos c11] at H
      have c11b0 : (((rd_T99 t326 x12_1).f0) == a1) = true := beq_iff_eq.mpr c11
      have c11b1 : (((rd_T99 t326 x12_1).f0) != a1) = false := bne_eq_false_iff_eq.mpr c11
      clear c11
      by_cases c12 : x0_1.length = 344
      ·rw [if_pos c12] at H
       have c12b0 := eq_true c12
       have c12b1 : decide (x0_1.length = 344) = true := decide_eq_true c12
       clear c12
       by_cases c13 : 0 ≤ ((rd_T99 t326 x12_1).f0)
       ·rw [if_pos c13] at H
        have c13b0 : decide (0 ≤ ((rd_T99 t326 x12_1).f0)) = true := decide_eq_true c13
        clear c13
        by_cases c14 : ((rd_T99 t326 x12_1).f0) < 7
        ·rw [if_pos c14] at H
         have c14b0 : decide (((rd_T99 t326 x12_1).f0) < 7) = true := decide_eq_true c14
         clear c14
         by_cases c15 : 0 ≤ ((rd_T99 t326 x12_1).f1)
         ·rw [if_pos c15] at H
          have c15b0 : decide (0 ≤ ((rd_T99 t326 x12_1).f1)) = true := decide_eq_true c15
          clear c15
          by_cases c16 : ((rd_T99 t326 x12_1).f1) < 7
          ·rw [if_pos c16] at H
           have c16b0 : decide (((rd_T99 t326 x12_1).f1) < 7) = true := decide_eq_true c16
           clear c16
           by_cases c17 : 0 ≤ ((rd_T99 t326 x12_1).f2)
           ·rw [if_pos c17] at H
            have c17b0 : decide (0 ≤ ((rd_T99 t326 x12_1).f2)) = true := decide_eq_true c17
            clear c17
            by_cases c18 : ((rd_T99 t326 x12_1).f2) < 7
            ·rw [if_pos c18] at H
             have c18b0 : decide (((rd_T99 t326 x12_1).f2) < 7) = true := decide_eq_true c18
             clear c18
             obtain ⟨t332, A19, H⟩ := zO H
             have H' := Aside0.mk H; clear H
             have p329 : 0 ≤ (x12_1 : Int) := zA
             have q329 : x12_1 < (t326.length : Int) := zA
             obtain ⟨ad329, e329, hx329_0, hx329_1, hx329_2⟩ := at_T99 (Kd.R_reads' HO_10.out).2.2 x12_1 p329 q329
             cases e329
             replace p329 := eq_true p329
             replace q329 := eq_true q329
             try go_wp2_with (first | ((with_reducible refine gate_dst (N := 5) rfl ?_); refine zBx (N := 5) #[.int .i64 0, .int .i64 0, .int .i64 0] 99 ?_; intro gb330 hg w20 hbox hb; replace HO_0 := zW HO_0.out hb; replace HO_10 := Aside0.mk (Kd.R_below (Kd.R_elderB (zR HO_10.out) gb330 (Nat.le_of_eq hg.symm)) hb); have BK330 := Aside0.mk (hbox); have GW330 := Aside0.mk ((by rw [hg]; exact (by first | exact HK.out.1 | exact (show Kept w _ (fun k_ => P0_ k_) from (zl37_0 HK.out)).1) : w.heap.size ≤ gb330)); replace HK := Aside0.mk (Kept.below (S := (fun k_ => P0_ k_)) (zl37_0 HK.out) hb); have GE330 := Aside0.mk ((by rw [hg]; exact (below_size zB) : w0.heap.size ≤ gb330)); replace HB := zX hb; clear hb hbox hg; obtain ⟨hcz21_0, hcz21_1, hcz21_2, hfz21_0, hfz21_1, hfz21_2⟩ := zq3 BK330.out))
             have n0_ : Aside0 (Kd.R (Kd.int .i64) 115 (((w20.setCell ⟨gb330, 0, none⟩ (.int .i64 ((rd_T99 t326 x12_1).f0))).setCell ⟨gb330, 1, none⟩ (.int .i64 ((rd_T99 t326 x12_1).f1))).setCell ⟨gb330, 2, none⟩ (.int .i64 ((rd_T99 t326 x12_1).f2))) w0.heap.size (fun k_ => (P0_ k_ ∨ w.heap.size ≤ k_)) (.slice (some ⟨go5, 0, none⟩) x0_1.length co5) x0_1) := ⟨by (with_reducible repeat (first | apply Kd.R_alloc | apply Kd.R_drewN | apply Kd.R_drew)); exact Kd.R_mono (Kd.R_far (p := ⟨gb330, 2, none⟩) (Kd.R_far (p := ⟨gb330, 1, none⟩) (Kd.R_far (p := ⟨gb330, 0, none⟩) (Kd.R_types HO_0.out BK330.out (by decide)) (fun _ hk => hk.2) (.int .i64 ((rd_T99 t326 x12_1).f0))) (fun _ hk => hk.2) (.int .i64 ((rd_T99 t326 x12_1).f1))) (fun _ hk => hk.2) (.int .i64 ((rd_T99 t326 x12_1).f2))) (fun _ hk => hk.1)⟩
             have n1_ : Aside0 (Kd.R k99 99 (((w20.setCell ⟨gb330, 0, none⟩ (.int .i64 ((rd_T99 t326 x12_1).f0))).setCell ⟨gb330, 1, none⟩ (.int .i64 ((rd_T99 t326 x12_1).f1))).setCell ⟨gb330, 2, none⟩ (.int .i64 ((rd_T99 t326 x12_1).f2))) w0.heap.size (fun k_ => (P0_ k_ ∨ w.heap.size ≤ k_) ∧ k_ ≠ gb330) (.slice (some ad329) t326.length co7) t326) := ⟨by (with_reducible repeat (first | apply Kd.R_alloc | apply Kd.R_drewN | apply Kd.R_drew)); exact Kd.R_mono (Kd.R_far (p := ⟨gb330, 2, none⟩) (Kd.R_far (p := ⟨gb330, 1, none⟩) (Kd.R_far (p := ⟨gb330, 0, none⟩) (Kd.R_mono HO_10.out (fun k_ hk => (⟨hk, hk.2⟩ : _ ∧ k_ ≠ gb330))) (fun _ hk => hk.2) (.int .i64 ((rd_T99 t326 x12_1).f0))) (fun _ hk => hk.2) (.int .i64 ((rd_T99 t326 x12_1).f1))) (fun _ hk => hk.2) (.int .i64 ((rd_T99 t326 x12_1).f2))) (fun _ hk => ⟨hk.1.1, hk.1.2⟩)⟩
             have n2_ : Aside0 ((((w20.setCell ⟨gb330, 0, none⟩ (.int .i64 ((rd_T99 t326 x12_1).f0))).setCell ⟨gb330, 1, none⟩ (.int .i64 ((rd_T99 t326 x12_1).f1))).setCell ⟨gb330, 2, none⟩ (.int .i64 ((rd_T99 t326 x12_1).f2))).heap[gb330]? = some (.cells #[.int .i64 ((rd_T99 t326 x12_1).f0), .int .i64 ((rd_T99 t326 x12_1).f1), .int .i64 ((rd_T99 t326 x12_1).f2)] 99 (0, 0))) := ⟨zk0 BK330.out⟩
             have n3_ : Aside0 (Kept w (((w20.setCell ⟨gb330, 0, none⟩ (.int .i64 ((rd_T99 t326 x12_1).f0))).setCell ⟨gb330, 1, none⟩ (.int .i64 ((rd_T99 t326 x12_1).f1))).setCell ⟨gb330, 2, none⟩ (.int .i64 ((rd_T99 t326 x12_1).f2))) (fun k_ => P0_ k_)) := ⟨by repeat (first | (with_reducible first | exact HK.out | apply Kept.alloc | apply Kept.drewN | apply Kept.drew | refine Kept.setCell ?_ (.inr GW330.out) _) | exact HK.out)⟩
             have n4_ : Aside0 (Below w0.heap.size w0 (((w20.setCell ⟨gb330, 0, none⟩ (.int .i64 ((rd_T99 t326 x12_1).f0))).setCell ⟨gb330, 1, none⟩ (.int .i64 ((rd_T99 t326 x12_1).f1))).setCell ⟨gb330, 2, none⟩ (.int .i64 ((rd_T99 t326 x12_1).f2)))) := ⟨zG GE330.out⟩
             (try clear HO_0)
             (try clear HO_10)
             (try clear BK330)
             (try clear HK)
             (try clear HB)
             generalize (((w20.setCell ⟨gb330, 0, none⟩ (.int .i64 ((rd_T99 t326 x12_1).f0))).setCell ⟨gb330, 1, none⟩ (.int .i64 ((rd_T99 t326 x12_1).f1))).setCell ⟨gb330, 2, none⟩ (.int .i64 ((rd_T99 t326 x12_1).f2))) = w22 at n0_ n1_ n2_ n3_ n4_ ⊢
             have HO_0 := n0_
             have HO_10 := n1_
             have BK330 := n2_
             have HK := n3_
             have HB := n4_
             clear n0_ n1_ n2_ n3_ n4_
             replace HO_0 := Aside0.mk (Kd.R_drew HO_0.out)
             replace HO_10 := Aside0.mk (Kd.R_drew HO_10.out)
             replace BK330 := Aside0.mk (blk_drew BK330.out)
             replace HK := Aside0.mk (Kept.drew HK.out)
             replace HB := Aside0.mk (below_drew1 HB.out)
             have pz331_0 : 0 ≤ (((rd_T99 t326 x12_1).f0) : Int) := zA
             have pz331_1 : 0 ≤ (((rd_T99 t326 x12_1).f1) : Int) := zA
             have pz331_2 : 0 ≤ (((rd_T99 t326 x12_1).f2) : Int) := zA
             have qz331_0 : (((rd_T99 t326 x12_1).f0) : Int) < 7 := zA
             have qz331_1 : (((rd_T99 t326 x12_1).f1) : Int) < 7 := zA
             have qz331_2 : (((rd_T99 t326 x12_1).f2) : Int) < 7 := zA
             have hL331 := (zA : x0_1.length = 344)
             have dp331 : decide (0 ≤ ((1 + ((rd_T99 t326 x12_1).f0) * 49 + ((rd_T99 t326 x12_1).f1) * 7 + ((rd_T99 t326 x12_1).f2)) : Int)) = true := decide_eq_true (by omega)
             have dq331 : decide ((1 + ((rd_T99 t326 x12_1).f0) * 49 + ((rd_T99 t326 x12_1).f1) * 7 + ((rd_T99 t326 x12_1).f2)) < (x0_1.length : Int)) = true := decide_eq_true (by omega)
             clear hL331
             have p331 : 0 ≤ ((1 + ((rd_T99 t326 x12_1).f0) * 49 + ((rd_T99 t326 x12_1).f1) * 7 + ((rd_T99 t326 x12_1).f2)) : Int) := zA
             have q331 : (1 + ((rd_T99 t326 x12_1).f0) * 49 + ((rd_T99 t326 x12_1).f1) * 7 + ((rd_T99 t326 x12_1).f2)) < (x0_1.length : Int) := zA
             obtain ⟨ad331, e331, hx331_0⟩ := Kd.at_int (Kd.R_reads' HO_0.out).2.2 (1 + ((rd_T99 t326 x12_1).f0) * 49 + ((rd_T99 t326 x12_1).f1) * 7 + ((rd_T99 t326 x12_1).f2)) p331 q331
             obtain rfl : (⟨go5, 0, none⟩ : Addr) = ad331 := (by injection e331)
             (first | simp only [add_plain] at hx331_0 | simp only [add_at] at hx331_0 | simp only [Addr.add, Nat.zero_add] at hx331_0 | skip)
             replace p331 := eq_true p331
             replace q331 := eq_true q331
             have hw331_0 := hx331_0
             clear dp331 dq331
             clear p331 q331
             rw [show ((1 + ((rd_T99 t326 x12_1).f0) * 49 + ((rd_T99 t326 x12_1).f1) * 7 + ((rd_T99 t326 x12_1).f2)) : Int).toNat = 1 + (((rd_T99 t326 x12_1).f0)).toNat * 49 + (((rd_T99 t326 x12_1).f1)).toNat * 7 + (((rd_T99 t326 x12_1).f2)).toNat from by omega] at hx331_0
             change _ = some (Value.int .i64 (rd3 x0_1 ((rd_T99 t326 x12_1).f0) ((rd_T99 t326 x12_1).f1) ((rd_T99 t326 x12_1).f2))) at hx331_0
             rw [show ((1 + ((rd_T99 t326 x12_1).f0) * 49 + ((rd_T99 t326 x12_1).f1) * 7 + ((rd_T99 t326 x12_1).f2)) : Int).toNat = 1 + (((rd_T99 t326 x12_1).f0)).toNat * 49 + (((rd_T99 t326 x12_1).f1)).toNat * 7 + (((rd_T99 t326 x12_1).f2)).toNat from by omega] at hw331_0
             change _ = some (Value.int .i64 (rd3 x0_1 ((rd_T99 t326 x12_1).f0) ((rd_T99 t326 x12_1).f1) ((rd_T99 t326 x12_1).f2))) at hw331_0
             replace pz331_0 := eq_true pz331_0
             replace pz331_1 := eq_true pz331_1
             replace pz331_2 := eq_true pz331_2
             replace qz331_0 := eq_true qz331_0
             replace qz331_1 := eq_true qz331_1
             replace qz331_2 := eq_true qz331_2
             refine start_ (n := 22) (S := fun w' => w'.cell? ⟨gb330, 0, none⟩ = some (.int .i64 ((rd_T99 t326 x12_1).f0)) ∧ w'.cell? ⟨gb330, 1, none⟩ = some (.int .i64 ((rd_T99 t326 x12_1).f1)) ∧ w'.cell? ⟨gb330, 2, none⟩ = some (.int .i64 ((rd_T99 t326 x12_1).f2)) ∧ w'.cell? ⟨go5, 1 + (((rd_T99 t326 x12_1).f0)).toNat * 49 + (((rd_T99 t326 x12_1).f1)).toNat * 7 + (((rd_T99 t326 x12_1).f2)).toNat, none⟩ = some (.int .i64 (rd3 x0_1 ((rd_T99 t326 x12_1).f0) ((rd_T99 t326 x12_1).f1) ((rd_T99 t326 x12_1).f2)))) (ds := [21]) #[false, false, false, false, false, false, false, false, false, false, false, false, false, false, false, false, false, false, false, false, false, false] (by kernel_rfl) rfl rfl ⟨(blk_cell BK330.out 0).trans rfl, (blk_cell BK330.out 1).trans rfl, (blk_cell BK330.out 2).trans rfl, hx331_0⟩ (fun hHeld => ?_); refine with_tabW impl_chi_reverse.tab4 impl_chi_reverse.bits4 (fun HT_ HW_ => ?_)
             generalize w22.drew = w23 at HO_0 HO_10 BK330 HK HB hx331_0 hHeld ⊢
             refine zP 0 (some 32) rfl rfl ?_
             refine zP 1 (some 33) rfl rfl ?_
             refine zP 3 (some 35) rfl rfl ?_
             refine zP 5 (some 37) rfl rfl ?_
             refine zP 7 (some 39) rfl rfl ?_
             refine zP 8 (some 40) rfl rfl ?_
             refine zP 10 (some 42) rfl rfl ?_
             refine zP 12 (some 44) rfl rfl ?_
             refine zP 14 (some 46) rfl rfl ?_
             refine zP 15 (some 47) rfl rfl ?_
             refine zY4 2 (some 34) rfl rfl hHeld ?_
             refine zY4 4 (some 36) rfl rfl hHeld ?_
             refine zY4 6 (some 38) rfl rfl hHeld ?_
             refine zY4 9 (some 41) rfl rfl hHeld ?_
             refine zP 16 (some 48) rfl rfl ?_
             refine zY4 11 (some 43) rfl rfl hHeld ?_
             refine zP 17 (some 49) rfl rfl ?_
             refine zY4 13 (some 45) rfl rfl hHeld ?_
             refine zP 18 (some 50) rfl rfl ?_
             refine zY4 19 (some 51) rfl rfl hHeld ?_
             refine zP 20 (some 52) rfl rfl ?_
             refine last_ (i := 21) (N := some 53) #[true, true, true, true, true, true, true, true, true, true, true, true, true, true, true, true, true, true, true, true, true, true] rfl rfl (one_of HT_.out (by kernel_rfl)) (by decide) (fun K hK => ?_)
             refine goes_ Try.func142 (by kernel_rfl) rfl #[.pointer (some ⟨go5, 0, none⟩), .int .i64 ((rd_T99 t326 x12_1).f0), .int .i64 ((rd_T99 t326 x12_1).f1), .int .i64 ((rd_T99 t326 x12_1).f2), .int .i64 (wrap64 (-(rd3 x0_1 ((rd_T99 t326 x12_1).f0) ((rd_T99 t326 x12_1).f1) ((rd_T99 t326 x12_1).f2))))] (by rfl) rfl rfl zM ?_
             with_reducible refine (impl_chi_set.calls (fun k_ => some k_ = (.slice (some ⟨go5, 0, none⟩) x0_1.length co5 : Value).ownBlock) (.slice (some ⟨go5, 0, none⟩) x0_1.length co5) x0_1 ((rd_T99 t326 x12_1).f0) ((rd_T99 t326 x12_1).f1) ((rd_T99 t326 x12_1).f2) (wrap64 (-(rd3 x0_1 ((rd_T99 t326 x12_1).f0) ((rd_T99 t326 x12_1).f1) ((rd_T99 t326 x12_1).f2)))) t332 w0 _ ?side1 ?side2 A19.out).mono ?_
             (case side1 => exact (zl37_1 HB.out GE330.out))
             (case side2 => exact Kd.R_tight rfl HO_0.out)
             rintro e w26 ⟨rfl, hy0, hb, hkp⟩
             refine ⟨_, rfl, ?_⟩
             replace HO_10 := Aside0.mk (Kd.R_mono (ok' := fun k_ => (P0_ k_ ∨ w.heap.size ≤ k_) ∧ k_ ≠ gb330) (Kd.R_keptB ((Kd.R_apart' HO_10.out (Kd.R_typed HO_0.out) (by decide))) hkp (fun k_ hk_ hs_ => (hk_.2) hs_)) (fun k_ hk_ => ⟨hk_.1.1.1, hk_.1.1.2⟩))
             replace BK330 := Aside0.mk (blk_kept (zK BK330.out) hkp (fun hs_ => (fun e_ => (Kd.R_ne HO_0.out BK330.out (by decide)) e_) hs_))
             replace HK := Aside0.mk (Kept.then_ (S := (fun k_ => P0_ k_)) (by repeat (first | (with_reducible first | exact HK.out | apply Kept.alloc | apply Kept.drewN | apply Kept.drew | refine Kept.setCell ?_ (.inr GW330.out) _) | exact HK.out)) hkp (fun k_ hs_ => (fun e_ => (HO_0.out.1 k_ e_.symm)) hs_))
             replace HO_0 := Aside0.mk (Kd.R_reok rfl hy0 (fun k_ e_ => HO_0.out.1 k_ e_))
             replace HB := Aside0.mk (hb)
             (try clear hb)
             (try clear hkp)
             (try clear hy0)
             refine hK.out _ _ ?_
             clear hK K
             refine zN ?_
             refine done_ (done_of HT_.out (by kernel_rfl)) ?_
             try go_wp2
             (try simp only [← hl0_1])
             go_roundg k1
             case measure => have := HK1.out; omega
             case rel => exact ⟨(t332), (wrap64 (x12_1 + 1)), zF, H', ⟨by have := HK1.out; omega⟩, ⟨by (try simp only [hl0_1]); (with_reducible repeat (first | apply Kd.R_alloc | apply Kd.R_drewN | apply Kd.R_drew)); exact HO_0.out⟩, ⟨by (try simp only [hl0_1]); (with_reducible repeat (first | apply Kd.R_alloc | apply Kd.R_drewN | apply Kd.R_drew)); exact Kd.R_mono HO_10.out (fun _ hk => hk.1)⟩, ⟨by repeat (first | (with_reducible first | exact HK.out | apply Kept.alloc | apply Kept.drewN | apply Kept.drew | refine Kept.setCell ?_ (.inr GW330.out) _) | exact HK.out)⟩, ⟨zG GE330.out⟩⟩
            rw [if_neg c18] at H
            exact absurd H (by simp)
           rw [if_neg c17] at H
           exact absurd H (by simp)
          rw [if_neg c16] at H
          exact absurd H (by simp)
         rw [if_neg c15] at H
         exact absurd H (by simp)
        rw [if_neg c14] at H
        exact absurd H (by simp)
       rw [if_neg c13] at H
       exact absurd H (by simp)
      rw [if_neg c12] at H
      exact absurd H (by simp)
     rw [if_neg c11] at H
     have c11b0 : (((rd_T99 t326 x12_1).f0) == a1) = false := beq_eq_false_iff_ne.mpr c11
     have c11b1 : (((rd_T99 t326 x12_1).f0) != a1) = true := bne_iff_ne.mpr c11
     by_cases c27 : ((rd_T99 t326 x12_1).f1) = a1
     ·rw [if_pos c27] at H
      have c27b0 : (((rd_T99 t326 x12_1).f1) == a1) = true := beq_iff_eq.mpr c27
      have c27b1 : (((rd_T99 t326 x12_1).f1) != a1) = false := bne_eq_false_iff_eq.mpr c27
      clear c27
      by_cases c28 : x0_1.length = 344
      ·rw [if_pos c28] at H
       have c28b0 := eq_true c28
       have c28b1 : decide (x0_1.length = 344) = true := decide_eq_true c28
       clear c28
       by_cases c29 : 0 ≤ ((rd_T99 t326 x12_1).f0)
       ·rw [if_pos c29] at H
        have c29b0 : decide (0 ≤ ((rd_T99 t326 x12_1).f0)) = true := decide_eq_true c29
        clear c29
        by_cases c30 : ((rd_T99 t326 x12_1).f0) < 7
        ·rw [if_pos c30] at H
         have c30b0 : decide (((rd_T99 t326 x12_1).f0) < 7) = true := decide_eq_true c30
         clear c30
         by_cases c31 : 0 ≤ ((rd_T99 t326 x12_1).f1)
         ·rw [if_pos c31] at H
          have c31b0 : decide (0 ≤ ((rd_T99 t326 x12_1).f1)) = true := decide_eq_true c31
          clear c31
          by_cases c32 : ((rd_T99 t326 x12_1).f1) < 7
          ·rw [if_pos c32] at H
           have c32b0 : decide (((rd_T99 t326 x12_1).f1) < 7) = true := decide_eq_true c32
           clear c32
           by_cases c33 : 0 ≤ ((rd_T99 t326 x12_1).f2)
           ·rw [if_pos c33] at H
            have c33b0 : decide (0 ≤ ((rd_T99 t326 x12_1).f2)) = true := decide_eq_true c33
            clear c33
            by_cases c34 : ((rd_T99 t326 x12_1).f2) < 7
            ·rw [if_pos c34] at H
             have c34b0 : decide (((rd_T99 t326 x12_1).f2) < 7) = true := decide_eq_true c34
             clear c34
             obtain ⟨t334, A35, H⟩ := zO H
             have H' := Aside0.mk H; clear H
             have p329 : 0 ≤ (x12_1 : Int) := zA
             have q329 : x12_1 < (t326.length : Int) := zA
             obtain ⟨ad329, e329, hx329_0, hx329_1, hx329_2⟩ := at_T99 (Kd.R_reads' HO_10.out).2.2 x12_1 p329 q329
             cases e329
             replace p329 := eq_true p329
             replace q329 := eq_true q329
             try go_wp2_with (first | ((with_reducible refine gate_dst (N := 5) rfl ?_); refine zBx (N := 5) #[.int .i64 0, .int .i64 0, .int .i64 0] 99 ?_; intro gb330 hg w36 hbox hb; replace HO_0 := zW HO_0.out hb; replace HO_10 := Aside0.mk (Kd.R_below (Kd.R_elderB (zR HO_10.out) gb330 (Nat.le_of_eq hg.symm)) hb); have BK330 := Aside0.mk (hbox); have GW330 := Aside0.mk ((by rw [hg]; exact (by first | exact HK.out.1 | exact (show Kept w _ (fun k_ => P0_ k_) from (zl37_0 HK.out)).1) : w.heap.size ≤ gb330)); replace HK := Aside0.mk (Kept.below (S := (fun k_ => P0_ k_)) (zl37_0 HK.out) hb); have GE330 := Aside0.mk ((by rw [hg]; exact (below_size zB) : w0.heap.size ≤ gb330)); replace HB := zX hb; clear hb hbox hg; obtain ⟨hcz37_0, hcz37_1, hcz37_2, hfz37_0, hfz37_1, hfz37_2⟩ := zq3 BK330.out))
             have n0_ : Aside0 (Kd.R (Kd.int .i64) 115 (((w36.setCell ⟨gb330, 0, none⟩ (.int .i64 ((rd_T99 t326 x12_1).f0))).setCell ⟨gb330, 1, none⟩ (.int .i64 ((rd_T99 t326 x12_1).f1))).setCell ⟨gb330, 2, none⟩ (.int .i64 ((rd_T99 t326 x12_1).f2))) w0.heap.size (fun k_ => (P0_ k_ ∨ w.heap.size ≤ k_)) (.slice (some ⟨go5, 0, none⟩) x0_1.length co5) x0_1) := ⟨by (with_reducible repeat (first | apply Kd.R_alloc | apply Kd.R_drewN | apply Kd.R_drew)); exact Kd.R_mono (Kd.R_far (p := ⟨gb330, 2, none⟩) (Kd.R_far (p := ⟨gb330, 1, none⟩) (Kd.R_far (p := ⟨gb330, 0, none⟩) (Kd.R_types HO_0.out BK330.out (by decide)) (fun _ hk => hk.2) (.int .i64 ((rd_T99 t326 x12_1).f0))) (fun _ hk => hk.2) (.int .i64 ((rd_T99 t326 x12_1).f1))) (fun _ hk => hk.2) (.int .i64 ((rd_T99 t326 x12_1).f2))) (fun _ hk => hk.1)⟩
             have n1_ : Aside0 (Kd.R k99 99 (((w36.setCell ⟨gb330, 0, none⟩ (.int .i64 ((rd_T99 t326 x12_1).f0))).setCell ⟨gb330, 1, none⟩ (.int .i64 ((rd_T99 t326 x12_1).f1))).setCell ⟨gb330, 2, none⟩ (.int .i64 ((rd_T99 t326 x12_1).f2))) w0.heap.size (fun k_ => (P0_ k_ ∨ w.heap.size ≤ k_) ∧ k_ ≠ gb330) (.slice (some ad329) t326.length co7) t326) := ⟨by (with_reducible repeat (first | apply Kd.R_alloc | apply Kd.R_drewN | apply Kd.R_drew)); exact Kd.R_mono (Kd.R_far (p := ⟨gb330, 2, none⟩) (Kd.R_far (p := ⟨gb330, 1, none⟩) (Kd.R_far (p := ⟨gb330, 0, none⟩) (Kd.R_mono HO_10.out (fun k_ hk => (⟨hk, hk.2⟩ : _ ∧ k_ ≠ gb330))) (fun _ hk => hk.2) (.int .i64 ((rd_T99 t326 x12_1).f0))) (fun _ hk => hk.2) (.int .i64 ((rd_T99 t326 x12_1).f1))) (fun _ hk => hk.2) (.int .i64 ((rd_T99 t326 x12_1).f2))) (fun _ hk => ⟨hk.1.1, hk.1.2⟩)⟩
             have n2_ : Aside0 ((((w36.setCell ⟨gb330, 0, none⟩ (.int .i64 ((rd_T99 t326 x12_1).f0))).setCell ⟨gb330, 1, none⟩ (.int .i64 ((rd_T99 t326 x12_1).f1))).setCell ⟨gb330, 2, none⟩ (.int .i64 ((rd_T99 t326 x12_1).f2))).heap[gb330]? = some (.cells #[.int .i64 ((rd_T99 t326 x12_1).f0), .int .i64 ((rd_T99 t326 x12_1).f1), .int .i64 ((rd_T99 t326 x12_1).f2)] 99 (0, 0))) := ⟨zk0 BK330.out⟩
             have n3_ : Aside0 (Kept w (((w36.setCell ⟨gb330, 0, none⟩ (.int .i64 ((rd_T99 t326 x12_1).f0))).setCell ⟨gb330, 1, none⟩ (.int .i64 ((rd_T99 t326 x12_1).f1))).setCell ⟨gb330, 2, none⟩ (.int .i64 ((rd_T99 t326 x12_1).f2))) (fun k_ => P0_ k_)) := ⟨by repeat (first | (with_reducible first | exact HK.out | apply Kept.alloc | apply Kept.drewN | apply Kept.drew | refine Kept.setCell ?_ (.inr GW330.out) _) | exact HK.out)⟩
             have n4_ : Aside0 (Below w0.heap.size w0 (((w36.setCell ⟨gb330, 0, none⟩ (.int .i64 ((rd_T99 t326 x12_1).f0))).setCell ⟨gb330, 1, none⟩ (.int .i64 ((rd_T99 t326 x12_1).f1))).setCell ⟨gb330, 2, none⟩ (.int .i64 ((rd_T99 t326 x12_1).f2)))) := ⟨zG GE330.out⟩
             (try clear HO_0)
             (try clear HO_10)
             (try clear BK330)
             (try clear HK)
             (try clear HB)
             generalize (((w36.setCell ⟨gb330, 0, none⟩ (.int .i64 ((rd_T99 t326 x12_1).f0))).setCell ⟨gb330, 1, none⟩ (.int .i64 ((rd_T99 t326 x12_1).f1))).setCell ⟨gb330, 2, none⟩ (.int .i64 ((rd_T99 t326 x12_1).f2))) = w38 at n0_ n1_ n2_ n3_ n4_ ⊢
             have HO_0 := n0_
             have HO_10 := n1_
             have BK330 := n2_
             have HK := n3_
             have HB := n4_
             clear n0_ n1_ n2_ n3_ n4_
             replace HO_0 := Aside0.mk (Kd.R_drew HO_0.out)
             replace HO_10 := Aside0.mk (Kd.R_drew HO_10.out)
             replace BK330 := Aside0.mk (blk_drew BK330.out)
             replace HK := Aside0.mk (Kept.drew HK.out)
             replace HB := Aside0.mk (below_drew1 HB.out)
             have pz333_0 : 0 ≤ (((rd_T99 t326 x12_1).f0) : Int) := zA
             have pz333_1 : 0 ≤ (((rd_T99 t326 x12_1).f1) : Int) := zA
             have pz333_2 : 0 ≤ (((rd_T99 t326 x12_1).f2) : Int) := zA
             have qz333_0 : (((rd_T99 t326 x12_1).f0) : Int) < 7 := zA
             have qz333_1 : (((rd_T99 t326 x12_1).f1) : Int) < 7 := zA
             have qz333_2 : (((rd_T99 t326 x12_1).f2) : Int) < 7 := zA
             have hL333 := (zA : x0_1.length = 344)
             have dp333 : decide (0 ≤ ((1 + ((rd_T99 t326 x12_1).f0) * 49 + ((rd_T99 t326 x12_1).f1) * 7 + ((rd_T99 t326 x12_1).f2)) : Int)) = true := decide_eq_true (by omega)
             have dq333 : decide ((1 + ((rd_T99 t326 x12_1).f0) * 49 + ((rd_T99 t326 x12_1).f1) * 7 + ((rd_T99 t326 x12_1).f2)) < (x0_1.length : Int)) = true := decide_eq_true (by omega)
             clear hL333
             have p333 : 0 ≤ ((1 + ((rd_T99 t326 x12_1).f0) * 49 + ((rd_T99 t326 x12_1).f1) * 7 + ((rd_T99 t326 x12_1).f2)) : Int) := zA
             have q333 : (1 + ((rd_T99 t326 x12_1).f0) * 49 + ((rd_T99 t326 x12_1).f1) * 7 + ((rd_T99 t326 x12_1).f2)) < (x0_1.length : Int) := zA
             obtain ⟨ad333, e333, hx333_0⟩ := Kd.at_int (Kd.R_reads' HO_0.out).2.2 (1 + ((rd_T99 t326 x12_1).f0) * 49 + ((rd_T99 t326 x12_1).f1) * 7 + ((rd_T99 t326 x12_1).f2)) p333 q333
             obtain rfl : (⟨go5, 0, none⟩ : Addr) = ad333 := (by injection e333)
             (first | simp only [add_plain] at hx333_0 | simp only [add_at] at hx333_0 | simp only [Addr.add, Nat.zero_add] at hx333_0 | skip)
             replace p333 := eq_true p333
             replace q333 := eq_true q333
             have hw333_0 := hx333_0
             clear dp333 dq333
             clear p333 q333
             rw [show ((1 + ((rd_T99 t326 x12_1).f0) * 49 + ((rd_T99 t326 x12_1).f1) * 7 + ((rd_T99 t326 x12_1).f2)) : Int).toNat = 1 + (((rd_T99 t326 x12_1).f0)).toNat * 49 + (((rd_T99 t326 x12_1).f1)).toNat * 7 + (((rd_T99 t326 x12_1).f2)).toNat from by omega] at hx333_0
             change _ = some (Value.int .i64 (rd3 x0_1 ((rd_T99 t326 x12_1).f0) ((rd_T99 t326 x12_1).f1) ((rd_T99 t326 x12_1).f2))) at hx333_0
             rw [show ((1 + ((rd_T99 t326 x12_1).f0) * 49 + ((rd_T99 t326 x12_1).f1) * 7 + ((rd_T99 t326 x12_1).f2)) : Int).toNat = 1 + (((rd_T99 t326 x12_1).f0)).toNat * 49 + (((rd_T99 t326 x12_1).f1)).toNat * 7 + (((rd_T99 t326 x12_1).f2)).toNat from by omega] at hw333_0
             change _ = some (Value.int .i64 (rd3 x0_1 ((rd_T99 t326 x12_1).f0) ((rd_T99 t326 x12_1).f1) ((rd_T99 t326 x12_1).f2))) at hw333_0
             replace pz333_0 := eq_true pz333_0
             replace pz333_1 := eq_true pz333_1
             replace pz333_2 := eq_true pz333_2
             replace qz333_0 := eq_true qz333_0
             replace qz333_1 := eq_true qz333_1
             replace qz333_2 := eq_true qz333_2
             refine start_ (n := 22) (S := fun w' => w'.cell? ⟨gb330, 0, none⟩ = some (.int .i64 ((rd_T99 t326 x12_1).f0)) ∧ w'.cell? ⟨gb330, 1, none⟩ = some (.int .i64 ((rd_T99 t326 x12_1).f1)) ∧ w'.cell? ⟨gb330, 2, none⟩ = some (.int .i64 ((rd_T99 t326 x12_1).f2)) ∧ w'.cell? ⟨go5, 1 + (((rd_T99 t326 x12_1).f0)).toNat * 49 + (((rd_T99 t326 x12_1).f1)).toNat * 7 + (((rd_T99 t326 x12_1).f2)).toNat, none⟩ = some (.int .i64 (rd3 x0_1 ((rd_T99 t326 x12_1).f0) ((rd_T99 t326 x12_1).f1) ((rd_T99 t326 x12_1).f2)))) (ds := [21]) #[false, false, false, false, false, false, false, false, false, false, false, false, false, false, false, false, false, false, false, false, false, false] (by kernel_rfl) rfl rfl ⟨(blk_cell BK330.out 0).trans rfl, (blk_cell BK330.out 1).trans rfl, (blk_cell BK330.out 2).trans rfl, hx333_0⟩ (fun hHeld => ?_); refine with_tabW impl_chi_reverse.tab4 impl_chi_reverse.bits4 (fun HT_ HW_ => ?_)
             generalize w38.drew = w39 at HO_0 HO_10 BK330 HK HB hx333_0 hHeld ⊢
             refine zP 0 (some 32) rfl rfl ?_
             refine zP 1 (some 33) rfl rfl ?_
             refine zP 3 (some 35) rfl rfl ?_
             refine zP 5 (some 37) rfl rfl ?_
             refine zP 7 (some 39) rfl rfl ?_
             refine zP 8 (some 40) rfl rfl ?_
             refine zP 10 (some 42) rfl rfl ?_
             refine zP 12 (some 44) rfl rfl ?_
             refine zP 14 (some 46) rfl rfl ?_
             refine zP 15 (some 47) rfl rfl ?_
             refine zY4 2 (some 34) rfl rfl hHeld ?_
             refine zY4 4 (some 36) rfl rfl hHeld ?_
             refine zY4 6 (some 38) rfl rfl hHeld ?_
             refine zY4 9 (some 41) rfl rfl hHeld ?_
             refine zP 16 (some 48) rfl rfl ?_
             refine zY4 11 (some 43) rfl rfl hHeld ?_
             refine zP 17 (some 49) rfl rfl ?_
             refine zY4 13 (some 45) rfl rfl hHeld ?_
             refine zP 18 (some 50) rfl rfl ?_
             refine zY4 19 (some 51) rfl rfl hHeld ?_
             refine zP 20 (some 52) rfl rfl ?_
             refine last_ (i := 21) (N := some 53) #[true, true, true, true, true, true, true, true, true, true, true, true, true, true, true, true, true, true, true, true, true, true] rfl rfl (one_of HT_.out (by kernel_rfl)) (by decide) (fun K hK => ?_)
             refine goes_ Try.func142 (by kernel_rfl) rfl #[.pointer (some ⟨go5, 0, none⟩), .int .i64 ((rd_T99 t326 x12_1).f0), .int .i64 ((rd_T99 t326 x12_1).f1), .int .i64 ((rd_T99 t326 x12_1).f2), .int .i64 (wrap64 (-(rd3 x0_1 ((rd_T99 t326 x12_1).f0) ((rd_T99 t326 x12_1).f1) ((rd_T99 t326 x12_1).f2))))] (by rfl) rfl rfl zM ?_
             with_reducible refine (impl_chi_set.calls (fun k_ => some k_ = (.slice (some ⟨go5, 0, none⟩) x0_1.length co5 : Value).ownBlock) (.slice (some ⟨go5, 0, none⟩) x0_1.length co5) x0_1 ((rd_T99 t326 x12_1).f0) ((rd_T99 t326 x12_1).f1) ((rd_T99 t326 x12_1).f2) (wrap64 (-(rd3 x0_1 ((rd_T99 t326 x12_1).f0) ((rd_T99 t326 x12_1).f1) ((rd_T99 t326 x12_1).f2)))) t334 w0 _ ?side1 ?side2 A35.out).mono ?_
             (case side1 => exact (zl37_1 HB.out GE330.out))
             (case side2 => exact Kd.R_tight rfl HO_0.out)
             rintro e w42 ⟨rfl, hy0, hb, hkp⟩
             refine ⟨_, rfl, ?_⟩
             replace HO_10 := Aside0.mk (Kd.R_mono (ok' := fun k_ => (P0_ k_ ∨ w.heap.size ≤ k_) ∧ k_ ≠ gb330) (Kd.R_keptB ((Kd.R_apart' HO_10.out (Kd.R_typed HO_0.out) (by decide))) hkp (fun k_ hk_ hs_ => (hk_.2) hs_)) (fun k_ hk_ => ⟨hk_.1.1.1, hk_.1.1.2⟩))
             replace BK330 := Aside0.mk (blk_kept (zK BK330.out) hkp (fun hs_ => (fun e_ => (Kd.R_ne HO_0.out BK330.out (by decide)) e_) hs_))
             replace HK := Aside0.mk (Kept.then_ (S := (fun k_ => P0_ k_)) (by repeat (first | (with_reducible first | exact HK.out | apply Kept.alloc | apply Kept.drewN | apply Kept.drew | refine Kept.setCell ?_ (.inr GW330.out) _) | exact HK.out)) hkp (fun k_ hs_ => (fun e_ => (HO_0.out.1 k_ e_.symm)) hs_))
             replace HO_0 := Aside0.mk (Kd.R_reok rfl hy0 (fun k_ e_ => HO_0.out.1 k_ e_))
             replace HB := Aside0.mk (hb)
             (try clear hb)
             (try clear hkp)
             (try clear hy0)
             refine hK.out _ _ ?_
             clear hK K
             refine zN ?_
             refine done_ (done_of HT_.out (by kernel_rfl)) ?_
             try go_wp2
             (try simp only [← hl0_1])
             go_roundg k1
             case measure => have := HK1.out; omega
             case rel => exact ⟨(t334), (wrap64 (x12_1 + 1)), zF, H', ⟨by have := HK1.out; omega⟩, ⟨by (try simp only [hl0_1]); (with_reducible repeat (first | apply Kd.R_alloc | apply Kd.R_drewN | apply Kd.R_drew)); exact HO_0.out⟩, ⟨by (try simp only [hl0_1]); (with_reducible repeat (first | apply Kd.R_alloc | apply Kd.R_drewN | apply Kd.R_drew)); exact Kd.R_mono HO_10.out (fun _ hk => hk.1)⟩, ⟨by repeat (first | (with_reducible first | exact HK.out | apply Kept.alloc | apply Kept.drewN | apply Kept.drew | refine Kept.setCell ?_ (.inr GW330.out) _) | exact HK.out)⟩, ⟨zG GE330.out⟩⟩
            rw [if_neg c34] at H
            exact absurd H (by simp)
           rw [if_neg c33] at H
           exact absurd H (by simp)
          rw [if_neg c32] at H
          exact absurd H (by simp)
         rw [if_neg c31] at H
         exact absurd H (by simp)
        rw [if_neg c30] at H
        exact absurd H (by simp)
       rw [if_neg c29] at H
       exact absurd H (by simp)
      rw [if_neg c28] at H
      exact absurd H (by simp)
     rw [if_neg c27] at H
     have c27b0 : (((rd_T99 t326 x12_1).f1) == a1) = false := beq_eq_false_iff_ne.mpr c27
     have c27b1 : (((rd_T99 t326 x12_1).f1) != a1) = true := bne_iff_ne.mpr c27
     by_cases c43 : ((rd_T99 t326 x12_1).f2) = a1
     ·rw [if_pos c43] at H
      have c43b0 : (((rd_T99 t326 x12_1).f2) == a1) = true := beq_iff_eq.mpr c43
      have c43b1 : (((rd_T99 t326 x12_1).f2) != a1) = false := bne_eq_false_iff_eq.mpr c43
      clear c43
      by_cases c44 : x0_1.length = 344
      ·rw [if_pos c44] at H
       have c44b0 := eq_true c44
       have c44b1 : decide (x0_1.length = 344) = true := decide_eq_true c44
       clear c44
       by_cases c45 : 0 ≤ ((rd_T99 t326 x12_1).f0)
       ·rw [if_pos c45] at H
        have c45b0 : decide (0 ≤ ((rd_T99 t326 x12_1).f0)) = true := decide_eq_true c45
        clear c45
        by_cases c46 : ((rd_T99 t326 x12_1).f0) < 7
        ·rw [if_pos c46] at H
         have c46b0 : decide (((rd_T99 t326 x12_1).f0) < 7) = true := decide_eq_true c46
         clear c46
         by_cases c47 : 0 ≤ ((rd_T99 t326 x12_1).f1)
         ·rw [if_pos c47] at H
          have c47b0 : decide (0 ≤ ((rd_T99 t326 x12_1).f1)) = true := decide_eq_true c47
          clear c47
          by_cases c48 : ((rd_T99 t326 x12_1).f1) < 7
          ·rw [if_pos c48] at H
           have c48b0 : decide (((rd_T99 t326 x12_1).f1) < 7) = true := decide_eq_true c48
           clear c48
           by_cases c49 : 0 ≤ ((rd_T99 t326 x12_1).f2)
           ·rw [if_pos c49] at H
            have c49b0 : decide (0 ≤ ((rd_T99 t326 x12_1).f2)) = true := decide_eq_true c49
            clear c49
            by_cases c50 : ((rd_T99 t326 x12_1).f2) < 7
            ·rw [if_pos c50] at H
             have c50b0 : decide (((rd_T99 t326 x12_1).f2) < 7) = true := decide_eq_true c50
             clear c50
             obtain ⟨t336, A51, H⟩ := zO H
             have H' := Aside0.mk H; clear H
             have p329 : 0 ≤ (x12_1 : Int) := zA
             have q329 : x12_1 < (t326.length : Int) := zA
             obtain ⟨ad329, e329, hx329_0, hx329_1, hx329_2⟩ := at_T99 (Kd.R_reads' HO_10.out).2.2 x12_1 p329 q329
             cases e329
             replace p329 := eq_true p329
             replace q329 := eq_true q329
             try go_wp2_with (first | ((with_reducible refine gate_dst (N := 5) rfl ?_); refine zBx (N := 5) #[.int .i64 0, .int .i64 0, .int .i64 0] 99 ?_; intro gb330 hg w52 hbox hb; replace HO_0 := zW HO_0.out hb; replace HO_10 := Aside0.mk (Kd.R_below (Kd.R_elderB (zR HO_10.out) gb330 (Nat.le_of_eq hg.symm)) hb); have BK330 := Aside0.mk (hbox); have GW330 := Aside0.mk ((by rw [hg]; exact (by first | exact HK.out.1 | exact (show Kept w _ (fun k_ => P0_ k_) from (zl37_0 HK.out)).1) : w.heap.size ≤ gb330)); replace HK := Aside0.mk (Kept.below (S := (fun k_ => P0_ k_)) (zl37_0 HK.out) hb); have GE330 := Aside0.mk ((by rw [hg]; exact (below_size zB) : w0.heap.size ≤ gb330)); replace HB := zX hb; clear hb hbox hg; obtain ⟨hcz53_0, hcz53_1, hcz53_2, hfz53_0, hfz53_1, hfz53_2⟩ := zq3 BK330.out))
             have n0_ : Aside0 (Kd.R (Kd.int .i64) 115 (((w52.setCell ⟨gb330, 0, none⟩ (.int .i64 ((rd_T99 t326 x12_1).f0))).setCell ⟨gb330, 1, none⟩ (.int .i64 ((rd_T99 t326 x12_1).f1))).setCell ⟨gb330, 2, none⟩ (.int .i64 ((rd_T99 t326 x12_1).f2))) w0.heap.size (fun k_ => (P0_ k_ ∨ w.heap.size ≤ k_)) (.slice (some ⟨go5, 0, none⟩) x0_1.length co5) x0_1) := ⟨by (with_reducible repeat (first | apply Kd.R_alloc | apply Kd.R_drewN | apply Kd.R_drew)); exact Kd.R_mono (Kd.R_far (p := ⟨gb330, 2, none⟩) (Kd.R_far (p := ⟨gb330, 1, none⟩) (Kd.R_far (p := ⟨gb330, 0, none⟩) (Kd.R_types HO_0.out BK330.out (by decide)) (fun _ hk => hk.2) (.int .i64 ((rd_T99 t326 x12_1).f0))) (fun _ hk => hk.2) (.int .i64 ((rd_T99 t326 x12_1).f1))) (fun _ hk => hk.2) (.int .i64 ((rd_T99 t326 x12_1).f2))) (fun _ hk => hk.1)⟩
             have n1_ : Aside0 (Kd.R k99 99 (((w52.setCell ⟨gb330, 0, none⟩ (.int .i64 ((rd_T99 t326 x12_1).f0))).setCell ⟨gb330, 1, none⟩ (.int .i64 ((rd_T99 t326 x12_1).f1))).setCell ⟨gb330, 2, none⟩ (.int .i64 ((rd_T99 t326 x12_1).f2))) w0.heap.size (fun k_ => (P0_ k_ ∨ w.heap.size ≤ k_) ∧ k_ ≠ gb330) (.slice (some ad329) t326.length co7) t326) := ⟨by (with_reducible repeat (first | apply Kd.R_alloc | apply Kd.R_drewN | apply Kd.R_drew)); exact Kd.R_mono (Kd.R_far (p := ⟨gb330, 2, none⟩) (Kd.R_far (p := ⟨gb330, 1, none⟩) (Kd.R_far (p := ⟨gb330, 0, none⟩) (Kd.R_mono HO_10.out (fun k_ hk => (⟨hk, hk.2⟩ : _ ∧ k_ ≠ gb330))) (fun _ hk => hk.2) (.int .i64 ((rd_T99 t326 x12_1).f0))) (fun _ hk => hk.2) (.int .i64 ((rd_T99 t326 x12_1).f1))) (fun _ hk => hk.2) (.int .i64 ((rd_T99 t326 x12_1).f2))) (fun _ hk => ⟨hk.1.1, hk.1.2⟩)⟩
             have n2_ : Aside0 ((((w52.setCell ⟨gb330, 0, none⟩ (.int .i64 ((rd_T99 t326 x12_1).f0))).setCell ⟨gb330, 1, none⟩ (.int .i64 ((rd_T99 t326 x12_1).f1))).setCell ⟨gb330, 2, none⟩ (.int .i64 ((rd_T99 t326 x12_1).f2))).heap[gb330]? = some (.cells #[.int .i64 ((rd_T99 t326 x12_1).f0), .int .i64 ((rd_T99 t326 x12_1).f1), .int .i64 ((rd_T99 t326 x12_1).f2)] 99 (0, 0))) := ⟨zk0 BK330.out⟩
             have n3_ : Aside0 (Kept w (((w52.setCell ⟨gb330, 0, none⟩ (.int .i64 ((rd_T99 t326 x12_1).f0))).setCell ⟨gb330, 1, none⟩ (.int .i64 ((rd_T99 t326 x12_1).f1))).setCell ⟨gb330, 2, none⟩ (.int .i64 ((rd_T99 t326 x12_1).f2))) (fun k_ => P0_ k_)) := ⟨by repeat (first | (with_reducible first | exact HK.out | apply Kept.alloc | apply Kept.drewN | apply Kept.drew | refine Kept.setCell ?_ (.inr GW330.out) _) | exact HK.out)⟩
             have n4_ : Aside0 (Below w0.heap.size w0 (((w52.setCell ⟨gb330, 0, none⟩ (.int .i64 ((rd_T99 t326 x12_1).f0))).setCell ⟨gb330, 1, none⟩ (.int .i64 ((rd_T99 t326 x12_1).f1))).setCell ⟨gb330, 2, none⟩ (.int .i64 ((rd_T99 t326 x12_1).f2)))) := ⟨zG GE330.out⟩
             (try clear HO_0)
             (try clear HO_10)
             (try clear BK330)
             (try clear HK)
             (try clear HB)
             generalize (((w52.setCell ⟨gb330, 0, none⟩ (.int .i64 ((rd_T99 t326 x12_1).f0))).setCell ⟨gb330, 1, none⟩ (.int .i64 ((rd_T99 t326 x12_1).f1))).setCell ⟨gb330, 2, none⟩ (.int .i64 ((rd_T99 t326 x12_1).f2))) = w54 at n0_ n1_ n2_ n3_ n4_ ⊢
             have HO_0 := n0_
             have HO_10 := n1_
             have BK330 := n2_
             have HK := n3_
             have HB := n4_
             clear n0_ n1_ n2_ n3_ n4_
             replace HO_0 := Aside0.mk (Kd.R_drew HO_0.out)
             replace HO_10 := Aside0.mk (Kd.R_drew HO_10.out)
             replace BK330 := Aside0.mk (blk_drew BK330.out)
             replace HK := Aside0.mk (Kept.drew HK.out)
             replace HB := Aside0.mk (below_drew1 HB.out)
             have pz335_0 : 0 ≤ (((rd_T99 t326 x12_1).f0) : Int) := zA
             have pz335_1 : 0 ≤ (((rd_T99 t326 x12_1).f1) : Int) := zA
             have pz335_2 : 0 ≤ (((rd_T99 t326 x12_1).f2) : Int) := zA
             have qz335_0 : (((rd_T99 t326 x12_1).f0) : Int) < 7 := zA
             have qz335_1 : (((rd_T99 t326 x12_1).f1) : Int) < 7 := zA
             have qz335_2 : (((rd_T99 t326 x12_1).f2) : Int) < 7 := zA
             have hL335 := (zA : x0_1.length = 344)
             have dp335 : decide (0 ≤ ((1 + ((rd_T99 t326 x12_1).f0) * 49 + ((rd_T99 t326 x12_1).f1) * 7 + ((rd_T99 t326 x12_1).f2)) : Int)) = true := decide_eq_true (by omega)
             have dq335 : decide ((1 + ((rd_T99 t326 x12_1).f0) * 49 + ((rd_T99 t326 x12_1).f1) * 7 + ((rd_T99 t326 x12_1).f2)) < (x0_1.length : Int)) = true := decide_eq_true (by omega)
             clear hL335
             have p335 : 0 ≤ ((1 + ((rd_T99 t326 x12_1).f0) * 49 + ((rd_T99 t326 x12_1).f1) * 7 + ((rd_T99 t326 x12_1).f2)) : Int) := zA
             have q335 : (1 + ((rd_T99 t326 x12_1).f0) * 49 + ((rd_T99 t326 x12_1).f1) * 7 + ((rd_T99 t326 x12_1).f2)) < (x0_1.length : Int) := zA
             obtain ⟨ad335, e335, hx335_0⟩ := Kd.at_int (Kd.R_reads' HO_0.out).2.2 (1 + ((rd_T99 t326 x12_1).f0) * 49 + ((rd_T99 t326 x12_1).f1) * 7 + ((rd_T99 t326 x12_1).f2)) p335 q335
             obtain rfl : (⟨go5, 0, none⟩ : Addr) = ad335 := (by injection e335)
             (first | simp only [add_plain] at hx335_0 | simp only [add_at] at hx335_0 | simp only [Addr.add, Nat.zero_add] at hx335_0 | skip)
             replace p335 := eq_true p335
             replace q335 := eq_true q335
             have hw335_0 := hx335_0
             clear dp335 dq335
             clear p335 q335
             rw [show ((1 + ((rd_T99 t326 x12_1).f0) * 49 + ((rd_T99 t326 x12_1).f1) * 7 + ((rd_T99 t326 x12_1).f2)) : Int).toNat = 1 + (((rd_T99 t326 x12_1).f0)).toNat * 49 + (((rd_T99 t326 x12_1).f1)).toNat * 7 + (((rd_T99 t326 x12_1).f2)).toNat from by omega] at hx335_0
             change _ = some (Value.int .i64 (rd3 x0_1 ((rd_T99 t326 x12_1).f0) ((rd_T99 t326 x12_1).f1) ((rd_T99 t326 x12_1).f2))) at hx335_0
             rw [show ((1 + ((rd_T99 t326 x12_1).f0) * 49 + ((rd_T99 t326 x12_1).f1) * 7 + ((rd_T99 t326 x12_1).f2)) : Int).toNat = 1 + (((rd_T99 t326 x12_1).f0)).toNat * 49 + (((rd_T99 t326 x12_1).f1)).toNat * 7 + (((rd_T99 t326 x12_1).f2)).toNat from by omega] at hw335_0
             change _ = some (Value.int .i64 (rd3 x0_1 ((rd_T99 t326 x12_1).f0) ((rd_T99 t326 x12_1).f1) ((rd_T99 t326 x12_1).f2))) at hw335_0
             replace pz335_0 := eq_true pz335_0
             replace pz335_1 := eq_true pz335_1
             replace pz335_2 := eq_true pz335_2
             replace qz335_0 := eq_true qz335_0
             replace qz335_1 := eq_true qz335_1
             replace qz335_2 := eq_true qz335_2
             refine start_ (n := 22) (S := fun w' => w'.cell? ⟨gb330, 0, none⟩ = some (.int .i64 ((rd_T99 t326 x12_1).f0)) ∧ w'.cell? ⟨gb330, 1, none⟩ = some (.int .i64 ((rd_T99 t326 x12_1).f1)) ∧ w'.cell? ⟨gb330, 2, none⟩ = some (.int .i64 ((rd_T99 t326 x12_1).f2)) ∧ w'.cell? ⟨go5, 1 + (((rd_T99 t326 x12_1).f0)).toNat * 49 + (((rd_T99 t326 x12_1).f1)).toNat * 7 + (((rd_T99 t326 x12_1).f2)).toNat, none⟩ = some (.int .i64 (rd3 x0_1 ((rd_T99 t326 x12_1).f0) ((rd_T99 t326 x12_1).f1) ((rd_T99 t326 x12_1).f2)))) (ds := [21]) #[false, false, false, false, false, false, false, false, false, false, false, false, false, false, false, false, false, false, false, false, false, false] (by kernel_rfl) rfl rfl ⟨(blk_cell BK330.out 0).trans rfl, (blk_cell BK330.out 1).trans rfl, (blk_cell BK330.out 2).trans rfl, hx335_0⟩ (fun hHeld => ?_); refine with_tabW impl_chi_reverse.tab4 impl_chi_reverse.bits4 (fun HT_ HW_ => ?_)
             generalize w54.drew = w55 at HO_0 HO_10 BK330 HK HB hx335_0 hHeld ⊢
             refine zP 0 (some 32) rfl rfl ?_
             refine zP 1 (some 33) rfl rfl ?_
             refine zP 3 (some 35) rfl rfl ?_
             refine zP 5 (some 37) rfl rfl ?_
             refine zP 7 (some 39) rfl rfl ?_
             refine zP 8 (some 40) rfl rfl ?_
             refine zP 10 (some 42) rfl rfl ?_
             refine zP 12 (some 44) rfl rfl ?_
             refine zP 14 (some 46) rfl rfl ?_
             refine zP 15 (some 47) rfl rfl ?_
             refine zY4 2 (some 34) rfl rfl hHeld ?_
             refine zY4 4 (some 36) rfl rfl hHeld ?_
             refine zY4 6 (some 38) rfl rfl hHeld ?_
             refine zY4 9 (some 41) rfl rfl hHeld ?_
             refine zP 16 (some 48) rfl rfl ?_
             refine zY4 11 (some 43) rfl rfl hHeld ?_
             refine zP 17 (some 49) rfl rfl ?_
             refine zY4 13 (some 45) rfl rfl hHeld ?_
             refine zP 18 (some 50) rfl rfl ?_
             refine zY4 19 (some 51) rfl rfl hHeld ?_
             refine zP 20 (some 52) rfl rfl ?_
             refine last_ (i := 21) (N := some 53) #[true, true, true, true, true, true, true, true, true, true, true, true, true, true, true, true, true, true, true, true, true, true] rfl rfl (one_of HT_.out (by kernel_rfl)) (by decide) (fun K hK => ?_)
             refine goes_ Try.func142 (by kernel_rfl) rfl #[.pointer (some ⟨go5, 0, none⟩), .int .i64 ((rd_T99 t326 x12_1).f0), .int .i64 ((rd_T99 t326 x12_1).f1), .int .i64 ((rd_T99 t326 x12_1).f2), .int .i64 (wrap64 (-(rd3 x0_1 ((rd_T99 t326 x12_1).f0) ((rd_T99 t326 x12_1).f1) ((rd_T99 t326 x12_1).f2))))] (by rfl) rfl rfl zM ?_
             with_reducible refine (impl_chi_set.calls (fun k_ => some k_ = (.slice (some ⟨go5, 0, none⟩) x0_1.length co5 : Value).ownBlock) (.slice (some ⟨go5, 0, none⟩) x0_1.length co5) x0_1 ((rd_T99 t326 x12_1).f0) ((rd_T99 t326 x12_1).f1) ((rd_T99 t326 x12_1).f2) (wrap64 (-(rd3 x0_1 ((rd_T99 t326 x12_1).f0) ((rd_T99 t326 x12_1).f1) ((rd_T99 t326 x12_1).f2)))) t336 w0 _ ?side1 ?side2 A51.out).mono ?_
             (case side1 => exact (zl37_1 HB.out GE330.out))
             (case side2 => exact Kd.R_tight rfl HO_0.out)
             rintro e w58 ⟨rfl, hy0, hb, hkp⟩
             refine ⟨_, rfl, ?_⟩
             replace HO_10 := Aside0.mk (Kd.R_mono (ok' := fun k_ => (P0_ k_ ∨ w.heap.size ≤ k_) ∧ k_ ≠ gb330) (Kd.R_keptB ((Kd.R_apart' HO_10.out (Kd.R_typed HO_0.out) (by decide))) hkp (fun k_ hk_ hs_ => (hk_.2) hs_)) (fun k_ hk_ => ⟨hk_.1.1.1, hk_.1.1.2⟩))
             replace BK330 := Aside0.mk (blk_kept (zK BK330.out) hkp (fun hs_ => (fun e_ => (Kd.R_ne HO_0.out BK330.out (by decide)) e_) hs_))
             replace HK := Aside0.mk (Kept.then_ (S := (fun k_ => P0_ k_)) (by repeat (first | (with_reducible first | exact HK.out | apply Kept.alloc | apply Kept.drewN | apply Kept.drew | refine Kept.setCell ?_ (.inr GW330.out) _) | exact HK.out)) hkp (fun k_ hs_ => (fun e_ => (HO_0.out.1 k_ e_.symm)) hs_))
             replace HO_0 := Aside0.mk (Kd.R_reok rfl hy0 (fun k_ e_ => HO_0.out.1 k_ e_))
             replace HB := Aside0.mk (hb)
             (try clear hb)
             (try clear hkp)
             (try clear hy0)
             refine hK.out _ _ ?_
             clear hK K
             refine zN ?_
             refine done_ (done_of HT_.out (by kernel_rfl)) ?_
             try go_wp2
             (try simp only [← hl0_1])
             go_roundg k1
             case measure => have := HK1.out; omega
             case rel => exact ⟨(t336), (wrap64 (x12_1 + 1)), zF, H', ⟨by have := HK1.out; omega⟩, ⟨by (try simp only [hl0_1]); (with_reducible repeat (first | apply Kd.R_alloc | apply Kd.R_drewN | apply Kd.R_drew)); exact HO_0.out⟩, ⟨by (try simp only [hl0_1]); (with_reducible repeat (first | apply Kd.R_alloc | apply Kd.R_drewN | apply Kd.R_drew)); exact Kd.R_mono HO_10.out (fun _ hk => hk.1)⟩, ⟨by repeat (first | (with_reducible first | exact HK.out | apply Kept.alloc | apply Kept.drewN | apply Kept.drew | refine Kept.setCell ?_ (.inr GW330.out) _) | exact HK.out)⟩, ⟨zG GE330.out⟩⟩
            rw [if_neg c50] at H
            exact absurd H (by simp)
           rw [if_neg c49] at H
           exact absurd H (by simp)
          rw [if_neg c48] at H
          exact absurd H (by simp)
         rw [if_neg c47] at H
         exact absurd H (by simp)
        rw [if_neg c46] at H
        exact absurd H (by simp)
       rw [if_neg c45] at H
       exact absurd H (by simp)
      rw [if_neg c44] at H
      exact absurd H (by simp)
     rw [if_neg c43] at H
     have c43b0 : (((rd_T99 t326 x12_1).f2) == a1) = false := beq_eq_false_iff_ne.mpr c43
     have c43b1 : (((rd_T99 t326 x12_1).f2) != a1) = true := bne_iff_ne.mpr c43
     have H' := Aside0.mk H; clear H
     have p329 : 0 ≤ (x12_1 : Int) := zA
     have q329 : x12_1 < (t326.length : Int) := zA
     obtain ⟨ad329, e329, hx329_0, hx329_1, hx329_2⟩ := at_T99 (Kd.R_reads' HO_10.out).2.2 x12_1 p329 q329
     cases e329
     replace p329 := eq_true p329
     replace q329 := eq_true q329
     go_wp2_with (first | ((with_reducible refine gate_dst (N := 5) rfl ?_); refine zBx (N := 5) #[.int .i64 0, .int .i64 0, .int .i64 0] 99 ?_; intro gb330 hg w59 hbox hb; replace HO_0 := zW HO_0.out hb; replace HO_10 := Aside0.mk (Kd.R_below (Kd.R_elderB (zR HO_10.out) gb330 (Nat.le_of_eq hg.symm)) hb); have BK330 := Aside0.mk (hbox); have GW330 := Aside0.mk ((by rw [hg]; exact (by first | exact HK.out.1 | exact (show Kept w _ (fun k_ => P0_ k_) from (zl37_0 HK.out)).1) : w.heap.size ≤ gb330)); replace HK := Aside0.mk (Kept.below (S := (fun k_ => P0_ k_)) (zl37_0 HK.out) hb); have GE330 := Aside0.mk ((by rw [hg]; exact (below_size zB) : w0.heap.size ≤ gb330)); replace HB := zX hb; clear hb hbox hg; obtain ⟨hcz60_0, hcz60_1, hcz60_2, hfz60_0, hfz60_1, hfz60_2⟩ := zq3 BK330.out))
     (try simp only [← hl0_1])
     go_roundg k1
     case measure => have := HK1.out; omega
     case rel => exact ⟨(x0_1), (wrap64 (x12_1 + 1)), zF, H', ⟨by have := HK1.out; omega⟩, ⟨by (try simp only [hl0_1]); (with_reducible repeat (first | apply Kd.R_alloc | apply Kd.R_drewN | apply Kd.R_drew)); exact Kd.R_mono (Kd.R_far (p := ⟨gb330, 2, none⟩) (Kd.R_far (p := ⟨gb330, 1, none⟩) (Kd.R_far (p := ⟨gb330, 0, none⟩) (Kd.R_types HO_0.out BK330.out (by decide)) (fun _ hk => hk.2) (.int .i64 ((rd_T99 t326 x12_1).f0))) (fun _ hk => hk.2) (.int .i64 ((rd_T99 t326 x12_1).f1))) (fun _ hk => hk.2) (.int .i64 ((rd_T99 t326 x12_1).f2))) (fun _ hk => hk.1)⟩, ⟨by (try simp only [hl0_1]); (with_reducible repeat (first | apply Kd.R_alloc | apply Kd.R_drewN | apply Kd.R_drew)); exact Kd.R_mono (Kd.R_far (p := ⟨gb330, 2, none⟩) (Kd.R_far (p := ⟨gb330, 1, none⟩) (Kd.R_far (p := ⟨gb330, 0, none⟩) (Kd.R_mono HO_10.out (fun k_ hk => (⟨hk, hk.2⟩ : _ ∧ k_ ≠ gb330))) (fun _ hk => hk.2) (.int .i64 ((rd_T99 t326 x12_1).f0))) (fun _ hk => hk.2) (.int .i64 ((rd_T99 t326 x12_1).f1))) (fun _ hk => hk.2) (.int .i64 ((rd_T99 t326 x12_1).f2))) (fun _ hk => hk.1.1)⟩, ⟨by repeat (first | (with_reducible first | exact HK.out | apply Kept.alloc | apply Kept.drewN | apply Kept.drew | refine Kept.setCell ?_ (.inr GW330.out) _) | exact HK.out)⟩, ⟨zG GE330.out⟩⟩
    rw [if_neg c10] at H
    exact absurd H (by simp)
   rw [if_neg c9] at H
   exact absurd H (by simp)
  rw [if_neg c8] at H
  have c8b0 : decide (x12_1 < (t326.length : Int)) = false := decide_eq_false c8
  clear c8
  obtain rfl := Option.some.inj H
  go_wp2
  first | go_end0 | ((try simp only [Exit.inBlock, Exit.then]); refine bodyPost_ret (results_none rfl _ _ _) rfl ?_)
  exact ⟨zE, (by first | exact (zR HO_0.out) | (simp only [hl0_1]; exact (zR HO_0.out))), zB, (zl37_0 HK.out)⟩
 rw [if_neg c3] at H
 exact absurd H (by simp)
/-! ### impl_chi_signs: function 88 -/
def impl_chi_signs.l0 : Nat → List Int → List Int → List (S99) → Int → Int → Option (Int × ByteArray)
 | 0, _, _, _, _, _ => none
 | k + 1, x0, x3, x10, x11, x12 => if x12 < x11 then (if 0 ≤ x12 then (if x12 < (x10.length : Int) then (if 0 ≤ ((rd_T99 x10 x12).f0) then (if ((rd_T99 x10 x12).f0) < 7 then (if 0 ≤ ((rd_T99 x10 x12).f1) then (if ((rd_T99 x10 x12).f1) < 7 then (if 0 ≤ ((rd_T99 x10 x12).f2) then (if ((rd_T99 x10 x12).f2) < 7 then (if (rd3 x0 ((rd_T99 x10 x12).f0) ((rd_T99 x10 x12).f1) ((rd_T99 x10 x12).f2)) > 0 then (if x3.length < 140737488355328 then (impl_chi_signs.l0 k x0 (x3 ++ [43]) x10 x11 (wrap64 (x12 + 1))) else (none)) else (if x3.length < 140737488355328 then (impl_chi_signs.l0 k x0 (x3 ++ [45]) x10 x11 (wrap64 (x12 + 1))) else (none))) else (none)) else (none)) else (none)) else (none)) else (none)) else (none)) else (none)) else (none)) else (some (rd x0 0, strOfNums x3))
def impl_chi_signs.f (k : Nat) (l0 : List Int) : Option (Int × ByteArray) := (impl_triplesOf.f k (rd l0 0)).bind fun t339 => (impl_chi_signs.l0 k l0 ([] : List Int) t339 (t339.length : Int) 0)
def impl_chi_signs.T5 : Bool × List (List Nat × List Nat) := (true, [([], []), ([], []), ([1], [1]), ([], []), ([3], [3]), ([], []), ([5], [5]), ([0], [0]), ([7], [7]), ([8, 2], [2, 8]), ([9, 4], [4, 9]), ([10, 6], [6, 10]), ([11], [11]), ([12], [12])])
def impl_chi_signs.B5 : List Nat := [0, 0, 2, 0, 8, 0, 32, 1, 129, 391, 927, 2047, 4095, 8191]
theorem impl_chi_signs.tab5 : rtab .any (opsOf Try.f88 5) = impl_chi_signs.T5 := by kernel_rfl
theorem impl_chi_signs.bits5 : waitsOk impl_chi_signs.T5.2 impl_chi_signs.B5 = true := by kernel_rfl
def impl_chi_signs.T9 : Bool × List (List Nat × List Nat) := (true, [([], []), ([0], [0]), ([1], [1]), ([2], [2]), ([], []), ([4], [4]), ([3, 5], [3, 5]), ([6, 0, 1, 2, 3, 4, 5, 6], [6])])
def impl_chi_signs.B9 : List Nat := [0, 1, 3, 7, 0, 16, 63, 127]
theorem impl_chi_signs.tab9 : rtab .any (opsOf Try.f88 9) = impl_chi_signs.T9 := by kernel_rfl
theorem impl_chi_signs.bits9 : waitsOk impl_chi_signs.T9.2 impl_chi_signs.B9 = true := by kernel_rfl
set_option maxHeartbeats 8000000 in
set_option maxRecDepth 100000 in
theorem impl_chi_signs.calls (k : Nat) (g0 : Nat) (l0 : List Int) (r1 : Int) (r2 : ByteArray) (w : World) (hr0 : Kd.C (Kd.int .i64) w (some ⟨g0, 0, none⟩) l0.length l0) (hc0 : l0.length = 344) (h : impl_chi_signs.f k l0 = some (r1, r2)) :
  Calls Try.prog 88 #[.pointer (some ⟨g0, 0, none⟩)] w fun e w' => e = .returned (.agg #[.int .i64 r1, .string r2]) ∧ Below w.heap.size w w' := by
 have hu25 := Try.underlying25
 have hu99 := Try.underlying99
 have hu115 := Try.underlying115
 have hu113 := Try.underlying113
 have hu112 := Try.underlying112
 have hu111 := Try.underlying111
 have HR0 := Aside0.mk hr0
 have HC0 := Aside0.mk hc0
 clear hr0 hc0
 have HB := Aside0.mk (Below.refl w.heap.size w)
 have H : ((impl_triplesOf.f k (rd l0 0)).bind fun t339 => (impl_chi_signs.l0 k l0 ([] : List Int) t339 (t339.length : Int) 0)) = some (r1, r2) := h
 clear h
 obtain ⟨t339, A2, H⟩ := zO H
 have H' := Aside0.mk H; clear H
 go_enter Try.func88, Try.ntmps88
 go_wp2_with (first | ((with_reducible refine gate_dst (N := 2) rfl ?_); refine zBx (N := 2) #[.int .i64 0, .string (⟨#[]⟩ : ByteArray)] 25 ?_; intro gb337 hg w3 hbox hb; have BK337 := Aside0.mk (hbox); have GW337 := zS hg; have GE337 := zS hg; replace HB := zX hb; clear hb hbox hg; have hL338 := HC0.out; have dq338 : decide (0 < (l0.length : Int)) = true := decide_eq_true (by omega); clear hL338; have p338 : 0 ≤ (0 : Int) := (by omega); have q338 : 0 < (l0.length : Int) := zA; obtain ⟨ad338, e338, hx338_0⟩ := Kd.at_int HR0.out 0 p338 q338; obtain rfl : (⟨g0, 0, none⟩ : Addr) = ad338 := (by injection e338); (first | simp only [add_plain] at hx338_0 | simp only [add_at] at hx338_0 | simp only [Addr.add, Nat.zero_add] at hx338_0 | skip); have qi338 : (0 < l0.length) = True := eq_true (by omega); (try rw [show ((0 : Int)).toNat = 0 from rfl] at hx338_0); (try rw [Addr.add_zero'] at hx338_0); replace hx338_0 := (HB.out.cell (World.block_lt_of_cell? w _ hx338_0)).trans hx338_0; replace p338 := eq_true p338; replace q338 := eq_true q338; clear dq338) | ((with_reducible refine gate_callee (f := 118) rfl ?_); refine zD (some 10) Try.func118 #[.int .i64 (rd l0 0)] ?_; (with_reducible refine (impl_triplesOf.calls k (rd l0 0) t339 _ A2.out).mono ?_); rintro e w4 ⟨v340, rfl, ho0, hb⟩; refine ⟨_, rfl, ?_⟩; have HO341 := Aside0.mk (Kd.R_lower ho0 (below_size (zG GE337.out))); replace BK337 := zV BK337.out hb; replace HB := zX1 GE337.out hb; (try clear hb); (try clear ho0); obtain ⟨Ao5, co5, eo5⟩ := Kd.R_slice HO341.out; subst eo5))
 go_loopg [3, 12] k (fun kq v3 v12 w' => ∃ (x3_1 : List Int) (x12_1 : Int), v12 = .int .i64 x12_1 ∧ Aside0 (impl_chi_signs.l0 kq l0 x3_1 t339 (t339.length : Int) x12_1 = some (r1, r2)) ∧ Aside0 (kq ≤ k) ∧ Aside0 (Kd.R (Kd.int .u8) 5 w' w.heap.size (fun _ => True) v3 x3_1) ∧ Aside0 (Kd.R k99 99 w' w.heap.size (fun _ => True) (.slice Ao5 t339.length co5) t339) ∧ Aside0 (w'.heap[gb337]? = some (.cells #[.int .i64 0, .string (⟨#[]⟩ : ByteArray)] 25 (0, 0))) ∧ Aside0 (Below w.heap.size w w'))
 case atStart => exact ⟨(([] : List Int)), (0), zF, H', ⟨Nat.le_refl _⟩, ⟨by first | exact Kd.R_nil _ _ _ _ _ | exact Kd.N_nil _ _ _ _ _ | exact Kd.V_nil _ _ _ _ _ | exact Kd.Q_nil _ _ _ _ _ | exact Kd.S_nil _ _ _ _ _⟩, ⟨zR HO341.out⟩, ⟨zK BK337.out⟩, ⟨zG GE337.out⟩⟩
 case round =>
 clear H'
 try clear hx338_0
 try clear p338
 try clear q338
 obtain ⟨x3_1, x12_1, rfl, HA, HK1, HO_3, HO_10, BK337, HB⟩ := hrel
 cases gk with
 | zero => exact absurd HA.out (by simp [impl_chi_signs.l0])
 | succ k1 =>
 have H := HA.out
 clear HA
 simp only [impl_chi_signs.l0] at H
 by_cases c6 : x12_1 < (t339.length : Int)
 ·rw [if_pos c6] at H
  have c6b0 : decide (x12_1 < (t339.length : Int)) = true := decide_eq_true c6
  clear c6
  by_cases c7 : 0 ≤ x12_1
  ·rw [if_pos c7] at H
   have c7b0 : decide (0 ≤ x12_1) = true := decide_eq_true c7
   clear c7
   by_cases c8 : x12_1 < (t339.length : Int)
   ·rw [if_pos c8] at H
    have c8b0 : decide (x12_1 < (t339.length : Int)) = true := decide_eq_true c8
    clear c8
    by_cases c9 : 0 ≤ ((rd_T99 t339 x12_1).f0)
    ·rw [if_pos c9] at H
     have c9b0 : decide (0 ≤ ((rd_T99 t339 x12_1).f0)) = true := decide_eq_true c9
     clear c9
     by_cases c10 : ((rd_T99 t339 x12_1).f0) < 7
     ·rw [if_pos c10] at H
      have c10b0 : decide (((rd_T99 t339 x12_1).f0) < 7) = true := decide_eq_true c10
      clear c10
      by_cases c11 : 0 ≤ ((rd_T99 t339 x12_1).f1)
      ·rw [if_pos c11] at H
       have c11b0 : decide (0 ≤ ((rd_T99 t339 x12_1).f1)) = true := decide_eq_true c11
       clear c11
       by_cases c12 : ((rd_T99 t339 x12_1).f1) < 7
       ·rw [if_pos c12] at H
        have c12b0 : decide (((rd_T99 t339 x12_1).f1) < 7) = true := decide_eq_true c12
        clear c12
        by_cases c13 : 0 ≤ ((rd_T99 t339 x12_1).f2)
        ·rw [if_pos c13] at H
         have c13b0 : decide (0 ≤ ((rd_T99 t339 x12_1).f2)) = true := decide_eq_true c13
         clear c13
         by_cases c14 : ((rd_T99 t339 x12_1).f2) < 7
         ·rw [if_pos c14] at H
          have c14b0 : decide (((rd_T99 t339 x12_1).f2) < 7) = true := decide_eq_true c14
          clear c14
          by_cases c15 : (rd3 l0 ((rd_T99 t339 x12_1).f0) ((rd_T99 t339 x12_1).f1) ((rd_T99 t339 x12_1).f2)) > 0
          ·rw [if_pos c15] at H
           have c15b0 : decide (0 < (rd3 l0 ((rd_T99 t339 x12_1).f0) ((rd_T99 t339 x12_1).f1) ((rd_T99 t339 x12_1).f2))) = true := decide_eq_true c15
           clear c15
           by_cases c16 : x3_1.length < 140737488355328
           ·rw [if_pos c16] at H
            have LMc16 := Aside0.mk c16
            clear c16
            obtain ⟨y345, hy345⟩ : ∃ y_ : List Int, y_ = (x3_1 ++ [43]) := ⟨_, rfl⟩
            replace H : (impl_chi_signs.l0 k1 l0 y345 t339 (t339.length : Int) (wrap64 (x12_1 + 1))) = some (r1, r2) := by first | (rw [hy345]; with_reducible exact H) | (have H2_ := (Option.bind_some _ _).symm.trans H; rw [hy345]; with_reducible exact H2_) | (have H2_ := (Option.bind_some _ _).symm.trans H; with_reducible exact H2_) | with_reducible exact H | (rw [hy345]; exact H) | exact H
            have Ny345 := Aside0.mk hy345
            clear hy345
            have H' := Aside0.mk H; clear H
            have p342 : 0 ≤ (x12_1 : Int) := zA
            have q342 : x12_1 < (t339.length : Int) := zA
            obtain ⟨ad342, e342, hx342_0, hx342_1, hx342_2⟩ := at_T99 (Kd.R_reads' HO_10.out).2.2 x12_1 p342 q342
            cases e342
            replace p342 := eq_true p342
            replace q342 := eq_true q342
            try go_wp2_with (first | ((with_reducible refine gate_dst (N := 5) rfl ?_); refine zBx (N := 5) #[.int .i64 0, .int .i64 0, .int .i64 0] 99 ?_; intro gb343 hg w17 hbox hb; replace HO_3 := zW HO_3.out hb; replace HO_10 := Aside0.mk (Kd.R_below (Kd.R_elderB (zR HO_10.out) gb343 (Nat.le_of_eq hg.symm)) hb); have BK343 := Aside0.mk (hbox); have GW343 := zSg hg (zG GE337.out); have GE343 := zSg hg (zG GE337.out); have NB337_343 := zL hg BK337.out; have NB343_337 := zLg hg BK337.out; replace BK337 := zV BK337.out hb; replace HB := zX1 GE337.out hb; clear hb hbox hg; have hnb18 := NB343_337.out; have hnc18 := NB337_343.out; obtain ⟨hcz19_0, hcz19_1, hcz19_2, hfz19_0, hfz19_1, hfz19_2⟩ := zq3 BK343.out))
            have n0_ : Aside0 (Kd.R (Kd.int .u8) 5 (((w17.setCell ⟨gb343, 0, none⟩ (.int .i64 ((rd_T99 t339 x12_1).f0))).setCell ⟨gb343, 1, none⟩ (.int .i64 ((rd_T99 t339 x12_1).f1))).setCell ⟨gb343, 2, none⟩ (.int .i64 ((rd_T99 t339 x12_1).f2))) w.heap.size (fun _ => True) u3 x3_1) := ⟨by (with_reducible repeat (first | apply Kd.R_alloc | apply Kd.R_drewN | apply Kd.R_drew)); exact Kd.R_mono (Kd.R_far (p := ⟨gb343, 2, none⟩) (Kd.R_far (p := ⟨gb343, 1, none⟩) (Kd.R_far (p := ⟨gb343, 0, none⟩) (Kd.R_types HO_3.out BK343.out (by decide)) (fun _ hk => hk.2) (.int .i64 ((rd_T99 t339 x12_1).f0))) (fun _ hk => hk.2) (.int .i64 ((rd_T99 t339 x12_1).f1))) (fun _ hk => hk.2) (.int .i64 ((rd_T99 t339 x12_1).f2))) (fun _ hk => trivial)⟩
            have n1_ : Aside0 (Kd.R k99 99 (((w17.setCell ⟨gb343, 0, none⟩ (.int .i64 ((rd_T99 t339 x12_1).f0))).setCell ⟨gb343, 1, none⟩ (.int .i64 ((rd_T99 t339 x12_1).f1))).setCell ⟨gb343, 2, none⟩ (.int .i64 ((rd_T99 t339 x12_1).f2))) w.heap.size (fun k_ => k_ ≠ gb343) (.slice (some ad342) t339.length co5) t339) := ⟨by (with_reducible repeat (first | apply Kd.R_alloc | apply Kd.R_drewN | apply Kd.R_drew)); exact Kd.R_mono (Kd.R_far (p := ⟨gb343, 2, none⟩) (Kd.R_far (p := ⟨gb343, 1, none⟩) (Kd.R_far (p := ⟨gb343, 0, none⟩) (Kd.R_mono HO_10.out (fun k_ hk => (⟨hk, hk.2⟩ : _ ∧ k_ ≠ gb343))) (fun _ hk => hk.2) (.int .i64 ((rd_T99 t339 x12_1).f0))) (fun _ hk => hk.2) (.int .i64 ((rd_T99 t339 x12_1).f1))) (fun _ hk => hk.2) (.int .i64 ((rd_T99 t339 x12_1).f2))) (fun _ hk => hk.1.2)⟩
            have n2_ : Aside0 ((((w17.setCell ⟨gb343, 0, none⟩ (.int .i64 ((rd_T99 t339 x12_1).f0))).setCell ⟨gb343, 1, none⟩ (.int .i64 ((rd_T99 t339 x12_1).f1))).setCell ⟨gb343, 2, none⟩ (.int .i64 ((rd_T99 t339 x12_1).f2))).heap[gb337]? = some (.cells #[.int .i64 0, .string (⟨#[]⟩ : ByteArray)] 25 (0, 0))) := ⟨zk3 BK337.out NB337_343.out NB337_343.out NB337_343.out⟩
            have n3_ : Aside0 ((((w17.setCell ⟨gb343, 0, none⟩ (.int .i64 ((rd_T99 t339 x12_1).f0))).setCell ⟨gb343, 1, none⟩ (.int .i64 ((rd_T99 t339 x12_1).f1))).setCell ⟨gb343, 2, none⟩ (.int .i64 ((rd_T99 t339 x12_1).f2))).heap[gb343]? = some (.cells #[.int .i64 ((rd_T99 t339 x12_1).f0), .int .i64 ((rd_T99 t339 x12_1).f1), .int .i64 ((rd_T99 t339 x12_1).f2)] 99 (0, 0))) := ⟨zk0 BK343.out⟩
            have n4_ : Aside0 (Below w.heap.size w (((w17.setCell ⟨gb343, 0, none⟩ (.int .i64 ((rd_T99 t339 x12_1).f0))).setCell ⟨gb343, 1, none⟩ (.int .i64 ((rd_T99 t339 x12_1).f1))).setCell ⟨gb343, 2, none⟩ (.int .i64 ((rd_T99 t339 x12_1).f2)))) := ⟨zG2 GE337.out GE343.out⟩
            (try clear HO_3)
            (try clear HO_10)
            (try clear BK337)
            (try clear BK343)
            (try clear HB)
            generalize (((w17.setCell ⟨gb343, 0, none⟩ (.int .i64 ((rd_T99 t339 x12_1).f0))).setCell ⟨gb343, 1, none⟩ (.int .i64 ((rd_T99 t339 x12_1).f1))).setCell ⟨gb343, 2, none⟩ (.int .i64 ((rd_T99 t339 x12_1).f2))) = w20 at n0_ n1_ n2_ n3_ n4_ ⊢
            have HO_3 := n0_
            have HO_10 := n1_
            have BK337 := n2_
            have BK343 := n3_
            have HB := n4_
            clear n0_ n1_ n2_ n3_ n4_
            replace HO_3 := Aside0.mk (Kd.R_drew HO_3.out)
            replace HO_10 := Aside0.mk (Kd.R_drew HO_10.out)
            replace BK337 := Aside0.mk (blk_drew BK337.out)
            replace BK343 := Aside0.mk (blk_drew BK343.out)
            replace HB := Aside0.mk (below_drew1 HB.out)
            have pz344_0 : 0 ≤ (((rd_T99 t339 x12_1).f0) : Int) := zA
            have pz344_1 : 0 ≤ (((rd_T99 t339 x12_1).f1) : Int) := zA
            have pz344_2 : 0 ≤ (((rd_T99 t339 x12_1).f2) : Int) := zA
            have qz344_0 : (((rd_T99 t339 x12_1).f0) : Int) < 7 := zA
            have qz344_1 : (((rd_T99 t339 x12_1).f1) : Int) < 7 := zA
            have qz344_2 : (((rd_T99 t339 x12_1).f2) : Int) < 7 := zA
            have hL344 := HC0.out
            have dp344 : decide (0 ≤ ((1 + ((rd_T99 t339 x12_1).f0) * 49 + ((rd_T99 t339 x12_1).f1) * 7 + ((rd_T99 t339 x12_1).f2)) : Int)) = true := decide_eq_true (by omega)
            have dq344 : decide ((1 + ((rd_T99 t339 x12_1).f0) * 49 + ((rd_T99 t339 x12_1).f1) * 7 + ((rd_T99 t339 x12_1).f2)) < (l0.length : Int)) = true := decide_eq_true (by omega)
            clear hL344
            have p344 : 0 ≤ ((1 + ((rd_T99 t339 x12_1).f0) * 49 + ((rd_T99 t339 x12_1).f1) * 7 + ((rd_T99 t339 x12_1).f2)) : Int) := zA
            have q344 : (1 + ((rd_T99 t339 x12_1).f0) * 49 + ((rd_T99 t339 x12_1).f1) * 7 + ((rd_T99 t339 x12_1).f2)) < (l0.length : Int) := zA
            obtain ⟨ad344, e344, hx344_0⟩ := Kd.at_int HR0.out (1 + ((rd_T99 t339 x12_1).f0) * 49 + ((rd_T99 t339 x12_1).f1) * 7 + ((rd_T99 t339 x12_1).f2)) p344 q344
            obtain rfl : (⟨g0, 0, none⟩ : Addr) = ad344 := (by injection e344)
            (first | simp only [add_plain] at hx344_0 | simp only [add_at] at hx344_0 | simp only [Addr.add, Nat.zero_add] at hx344_0 | skip)
            replace hx344_0 := (HB.out.cell (World.block_lt_of_cell? w _ hx344_0)).trans hx344_0
            replace p344 := eq_true p344
            replace q344 := eq_true q344
            clear dp344 dq344
            clear p344 q344
            rw [show ((1 + ((rd_T99 t339 x12_1).f0) * 49 + ((rd_T99 t339 x12_1).f1) * 7 + ((rd_T99 t339 x12_1).f2)) : Int).toNat = 1 + (((rd_T99 t339 x12_1).f0)).toNat * 49 + (((rd_T99 t339 x12_1).f1)).toNat * 7 + (((rd_T99 t339 x12_1).f2)).toNat from by omega] at hx344_0
            change _ = some (Value.int .i64 (rd3 l0 ((rd_T99 t339 x12_1).f0) ((rd_T99 t339 x12_1).f1) ((rd_T99 t339 x12_1).f2))) at hx344_0
            replace pz344_0 := eq_true pz344_0
            replace pz344_1 := eq_true pz344_1
            replace pz344_2 := eq_true pz344_2
            replace qz344_0 := eq_true qz344_0
            replace qz344_1 := eq_true qz344_1
            replace qz344_2 := eq_true qz344_2
            refine start_ (n := 14) (S := fun w' => w'.cell? ⟨gb343, 0, none⟩ = some (.int .i64 ((rd_T99 t339 x12_1).f0)) ∧ w'.cell? ⟨gb343, 1, none⟩ = some (.int .i64 ((rd_T99 t339 x12_1).f1)) ∧ w'.cell? ⟨gb343, 2, none⟩ = some (.int .i64 ((rd_T99 t339 x12_1).f2)) ∧ w'.cell? ⟨g0, 1 + ((rd_T99 t339 x12_1).f0).toNat * 49 + ((rd_T99 t339 x12_1).f1).toNat * 7 + ((rd_T99 t339 x12_1).f2).toNat, none⟩ = some (.int .i64 (rd3 l0 ((rd_T99 t339 x12_1).f0) ((rd_T99 t339 x12_1).f1) ((rd_T99 t339 x12_1).f2)))) (ds := []) #[false, false, false, false, false, false, false, false, false, false, false, false, false, false] (by kernel_rfl) rfl rfl ⟨(blk_cell BK343.out 0).trans rfl, (blk_cell BK343.out 1).trans rfl, (blk_cell BK343.out 2).trans rfl, hx344_0⟩ (fun hHeld => ?_); refine with_tabW impl_chi_signs.tab5 impl_chi_signs.bits5 (fun HT_ HW_ => ?_)
            generalize w20.drew = w21 at HO_3 HO_10 BK337 BK343 HB hx344_0 hHeld ⊢
            refine zP 0 (some 16) rfl rfl ?_
            refine zP 1 (some 17) rfl rfl ?_
            refine zP 3 (some 19) rfl rfl ?_
            refine zP 5 (some 21) rfl rfl ?_
            refine zP 7 (some 23) rfl rfl ?_
            refine zP 8 (some 24) rfl rfl ?_
            refine zY4 2 (some 18) rfl rfl hHeld ?_
            refine zP 9 (some 25) rfl rfl ?_
            refine zY4 4 (some 20) rfl rfl hHeld ?_
            refine zP 10 (some 26) rfl rfl ?_
            refine zY4 6 (some 22) rfl rfl hHeld ?_
            refine zP 11 (some 27) rfl rfl ?_
            refine zY4 12 (some 28) rfl rfl hHeld ?_
            refine zP 13 (some 29) rfl rfl ?_
            refine done_ (done_of HT_.out (by kernel_rfl)) ?_
            try go_wp2_with (first | ((with_reducible refine gate_builtin (b := .append) (xs := #[.tmp 30, .tmp 31]) rfl ?_); at_builtin; refine Kd.R_append (Kd.int .u8) (w0 := w) w.heap.size rfl (.tmp 30) (.tmp 31) 22 5 (.int .u8 0) 1 rfl Try.underlying22 info5 rfl (by decide) (by omega) u3 x3_1 43 [.int .u8 43] (fun _ => True) (fun _ => False) rfl rfl ?aP (fun _ hk => hk.elim) ?aF ?aO ?aB ?aS ?aL ?_; (case aP => exact rfl); (case aB => exact (zG2 GE337.out GE343.out)); (case aF => exact (fun _ _ => trivial)); (case aO => exact (zR HO_3.out)); (case aS => exact (below_size (zG2 GE337.out GE343.out))); (case aL => have := LMc16.out; omega); intro v346 w22 ho hb hg hat; rw [← Ny345.out] at ho; have n0_ := Aside0.mk (Kd.R_over' (zR HO_10.out) (Kd.R_typed (zR HO_3.out)) (by decide) hg); have n1_ := Aside0.mk (blk_grown (g := gb337) (o := .cells #[.int .i64 0, .string (⟨#[]⟩ : ByteArray)] 25 (0, 0)) (zK BK337.out) hg (Kd.R_ne HO_3.out BK337.out (by decide))); have n2_ := Aside0.mk (blk_grown (g := gb343) (o := .cells #[.int .i64 ((rd_T99 t339 x12_1).f0), .int .i64 ((rd_T99 t339 x12_1).f1), .int .i64 ((rd_T99 t339 x12_1).f2)] 99 (0, 0)) (zK BK343.out) hg (Kd.R_ne HO_3.out BK343.out (by decide))); have n3_ := Aside0.mk (hb); have n4_ := Aside0.mk (ho); clear HO_10; clear BK337; clear BK343; clear HB; clear HO_3; have HO_10 := n0_; have BK337 := n1_; have BK343 := n2_; have HB := n3_; have HO347 := n4_; clear n0_ n1_ n2_ n3_ n4_; clear ho hb hg hat))
            refine Handed.intro k1 ?measure ?_
            rotate_left
            go_step
            (repeat apply Exists.intro)
            refine ⟨?rel, ?fr⟩
            case fr => with_reducible rfl
            case measure => have := HK1.out; omega
            case rel => exact ⟨(y345), (wrap64 (x12_1 + 1)), zF, H', ⟨by have := HK1.out; omega⟩, ⟨zR HO347.out⟩, ⟨by (with_reducible repeat (first | apply Kd.R_alloc | apply Kd.R_drewN | apply Kd.R_drew)); exact Kd.R_mono HO_10.out (fun _ hk => trivial)⟩, ⟨zK BK337.out⟩, ⟨zG2 GE337.out GE343.out⟩⟩
           rw [if_neg c16] at H
           exact absurd H (by simp)
          rw [if_neg c15] at H
          have c15b0 : decide (0 < (rd3 l0 ((rd_T99 t339 x12_1).f0) ((rd_T99 t339 x12_1).f1) ((rd_T99 t339 x12_1).f2))) = false := decide_eq_false c15
          clear c15
          by_cases c23 : x3_1.length < 140737488355328
          ·rw [if_pos c23] at H
           have LMc23 := Aside0.mk c23
           clear c23
           obtain ⟨y348, hy348⟩ : ∃ y_ : List Int, y_ = (x3_1 ++ [45]) := ⟨_, rfl⟩
           replace H : (impl_chi_signs.l0 k1 l0 y348 t339 (t339.length : Int) (wrap64 (x12_1 + 1))) = some (r1, r2) := by first | (rw [hy348]; with_reducible exact H) | (have H2_ := (Option.bind_some _ _).symm.trans H; rw [hy348]; with_reducible exact H2_) | (have H2_ := (Option.bind_some _ _).symm.trans H; with_reducible exact H2_) | with_reducible exact H | (rw [hy348]; exact H) | exact H
           have Ny348 := Aside0.mk hy348
           clear hy348
           have H' := Aside0.mk H; clear H
           have p342 : 0 ≤ (x12_1 : Int) := zA
           have q342 : x12_1 < (t339.length : Int) := zA
           obtain ⟨ad342, e342, hx342_0, hx342_1, hx342_2⟩ := at_T99 (Kd.R_reads' HO_10.out).2.2 x12_1 p342 q342
           cases e342
           replace p342 := eq_true p342
           replace q342 := eq_true q342
           try go_wp2_with (first | ((with_reducible refine gate_dst (N := 5) rfl ?_); refine zBx (N := 5) #[.int .i64 0, .int .i64 0, .int .i64 0] 99 ?_; intro gb343 hg w24 hbox hb; replace HO_3 := zW HO_3.out hb; replace HO_10 := Aside0.mk (Kd.R_below (Kd.R_elderB (zR HO_10.out) gb343 (Nat.le_of_eq hg.symm)) hb); have BK343 := Aside0.mk (hbox); have GW343 := zSg hg (zG GE337.out); have GE343 := zSg hg (zG GE337.out); have NB337_343 := zL hg BK337.out; have NB343_337 := zLg hg BK337.out; replace BK337 := zV BK337.out hb; replace HB := zX1 GE337.out hb; clear hb hbox hg; have hnb25 := NB343_337.out; have hnc25 := NB337_343.out; obtain ⟨hcz26_0, hcz26_1, hcz26_2, hfz26_0, hfz26_1, hfz26_2⟩ := zq3 BK343.out))
           have n0_ : Aside0 (Kd.R (Kd.int .u8) 5 (((w24.setCell ⟨gb343, 0, none⟩ (.int .i64 ((rd_T99 t339 x12_1).f0))).setCell ⟨gb343, 1, none⟩ (.int .i64 ((rd_T99 t339 x12_1).f1))).setCell ⟨gb343, 2, none⟩ (.int .i64 ((rd_T99 t339 x12_1).f2))) w.heap.size (fun _ => True) u3 x3_1) := ⟨by (with_reducible repeat (first | apply Kd.R_alloc | apply Kd.R_drewN | apply Kd.R_drew)); exact Kd.R_mono (Kd.R_far (p := ⟨gb343, 2, none⟩) (Kd.R_far (p := ⟨gb343, 1, none⟩) (Kd.R_far (p := ⟨gb343, 0, none⟩) (Kd.R_types HO_3.out BK343.out (by decide)) (fun _ hk => hk.2) (.int .i64 ((rd_T99 t339 x12_1).f0))) (fun _ hk => hk.2) (.int .i64 ((rd_T99 t339 x12_1).f1))) (fun _ hk => hk.2) (.int .i64 ((rd_T99 t339 x12_1).f2))) (fun _ hk => trivial)⟩
           have n1_ : Aside0 (Kd.R k99 99 (((w24.setCell ⟨gb343, 0, none⟩ (.int .i64 ((rd_T99 t339 x12_1).f0))).setCell ⟨gb343, 1, none⟩ (.int .i64 ((rd_T99 t339 x12_1).f1))).setCell ⟨gb343, 2, none⟩ (.int .i64 ((rd_T99 t339 x12_1).f2))) w.heap.size (fun k_ => k_ ≠ gb343) (.slice (some ad342) t339.length co5) t339) := ⟨by (with_reducible repeat (first | apply Kd.R_alloc | apply Kd.R_drewN | apply Kd.R_drew)); exact Kd.R_mono (Kd.R_far (p := ⟨gb343, 2, none⟩) (Kd.R_far (p := ⟨gb343, 1, none⟩) (Kd.R_far (p := ⟨gb343, 0, none⟩) (Kd.R_mono HO_10.out (fun k_ hk => (⟨hk, hk.2⟩ : _ ∧ k_ ≠ gb343))) (fun _ hk => hk.2) (.int .i64 ((rd_T99 t339 x12_1).f0))) (fun _ hk => hk.2) (.int .i64 ((rd_T99 t339 x12_1).f1))) (fun _ hk => hk.2) (.int .i64 ((rd_T99 t339 x12_1).f2))) (fun _ hk => hk.1.2)⟩
           have n2_ : Aside0 ((((w24.setCell ⟨gb343, 0, none⟩ (.int .i64 ((rd_T99 t339 x12_1).f0))).setCell ⟨gb343, 1, none⟩ (.int .i64 ((rd_T99 t339 x12_1).f1))).setCell ⟨gb343, 2, none⟩ (.int .i64 ((rd_T99 t339 x12_1).f2))).heap[gb337]? = some (.cells #[.int .i64 0, .string (⟨#[]⟩ : ByteArray)] 25 (0, 0))) := ⟨zk3 BK337.out NB337_343.out NB337_343.out NB337_343.out⟩
           have n3_ : Aside0 ((((w24.setCell ⟨gb343, 0, none⟩ (.int .i64 ((rd_T99 t339 x12_1).f0))).setCell ⟨gb343, 1, none⟩ (.int .i64 ((rd_T99 t339 x12_1).f1))).setCell ⟨gb343, 2, none⟩ (.int .i64 ((rd_T99 t339 x12_1).f2))).heap[gb343]? = some (.cells #[.int .i64 ((rd_T99 t339 x12_1).f0), .int .i64 ((rd_T99 t339 x12_1).f1), .int .i64 ((rd_T99 t339 x12_1).f2)] 99 (0, 0))) := ⟨zk0 BK343.out⟩
           have n4_ : Aside0 (Below w.heap.size w (((w24.setCell ⟨gb343, 0, none⟩ (.int .i64 ((rd_T99 t339 x12_1).f0))).setCell ⟨gb343, 1, none⟩ (.int .i64 ((rd_T99 t339 x12_1).f1))).setCell ⟨gb343, 2, none⟩ (.int .i64 ((rd_T99 t339 x12_1).f2)))) := ⟨zG2 GE337.out GE343.out⟩
           (try clear HO_3)
           (try clear HO_10)
           (try clear BK337)
           (try clear BK343)
           (try clear HB)
           generalize (((w24.setCell ⟨gb343, 0, none⟩ (.int .i64 ((rd_T99 t339 x12_1).f0))).setCell ⟨gb343, 1, none⟩ (.int .i64 ((rd_T99 t339 x12_1).f1))).setCell ⟨gb343, 2, none⟩ (.int .i64 ((rd_T99 t339 x12_1).f2))) = w27 at n0_ n1_ n2_ n3_ n4_ ⊢
           have HO_3 := n0_
           have HO_10 := n1_
           have BK337 := n2_
           have BK343 := n3_
           have HB := n4_
           clear n0_ n1_ n2_ n3_ n4_
           replace HO_3 := Aside0.mk (Kd.R_drew HO_3.out)
           replace HO_10 := Aside0.mk (Kd.R_drew HO_10.out)
           replace BK337 := Aside0.mk (blk_drew BK337.out)
           replace BK343 := Aside0.mk (blk_drew BK343.out)
           replace HB := Aside0.mk (below_drew1 HB.out)
           have pz344_0 : 0 ≤ (((rd_T99 t339 x12_1).f0) : Int) := zA
           have pz344_1 : 0 ≤ (((rd_T99 t339 x12_1).f1) : Int) := zA
           have pz344_2 : 0 ≤ (((rd_T99 t339 x12_1).f2) : Int) := zA
           have qz344_0 : (((rd_T99 t339 x12_1).f0) : Int) < 7 := zA
           have qz344_1 : (((rd_T99 t339 x12_1).f1) : Int) < 7 := zA
           have qz344_2 : (((rd_T99 t339 x12_1).f2) : Int) < 7 := zA
           have hL344 := HC0.out
           have dp344 : decide (0 ≤ ((1 + ((rd_T99 t339 x12_1).f0) * 49 + ((rd_T99 t339 x12_1).f1) * 7 + ((rd_T99 t339 x12_1).f2)) : Int)) = true := decide_eq_true (by omega)
           have dq344 : decide ((1 + ((rd_T99 t339 x12_1).f0) * 49 + ((rd_T99 t339 x12_1).f1) * 7 + ((rd_T99 t339 x12_1).f2)) < (l0.length : Int)) = true := decide_eq_true (by omega)
           clear hL344
           have p344 : 0 ≤ ((1 + ((rd_T99 t339 x12_1).f0) * 49 + ((rd_T99 t339 x12_1).f1) * 7 + ((rd_T99 t339 x12_1).f2)) : Int) := zA
           have q344 : (1 + ((rd_T99 t339 x12_1).f0) * 49 + ((rd_T99 t339 x12_1).f1) * 7 + ((rd_T99 t339 x12_1).f2)) < (l0.length : Int) := zA
           obtain ⟨ad344, e344, hx344_0⟩ := Kd.at_int HR0.out (1 + ((rd_T99 t339 x12_1).f0) * 49 + ((rd_T99 t339 x12_1).f1) * 7 + ((rd_T99 t339 x12_1).f2)) p344 q344
           obtain rfl : (⟨g0, 0, none⟩ : Addr) = ad344 := (by injection e344)
           (first | simp only [add_plain] at hx344_0 | simp only [add_at] at hx344_0 | simp only [Addr.add, Nat.zero_add] at hx344_0 | skip)
           replace hx344_0 := (HB.out.cell (World.block_lt_of_cell? w _ hx344_0)).trans hx344_0
           replace p344 := eq_true p344
           replace q344 := eq_true q344
           clear dp344 dq344
           clear p344 q344
           rw [show ((1 + ((rd_T99 t339 x12_1).f0) * 49 + ((rd_T99 t339 x12_1).f1) * 7 + ((rd_T99 t339 x12_1).f2)) : Int).toNat = 1 + (((rd_T99 t339 x12_1).f0)).toNat * 49 + (((rd_T99 t339 x12_1).f1)).toNat * 7 + (((rd_T99 t339 x12_1).f2)).toNat from by omega] at hx344_0
           change _ = some (Value.int .i64 (rd3 l0 ((rd_T99 t339 x12_1).f0) ((rd_T99 t339 x12_1).f1) ((rd_T99 t339 x12_1).f2))) at hx344_0
           replace pz344_0 := eq_true pz344_0
           replace pz344_1 := eq_true pz344_1
           replace pz344_2 := eq_true pz344_2
           replace qz344_0 := eq_true qz344_0
           replace qz344_1 := eq_true qz344_1
           replace qz344_2 := eq_true qz344_2
           refine start_ (n := 14) (S := fun w' => w'.cell? ⟨gb343, 0, none⟩ = some (.int .i64 ((rd_T99 t339 x12_1).f0)) ∧ w'.cell? ⟨gb343, 1, none⟩ = some (.int .i64 ((rd_T99 t339 x12_1).f1)) ∧ w'.cell? ⟨gb343, 2, none⟩ = some (.int .i64 ((rd_T99 t339 x12_1).f2)) ∧ w'.cell? ⟨g0, 1 + ((rd_T99 t339 x12_1).f0).toNat * 49 + ((rd_T99 t339 x12_1).f1).toNat * 7 + ((rd_T99 t339 x12_1).f2).toNat, none⟩ = some (.int .i64 (rd3 l0 ((rd_T99 t339 x12_1).f0) ((rd_T99 t339 x12_1).f1) ((rd_T99 t339 x12_1).f2)))) (ds := []) #[false, false, false, false, false, false, false, false, false, false, false, false, false, false] (by kernel_rfl) rfl rfl ⟨(blk_cell BK343.out 0).trans rfl, (blk_cell BK343.out 1).trans rfl, (blk_cell BK343.out 2).trans rfl, hx344_0⟩ (fun hHeld => ?_); refine with_tabW impl_chi_signs.tab5 impl_chi_signs.bits5 (fun HT_ HW_ => ?_)
           generalize w27.drew = w28 at HO_3 HO_10 BK337 BK343 HB hx344_0 hHeld ⊢
           refine zP 0 (some 16) rfl rfl ?_
           refine zP 1 (some 17) rfl rfl ?_
           refine zP 3 (some 19) rfl rfl ?_
           refine zP 5 (some 21) rfl rfl ?_
           refine zP 7 (some 23) rfl rfl ?_
           refine zP 8 (some 24) rfl rfl ?_
           refine zY4 2 (some 18) rfl rfl hHeld ?_
           refine zP 9 (some 25) rfl rfl ?_
           refine zY4 4 (some 20) rfl rfl hHeld ?_
           refine zP 10 (some 26) rfl rfl ?_
           refine zY4 6 (some 22) rfl rfl hHeld ?_
           refine zP 11 (some 27) rfl rfl ?_
           refine zY4 12 (some 28) rfl rfl hHeld ?_
           refine zP 13 (some 29) rfl rfl ?_
           refine done_ (done_of HT_.out (by kernel_rfl)) ?_
           try go_wp2_with (first | ((with_reducible refine gate_builtin (b := .append) (xs := #[.tmp 33, .tmp 34]) rfl ?_); at_builtin; refine Kd.R_append (Kd.int .u8) (w0 := w) w.heap.size rfl (.tmp 33) (.tmp 34) 22 5 (.int .u8 0) 1 rfl Try.underlying22 info5 rfl (by decide) (by omega) u3 x3_1 45 [.int .u8 45] (fun _ => True) (fun _ => False) rfl rfl ?aP (fun _ hk => hk.elim) ?aF ?aO ?aB ?aS ?aL ?_; (case aP => exact rfl); (case aB => exact (zG2 GE337.out GE343.out)); (case aF => exact (fun _ _ => trivial)); (case aO => exact (zR HO_3.out)); (case aS => exact (below_size (zG2 GE337.out GE343.out))); (case aL => have := LMc23.out; omega); intro v349 w29 ho hb hg hat; rw [← Ny348.out] at ho; have n0_ := Aside0.mk (Kd.R_over' (zR HO_10.out) (Kd.R_typed (zR HO_3.out)) (by decide) hg); have n1_ := Aside0.mk (blk_grown (g := gb337) (o := .cells #[.int .i64 0, .string (⟨#[]⟩ : ByteArray)] 25 (0, 0)) (zK BK337.out) hg (Kd.R_ne HO_3.out BK337.out (by decide))); have n2_ := Aside0.mk (blk_grown (g := gb343) (o := .cells #[.int .i64 ((rd_T99 t339 x12_1).f0), .int .i64 ((rd_T99 t339 x12_1).f1), .int .i64 ((rd_T99 t339 x12_1).f2)] 99 (0, 0)) (zK BK343.out) hg (Kd.R_ne HO_3.out BK343.out (by decide))); have n3_ := Aside0.mk (hb); have n4_ := Aside0.mk (ho); clear HO_10; clear BK337; clear BK343; clear HB; clear HO_3; have HO_10 := n0_; have BK337 := n1_; have BK343 := n2_; have HB := n3_; have HO350 := n4_; clear n0_ n1_ n2_ n3_ n4_; clear ho hb hg hat))
           refine Handed.intro k1 ?measure ?_
           rotate_left
           go_step
           (repeat apply Exists.intro)
           refine ⟨?rel, ?fr⟩
           case fr => with_reducible rfl
           case measure => have := HK1.out; omega
           case rel => exact ⟨(y348), (wrap64 (x12_1 + 1)), zF, H', ⟨by have := HK1.out; omega⟩, ⟨zR HO350.out⟩, ⟨by (with_reducible repeat (first | apply Kd.R_alloc | apply Kd.R_drewN | apply Kd.R_drew)); exact Kd.R_mono HO_10.out (fun _ hk => trivial)⟩, ⟨zK BK337.out⟩, ⟨zG2 GE337.out GE343.out⟩⟩
          rw [if_neg c23] at H
          exact absurd H (by simp)
         rw [if_neg c14] at H
         exact absurd H (by simp)
        rw [if_neg c13] at H
        exact absurd H (by simp)
       rw [if_neg c12] at H
       exact absurd H (by simp)
      rw [if_neg c11] at H
      exact absurd H (by simp)
     rw [if_neg c10] at H
     exact absurd H (by simp)
    rw [if_neg c9] at H
    exact absurd H (by simp)
   rw [if_neg c8] at H
   exact absurd H (by simp)
  rw [if_neg c7] at H
  exact absurd H (by simp)
 rw [if_neg c6] at H
 have c6b0 : decide (x12_1 < (t339.length : Int)) = false := decide_eq_false c6
 clear c6
 simp only [Option.some.injEq, Prod.mk.injEq] at H
 obtain ⟨rfl, rfl⟩ := H
 try go_wp2
 replace HO_3 := Aside0.mk (Kd.R_drew HO_3.out)
 replace HO_10 := Aside0.mk (Kd.R_drew HO_10.out)
 replace BK337 := Aside0.mk (blk_drew BK337.out)
 replace HB := Aside0.mk (below_drew1 HB.out)
 have hL351 := HC0.out
 have dq351 : decide (0 < (l0.length : Int)) = true := decide_eq_true (by omega)
 clear hL351
 have p351 : 0 ≤ (0 : Int) := (by omega)
 have q351 : 0 < (l0.length : Int) := zA
 obtain ⟨ad351, e351, hx351_0⟩ := Kd.at_int HR0.out 0 p351 q351
 obtain rfl : (⟨g0, 0, none⟩ : Addr) = ad351 := (by injection e351)
 (first | simp only [add_plain] at hx351_0 | simp only [add_at] at hx351_0 | simp only [Addr.add, Nat.zero_add] at hx351_0 | skip)
 have qi351 : (0 < l0.length) = True := eq_true (by omega)
 (try rw [show ((0 : Int)).toNat = 0 from rfl] at hx351_0)
 (try rw [Addr.add_zero'] at hx351_0)
 have hlt_ := World.block_lt_of_cell? w _ hx351_0
 replace hx351_0 := (HB.out.cell (World.block_lt_of_cell? w _ hx351_0)).trans hx351_0
 replace p351 := eq_true p351
 replace q351 := eq_true q351
 clear dq351
 have hcv31 := own_string (P := Try.prog) Try.underlying22 Try.underlying5 Try.underlying9 (Kd.own_of_R HO_3.out)
 refine start_ (n := 8) (S := fun w' => w'.cell? ⟨g0, 0, none⟩ = some (.int .i64 (rd l0 0)) ∧ (convert 22 9 u3).run Try.prog w' = .ok (.string (strOfNums x3_1)) w') (ds := []) #[false, false, false, false, false, false, false, false] (by kernel_rfl) rfl rfl ⟨hx351_0, hcv31⟩ (fun hHeld => ?_); refine with_tabW impl_chi_signs.tab9 impl_chi_signs.bits9 (fun HT_ HW_ => ?_)
 generalize wr.drew = w30 at HO_3 HO_10 BK337 HB hx351_0 hHeld ⊢
 refine zP 0 (some 37) rfl rfl ?_
 refine zP 1 (some 38) rfl rfl ?_
 refine zP 2 (some 39) rfl rfl ?_
 refine zP 4 (some 41) rfl rfl ?_
 refine zY2 5 (some 42) rfl rfl hHeld ?_
 refine zY2 3 (some 40) rfl rfl hHeld ?_
 refine zP 6 (some 43) rfl rfl ?_
 refine zU 7 none rfl rfl (fun K hK => ?_)
 have hs32 : w30.cell? ⟨gb337, 0, none⟩ = some (.int .i64 0) := (blk_cell BK337.out 0).trans rfl
 have hfs32 := blk_frozen BK337.out 0
 have hs33 : w30.cell? ⟨gb337, 1, none⟩ = some (.string (⟨#[]⟩ : ByteArray)) := (blk_cell BK337.out 1).trans rfl
 have hfs33 := blk_frozen BK337.out 1
 refine skip_ (w1 := ?_) (by rfl) rfl ?_ ?_
 rotate_left
 ·go_simp
  rfl
 have hne_ : ∀ q_ : Nat, ¬ (⟨gb337, q_, none⟩ : Addr) = ⟨g0, 0, none⟩ := fun q_ e_ => by
  have h1_ := GE337.out
  have h2_ : gb337 = g0 := congrArg Addr.block e_
  have h3_ : g0 < w.heap.size := hlt_
  omega
 refine hK.out _ _ ⟨by rw [World.cell?_setCell_other _ _ _ _ (hne_ _), World.cell?_setCell_other _ _ _ _ (hne_ _)]; exact hx351_0, own_string (P := Try.prog) Try.underlying22 Try.underlying5 Try.underlying9 (Kd.own_of_R (Kd.R_far (p := ⟨gb337, 1, none⟩) (Kd.R_far (p := ⟨gb337, 0, none⟩) (Kd.R_types HO_3.out BK337.out (by decide)) (fun _ hk => hk.2) _) (fun _ hk => hk.2) _))⟩ (fun hHeld => ?_)
 clear hK K
 refine done_ (done_of HT_.out (by kernel_rfl)) ?_
 try go_wp2
 refine bodyPost_ret (results_cell_row rfl _ _ gb337 25 #[.int .i64 (rd l0 0), .string (strOfNums x3_1)] (0, 0) _ rfl (zk0 BK337.out) Try.underlying25 rfl (by kernel_rfl)) rfl ?_
 exact ⟨zE, zG GE337.out⟩
/-! ### impl_ReverseElement: function 11 -/
def impl_ReverseElement.j0 : Nat → Int → Bool → Int → ByteArray → Option (Int × ByteArray × Bool)
 | 0, _, _, _, _ => none
 | k + 1, x1, x16, x353000, x353001 => if x16 = true then (some (0, (⟨#[]⟩ : ByteArray), false)) else ((impl_tableOf.f k x353000 x353001).bind fun t356 => (if t356.length = 344 then ((impl_chi_reverse.f k t356 x1).bind fun t359 => (if t359.length = 344 then ((impl_chi_signs.f k t359).bind fun bt360 => (some (bt360.1, bt360.2, true))) else (none))) else (none)))
def impl_ReverseElement.f (k : Nat) (a0_0 : Int) (a0_1 : ByteArray) (a1 : Int) : Option (Int × ByteArray × Bool) := (impl_AreSigns.f k a0_0 a0_1).bind fun t354 => (if t354 = true then ((impl_isElement.f a0_0 a1).bind fun t355 => (impl_ReverseElement.j0 k a1 (!t355) a0_0 a0_1)) else (impl_ReverseElement.j0 k a1 true a0_0 a0_1))
theorem zl39_0 {p q p0 p1 : Prop} (g : p) (g0 : p0) (g1 : p1) (h : p → p0 → p1 → q := by intro zg_ z0_ z1_; repeat (first | (with_reducible first | exact zg_ | apply below_alloc | apply pw_below_drewN | apply below_drew1 | refine below_set ?_ z0_ | refine below_set ?_ z1_) | exact zg_)) : q := h g g0 g1
set_option maxHeartbeats 8000000 in
set_option maxRecDepth 100000 in
theorem impl_ReverseElement.calls (k : Nat) (a0_0 : Int) (a0_1 : ByteArray) (a1 : Int) (r1 : Int) (r2 : ByteArray) (r3 : Bool) (w : World) (h : impl_ReverseElement.f k a0_0 a0_1 a1 = some (r1, r2, r3)) :
  Calls Try.prog 11 #[.agg #[.int .i64 a0_0, .string a0_1], .int .i64 a1] w fun e w' => e = .returned (.tuple #[.agg #[.int .i64 r1, .string r2], .bool r3]) ∧ Below w.heap.size w w' := by
 have hu25 := Try.underlying25
 have HB := Aside0.mk (Below.refl w.heap.size w)
 have H : ((impl_AreSigns.f k a0_0 a0_1).bind fun t354 => (if t354 = true then ((impl_isElement.f a0_0 a1).bind fun t355 => (impl_ReverseElement.j0 k a1 (!t355) a0_0 a0_1)) else (impl_ReverseElement.j0 k a1 true a0_0 a0_1))) = some (r1, r2, r3) := h
 clear h
 have HC3 := Aside0.mk H
 clear H
 go_enter Try.func11, Try.ntmps11
 go_upto_region 1 with (first | ((with_reducible refine gate_dst (N := 2) rfl ?_); refine zBx (N := 2) #[.int .i64 a0_0, .string a0_1] 25 ?_; intro gb352 hg w4 hbox hb; have BK352 := Aside0.mk (hbox); have GW352 := zS hg; have GE352 := zS hg; replace HB := zX hb; clear hb hbox hg) | ((with_reducible refine gate_dst (N := 4) rfl ?_); refine zBx (N := 4) #[.int .i64 0, .string (⟨#[]⟩ : ByteArray)] 25 ?_; intro gb353 hg w5 hbox hb; have BK353 := Aside0.mk (hbox); have GW353 := zSg hg (zG GE352.out); have GE353 := zSg hg (zG GE352.out); have NB352_353 := zL hg BK352.out; have NB353_352 := zLg hg BK352.out; replace BK352 := zV BK352.out hb; replace HB := zX1 GE352.out hb; clear hb hbox hg))
 (try simp only [Act.put, List.setIfInBounds_toArray, List.set_cons_zero, List.set_cons_succ])
 go_cut [16] (fun v16 wc => ∃ (kq : Nat) (x16_2 : Bool), v16 = .bool x16_2 ∧ Aside0 (impl_ReverseElement.j0 kq a1 x16_2 a0_0 a0_1 = some (r1, r2, r3)) ∧ Aside0 (kq ≤ k) ∧ Aside0 (wc.heap[gb352]? = some (.cells #[.int .i64 a0_0, .string a0_1] 25 (0, 0))) ∧ Aside0 (wc.heap[gb353]? = some (.cells #[.int .i64 0, .string (⟨#[]⟩ : ByteArray)] 25 (0, 0))) ∧ Aside0 (Below w.heap.size w wc))
 case first =>
  have H := HC3.out
  clear HC3
  obtain ⟨t354, A6, H⟩ := zO H
  by_cases c7 : t354 = true
  ·subst c7
   replace H := (if_pos rfl).symm.trans H
   obtain ⟨t355, A8, H⟩ := zO H
   have H' := Aside0.mk H; clear H
   have hnb9 := NB352_353.out
   have hnc9 := NB353_352.out
   obtain ⟨hcz10_0, hcz10_1, hfz10_0, hfz10_1⟩ := zq2 BK352.out
   go_wp2_with (first | ((with_reducible refine gate_callee (f := 82) rfl ?_); refine zD (some 8) Try.func82 #[.agg #[.int .i64 a0_0, .string a0_1]] ?_; (with_reducible refine (impl_AreSigns.calls k a0_0 a0_1 true _ A6.out).mono ?_); rintro e w11 ⟨rfl, hb⟩; refine ⟨_, rfl, ?_⟩; replace BK352 := zV BK352.out hb; replace BK353 := zV BK353.out hb; replace HB := Aside0.mk (below_step (zG2 GE352.out GE353.out) hb); (try clear hb); obtain ⟨hcz12_0, hcz12_1, hfz12_0, hfz12_1⟩ := zq2 BK352.out) | (go_at_call 86; (with_reducible refine (impl_isElement.calls a0_0 a1 t355 _ A8.out).mono ?_); rintro e w' ⟨rfl, ⟨nd, rfl⟩⟩))
   go_meet
   case rel => exact ⟨_, (!t355), zF, H', ⟨by first | omega | exact Nat.le_refl _⟩, ⟨zK BK352.out⟩, ⟨zK BK353.out⟩, ⟨zG2 GE352.out GE353.out⟩⟩
  replace c7 := Bool.eq_false_iff.mpr c7
  subst c7
  replace H := (if_neg zFf).symm.trans H
  have H' := Aside0.mk H; clear H
  have hnb13 := NB352_353.out
  have hnc13 := NB353_352.out
  obtain ⟨hcz14_0, hcz14_1, hfz14_0, hfz14_1⟩ := zq2 BK352.out
  go_wp2_with (first | ((with_reducible refine gate_callee (f := 82) rfl ?_); refine zD (some 8) Try.func82 #[.agg #[.int .i64 a0_0, .string a0_1]] ?_; (with_reducible refine (impl_AreSigns.calls k a0_0 a0_1 false _ A6.out).mono ?_); rintro e w15 ⟨rfl, hb⟩; refine ⟨_, rfl, ?_⟩; replace BK352 := zV BK352.out hb; replace BK353 := zV BK353.out hb; replace HB := Aside0.mk (below_step (zG2 GE352.out GE353.out) hb); (try clear hb)))
  go_meet
  case rel => exact ⟨_, (true), zF, H', ⟨by first | omega | exact Nat.le_refl _⟩, ⟨zK BK352.out⟩, ⟨zK BK353.out⟩, ⟨zG2 GE352.out GE353.out⟩⟩
 case rest =>
 clear HC3
 obtain ⟨kq, x16_2, rfl, HA, HJ2, BK352, BK353, HB⟩ := hcut
 cases kq with
 | zero => exact absurd HA.out (by simp [impl_ReverseElement.j0])
 | succ kj2 =>
 have H := HA.out
 clear HA
 simp only [impl_ReverseElement.j0] at H
 by_cases c16 : x16_2 = true
 ·subst c16
  replace H := (if_pos rfl).symm.trans H
  simp only [Option.some.injEq, Prod.mk.injEq] at H
  obtain ⟨rfl, rfl, rfl⟩ := H
  have hnb17 := NB353_352.out
  have hnc17 := NB352_353.out
  obtain ⟨hcz18_0, hcz18_1, hfz18_0, hfz18_1⟩ := zq2 BK353.out
  go_wp2
  refine bodyPost_ret (results_ct rfl _ _ gb353 25 #[.int .i64 0, .string (⟨#[]⟩ : ByteArray)] (0, 0) _ rfl (zk0 BK353.out) Try.underlying25 rfl (by kernel_rfl)) rfl ?_
  exact ⟨zE, zG2 GE352.out GE353.out⟩
 replace c16 := Bool.eq_false_iff.mpr c16
 subst c16
 replace H := (if_neg zFf).symm.trans H
 obtain ⟨t356, A19, H⟩ := zO H
 by_cases c20 : t356.length = 344
 ·rw [if_pos c20] at H
  have c20b0 := eq_true c20
  have c20b1 : decide (t356.length = 344) = true := decide_eq_true c20
  clear c20
  obtain ⟨t359, A21, H⟩ := zO H
  by_cases c22 : t359.length = 344
  ·rw [if_pos c22] at H
   have c22b0 := eq_true c22
   have c22b1 : decide (t359.length = 344) = true := decide_eq_true c22
   clear c22
   obtain ⟨⟨t360, t361⟩, A23, H⟩ := zO H
   replace H : (some (t360, t361, true)) = some (r1, r2, r3) := H
   simp only [Option.some.injEq, Prod.mk.injEq] at H
   obtain ⟨rfl, rfl, rfl⟩ := H
   have hnb24 := NB352_353.out
   have hnc24 := NB353_352.out
   obtain ⟨hcz25_0, hcz25_1, hfz25_0, hfz25_1⟩ := zq2 BK352.out
   go_wp2_with (first | ((with_reducible refine gate_callee (f := 83) rfl ?_); refine zD (some 19) Try.func83 #[.agg #[.int .i64 a0_0, .string a0_1]] ?_; (with_reducible refine (impl_tableOf.calls kj2 a0_0 a0_1 t356 _ A19.out).mono ?_); rintro e w26 ⟨v357, rfl, ho0, hb⟩; refine ⟨_, rfl, ?_⟩; have HO358 := Aside0.mk (Kd.R_lower ho0 (below_size (zG2 GE352.out GE353.out))); replace BK352 := zV BK352.out hb; replace BK353 := zV BK353.out hb; replace HB := Aside0.mk (below_step (zG2 GE352.out GE353.out) hb); (try clear hb); (try clear ho0); obtain ⟨go27, co27, eo27, gb27, gl27, cl27, HG27⟩ := Kd.R_form HO358.out (by have hl_ := Nat.le_of_eq (Eq.symm (zA : t356.length = 344)); omega); (first | cases eo27 | (injection eo27 with ea_ en_ ec_; (first | subst ea_ | (injection ea_ with ea_; subst ea_)); subst ec_; clear en_)); have GB27 := Aside0.mk gb27; have GG27 := Aside0.mk HG27; clear gb27 gl27 HG27) | ((with_reducible refine gate_callee (f := 87) rfl ?_); refine zD (some 22) Try.func87 #[.pointer (some ⟨go27, 0, none⟩), .int .i64 a1] ?_; (with_reducible refine (impl_chi_reverse.calls kj2 (fun k_ => some k_ = (.slice (some ⟨go27, 0, none⟩) t356.length co27 : Value).ownBlock) (.slice (some ⟨go27, 0, none⟩) t356.length co27) t356 a1 t359 w _ ?side1 ?side2 A21.out).mono ?_); (case side1 => exact (zl39_0 HB.out GE352.out GE353.out)); (case side2 => exact Kd.R_tight rfl HO358.out); rintro e w28 ⟨rfl, hy0, hb, hkp⟩; refine ⟨_, rfl, ?_⟩; replace BK352 := Aside0.mk (blk_kept (zK BK352.out) hkp (fun hs_ => (fun e_ => (Kd.R_ne HO358.out BK352.out (by decide)) e_) hs_)); replace BK353 := Aside0.mk (blk_kept (zK BK353.out) hkp (fun hs_ => (fun e_ => (Kd.R_ne HO358.out BK353.out (by decide)) e_) hs_)); replace HO358 := Aside0.mk (Kd.R_reok rfl hy0 (fun k_ e_ => HO358.out.1 k_ e_)); replace HB := Aside0.mk (hb); (try clear hb); (try clear hkp); (try clear hy0)) | ((with_reducible refine gate_callee (f := 88) rfl ?_); refine zD (some 24) Try.func88 #[.pointer (some ⟨go27, 0, none⟩)] ?_; (with_reducible refine (impl_chi_signs.calls kj2 _ t359 t360 t361 _ ?side1 ?side2 A23.out).mono ?_); (case side1 => repeat (first | exact (Kd.R_reads' HO358.out).2.2 | (with_reducible refine Kd.C_alloc ?_ _) | (with_reducible refine Kd.C_drewN ?_ _) | (with_reducible refine Kd.C_drew ?_))); (case side2 => exact (zA : t359.length = 344)); rintro e w30 ⟨rfl, hb⟩; refine ⟨_, rfl, ?_⟩; replace HO358 := zW HO358.out hb; replace BK352 := zV BK352.out hb; replace BK353 := zV BK353.out hb; replace HB := Aside0.mk (below_step (zG2 GE352.out GE353.out) hb); (try clear hb); obtain ⟨hcz31_0, hcz31_1, hfz31_0, hfz31_1⟩ := zq2 BK353.out))
   refine bodyPost_ret (results_ct rfl _ _ gb353 25 #[.int .i64 t360, .string t361] (0, 0) _ rfl (zk0 BK353.out) Try.underlying25 rfl (by kernel_rfl)) rfl ?_
   exact ⟨zE, zG2 GE352.out GE353.out⟩
  rw [if_neg c22] at H
  exact absurd H (by simp)
 rw [if_neg c20] at H
 exact absurd H (by simp)
/-! ### spec_ReverseElement: function 12 -/
def spec_ReverseElement.f (k : Nat) (a0_0 : Int) (a0_1 : ByteArray) (a1 : Int) : Option (Int × ByteArray × Bool) := (spec_AreSigns.f k a0_0 a0_1).bind fun t364 => (if t364 = true then ((spec_l1In.f a1 0 (wrap64 (a0_0 - 1))).bind fun t365 => (if t365 = true then (if 0 ≤ (IntKind.u64.wrap (a1)) then ((spec_l4Reverse.f k a0_0 a0_1 (shl .i64 1 (IntKind.u64.wrap (a1)))).bind fun bt366 => (some (bt366.1, bt366.2, true))) else (none)) else (some (0, (⟨#[]⟩ : ByteArray), false)))) else (some (0, (⟨#[]⟩ : ByteArray), false)))
set_option maxHeartbeats 8000000 in
set_option maxRecDepth 100000 in
theorem spec_ReverseElement.calls (k : Nat) (a0_0 : Int) (a0_1 : ByteArray) (a1 : Int) (r1 : Int) (r2 : ByteArray) (r3 : Bool) (w : World) (h : spec_ReverseElement.f k a0_0 a0_1 a1 = some (r1, r2, r3)) :
  Calls Try.prog 12 #[.agg #[.int .i64 a0_0, .string a0_1], .int .i64 a1] w fun e w' => e = .returned (.tuple #[.agg #[.int .i64 r1, .string r2], .bool r3]) ∧ Below w.heap.size w w' := by
 have hu25 := Try.underlying25
 have HB := Aside0.mk (Below.refl w.heap.size w)
 have H : ((spec_AreSigns.f k a0_0 a0_1).bind fun t364 => (if t364 = true then ((spec_l1In.f a1 0 (wrap64 (a0_0 - 1))).bind fun t365 => (if t365 = true then (if 0 ≤ (IntKind.u64.wrap (a1)) then ((spec_l4Reverse.f k a0_0 a0_1 (shl .i64 1 (IntKind.u64.wrap (a1)))).bind fun bt366 => (some (bt366.1, bt366.2, true))) else (none)) else (some (0, (⟨#[]⟩ : ByteArray), false)))) else (some (0, (⟨#[]⟩ : ByteArray), false)))) = some (r1, r2, r3) := h
 clear h
 obtain ⟨t364, A3, H⟩ := zO H
 by_cases c4 : t364 = true
 ·subst c4
  replace H := (if_pos rfl).symm.trans H
  obtain ⟨t365, A5, H⟩ := zO H
  by_cases c6 : t365 = true
  ·subst c6
   replace H := (if_pos rfl).symm.trans H
   obtain ⟨ji7, hji7⟩ : ∃ j_ : Int, (IntKind.u64.wrap (a1)) = j_ := ⟨_, rfl⟩
   replace H : (if 0 ≤ (ji7) then ((spec_l4Reverse.f k a0_0 a0_1 (shl .i64 1 (ji7))).bind fun bt366 => (some (bt366.1, bt366.2, true))) else (none)) = some (r1, r2, r3) := by first | (rw [hji7] at H; exact H) | (simp only [hji7] at H ⊢; exact H)
   (try rw [hji7] at A3)
   (try rw [hji7] at A5)
   by_cases c8 : 0 ≤ (ji7)
   ·rw [if_pos c8] at H
    have c8b0 := eq_true c8
    have c8b1 : decide (0 ≤ (ji7)) = true := decide_eq_true c8
    clear c8
    obtain ⟨ji9, hji9⟩ : ∃ j_ : Int, (shl .i64 1 (ji7)) = j_ := ⟨_, rfl⟩
    replace H : ((spec_l4Reverse.f k a0_0 a0_1 (ji9)).bind fun bt366 => (some (bt366.1, bt366.2, true))) = some (r1, r2, r3) := by first | (rw [hji9] at H; exact H) | (simp only [hji9] at H ⊢; exact H)
    (try rw [hji9] at A3)
    (try rw [hji9] at A5)
    have hji9_ : (IntKind.i64.wrap (1 * 2 ^ min (ji7).toNat 64)) = ji9 := hji9
    have hji9z : (ji7) ≤ 64 → (IntKind.i64.wrap (1 * 2 ^ (ji7).toNat)) = ji9 := shl_small hji9
    have hji9u : (IntKind.i64.wrap (2 ^ min (ji7).toNat 64)) = ji9 := by have h_ := hji9_; rw [Int.one_mul] at h_; exact h_
    have hji9v : (ji7) ≤ 64 → (IntKind.i64.wrap (2 ^ (ji7).toNat)) = ji9 := fun hle_ => by have h_ := hji9z hle_; rw [Int.one_mul] at h_; exact h_
    have hji9y : (wrap64 (1 * 2 ^ min (ji7).toNat 64)) = ji9 := (i64_w _).symm.trans hji9_
    have hji9x : (ji7) ≤ 64 → (wrap64 (1 * 2 ^ (ji7).toNat)) = ji9 := fun h_ => (i64_w _).symm.trans (hji9z h_)
    obtain ⟨⟨t366, t367⟩, A10, H⟩ := zO H
    replace H : (some (t366, t367, true)) = some (r1, r2, r3) := H
    simp only [Option.some.injEq, Prod.mk.injEq] at H
    obtain ⟨rfl, rfl, rfl⟩ := H
    go_enter Try.func12, Try.ntmps12
    go_wp2_with (first | ((with_reducible refine gate_dst (N := 2) rfl ?_); refine zBx (N := 2) #[.int .i64 a0_0, .string a0_1] 25 ?_; intro gb362 hg w11 hbox hb; have BK362 := Aside0.mk (hbox); have GW362 := zS hg; have GE362 := zS hg; replace HB := zX hb; clear hb hbox hg) | ((with_reducible refine gate_dst (N := 4) rfl ?_); refine zBx (N := 4) #[.int .i64 0, .string (⟨#[]⟩ : ByteArray)] 25 ?_; intro gb363 hg w12 hbox hb; have BK363 := Aside0.mk (hbox); have GW363 := zSg hg (zG GE362.out); have GE363 := zSg hg (zG GE362.out); have NB362_363 := zL hg BK362.out; have NB363_362 := zLg hg BK362.out; replace BK362 := zV BK362.out hb; replace HB := zX1 GE362.out hb; clear hb hbox hg; have hnb13 := NB362_363.out; have hnc13 := NB363_362.out; obtain ⟨hcz14_0, hcz14_1, hfz14_0, hfz14_1⟩ := zq2 BK362.out) | ((with_reducible refine gate_callee (f := 25) rfl ?_); refine zD (some 7) Try.func25 #[.agg #[.int .i64 a0_0, .string a0_1]] ?_; (with_reducible refine (spec_AreSigns.calls k a0_0 a0_1 true _ A3.out).mono ?_); rintro e w15 ⟨rfl, hb⟩; refine ⟨_, rfl, ?_⟩; replace BK362 := zV BK362.out hb; replace BK363 := zV BK363.out hb; replace HB := Aside0.mk (below_step (zG2 GE362.out GE363.out) hb); (try clear hb); obtain ⟨hcz16_0, hcz16_1, hfz16_0, hfz16_1⟩ := zq2 BK362.out) | (go_at_call 89; (with_reducible refine (spec_l1In.calls a1 0 (wrap64 (a0_0 - 1)) true _ A5.out).mono ?_); rintro e w' ⟨rfl, ⟨nd, rfl⟩⟩; (try (rw [drewN_self w15]; generalize hq_ : World.drewN w15 _ = w15; have n0_ : Aside0 (w15.heap[gb362]? = some (.cells #[.int .i64 a0_0, .string a0_1] 25 (0, 0))) := ⟨by rw [← hq_]; exact (zK BK362.out)⟩; have n1_ : Aside0 (w15.heap[gb363]? = some (.cells #[.int .i64 0, .string (⟨#[]⟩ : ByteArray)] 25 (0, 0))) := ⟨by rw [← hq_]; exact (zK BK363.out)⟩; have n2_ : Aside0 (Below w.heap.size w w15) := ⟨by rw [← hq_]; exact (zG2 GE362.out GE363.out)⟩; clear BK362 BK363 HB hq_; have BK362 := n0_; have BK363 := n1_; have HB := n2_; clear n0_ n1_ n2_; have hcz16_0 : w15.cell? ⟨gb362, 0, none⟩ = some (.int .i64 a0_0) := (blk_cell BK362.out 0).trans rfl; have hcz16_1 : w15.cell? ⟨gb362, 1, none⟩ = some (.string a0_1) := (blk_cell BK362.out 1).trans rfl))) | ((with_reducible refine gate_callee (f := 90) rfl ?_); refine goesL_ (some 22) rfl rfl Try.func90 (by kernel_rfl) rfl #[.agg #[.int .i64 a0_0, .string a0_1], .int .i64 ji9] rfl (by (try simp only [List.map_toArray, List.map_cons, List.map_nil]); first | done | (simp only [hji9]; rfl) | rfl | (simp only [List.length_drop, List.length_take]; rfl)) ?_; (with_reducible refine (spec_l4Reverse.calls k a0_0 a0_1 ji9 t366 t367 _ A10.out).mono ?_); rintro e w17 ⟨rfl, hb⟩; refine ⟨_, rfl, ?_⟩; replace BK362 := zV BK362.out hb; replace BK363 := zV BK363.out hb; replace HB := Aside0.mk (below_step (zG2 GE362.out GE363.out) hb); (try clear hb); obtain ⟨hcz18_0, hcz18_1, hfz18_0, hfz18_1⟩ := zq2 BK363.out))
    refine bodyPost_ret (results_ct rfl _ _ gb363 25 #[.int .i64 t366, .string t367] (0, 0) _ rfl (zk0 BK363.out) Try.underlying25 rfl (by kernel_rfl)) rfl ?_
    exact ⟨by first | rfl | (simp [errW_none, errW_some] <;> rfl) | (simp only [← hji7, ← hji9]; first | rfl | (simp [errW_none, errW_some] <;> rfl)) | (simp [*, errW_none, errW_some] <;> rfl), zG2 GE362.out GE363.out⟩
   rw [if_neg c8] at H
   exact absurd H (by simp)
  replace c6 := Bool.eq_false_iff.mpr c6
  subst c6
  replace H := (if_neg zFf).symm.trans H
  simp only [Option.some.injEq, Prod.mk.injEq] at H
  obtain ⟨rfl, rfl, rfl⟩ := H
  go_enter Try.func12, Try.ntmps12
  go_wp2_with (first | ((with_reducible refine gate_dst (N := 2) rfl ?_); refine zBx (N := 2) #[.int .i64 a0_0, .string a0_1] 25 ?_; intro gb362 hg w19 hbox hb; have BK362 := Aside0.mk (hbox); have GW362 := zS hg; have GE362 := zS hg; replace HB := zX hb; clear hb hbox hg) | ((with_reducible refine gate_dst (N := 4) rfl ?_); refine zBx (N := 4) #[.int .i64 0, .string (⟨#[]⟩ : ByteArray)] 25 ?_; intro gb363 hg w20 hbox hb; have BK363 := Aside0.mk (hbox); have GW363 := zSg hg (zG GE362.out); have GE363 := zSg hg (zG GE362.out); have NB362_363 := zL hg BK362.out; have NB363_362 := zLg hg BK362.out; replace BK362 := zV BK362.out hb; replace HB := zX1 GE362.out hb; clear hb hbox hg; have hnb21 := NB362_363.out; have hnc21 := NB363_362.out; obtain ⟨hcz22_0, hcz22_1, hfz22_0, hfz22_1⟩ := zq2 BK362.out) | ((with_reducible refine gate_callee (f := 25) rfl ?_); refine zD (some 7) Try.func25 #[.agg #[.int .i64 a0_0, .string a0_1]] ?_; (with_reducible refine (spec_AreSigns.calls k a0_0 a0_1 true _ A3.out).mono ?_); rintro e w23 ⟨rfl, hb⟩; refine ⟨_, rfl, ?_⟩; replace BK362 := zV BK362.out hb; replace BK363 := zV BK363.out hb; replace HB := Aside0.mk (below_step (zG2 GE362.out GE363.out) hb); (try clear hb); obtain ⟨hcz24_0, hcz24_1, hfz24_0, hfz24_1⟩ := zq2 BK362.out) | (go_at_call 89; (with_reducible refine (spec_l1In.calls a1 0 (wrap64 (a0_0 - 1)) false _ A5.out).mono ?_); rintro e w' ⟨rfl, ⟨nd, rfl⟩⟩; (try (rw [drewN_self w23]; generalize hq_ : World.drewN w23 _ = w23; have n0_ : Aside0 (w23.heap[gb362]? = some (.cells #[.int .i64 a0_0, .string a0_1] 25 (0, 0))) := ⟨by rw [← hq_]; exact (zK BK362.out)⟩; have n1_ : Aside0 (w23.heap[gb363]? = some (.cells #[.int .i64 0, .string (⟨#[]⟩ : ByteArray)] 25 (0, 0))) := ⟨by rw [← hq_]; exact (zK BK363.out)⟩; have n2_ : Aside0 (Below w.heap.size w w23) := ⟨by rw [← hq_]; exact (zG2 GE362.out GE363.out)⟩; clear BK362 BK363 HB hq_; have BK362 := n0_; have BK363 := n1_; have HB := n2_; clear n0_ n1_ n2_; have hcz24_0 : w23.cell? ⟨gb362, 0, none⟩ = some (.int .i64 a0_0) := (blk_cell BK362.out 0).trans rfl; have hcz24_1 : w23.cell? ⟨gb362, 1, none⟩ = some (.string a0_1) := (blk_cell BK362.out 1).trans rfl)); obtain ⟨hcz25_0, hcz25_1, hfz25_0, hfz25_1⟩ := zq2 BK363.out))
  refine bodyPost_ret (results_ct rfl _ _ gb363 25 #[.int .i64 0, .string (⟨#[]⟩ : ByteArray)] (0, 0) _ rfl (zk0 BK363.out) Try.underlying25 rfl (by kernel_rfl)) rfl ?_
  exact ⟨zE, zG2 GE362.out GE363.out⟩
 replace c4 := Bool.eq_false_iff.mpr c4
 subst c4
 replace H := (if_neg zFf).symm.trans H
 simp only [Option.some.injEq, Prod.mk.injEq] at H
 obtain ⟨rfl, rfl, rfl⟩ := H
 go_enter Try.func12, Try.ntmps12
 go_wp2_with (first | ((with_reducible refine gate_dst (N := 2) rfl ?_); refine zBx (N := 2) #[.int .i64 a0_0, .string a0_1] 25 ?_; intro gb362 hg w26 hbox hb; have BK362 := Aside0.mk (hbox); have GW362 := zS hg; have GE362 := zS hg; replace HB := zX hb; clear hb hbox hg) | ((with_reducible refine gate_dst (N := 4) rfl ?_); refine zBx (N := 4) #[.int .i64 0, .string (⟨#[]⟩ : ByteArray)] 25 ?_; intro gb363 hg w27 hbox hb; have BK363 := Aside0.mk (hbox); have GW363 := zSg hg (zG GE362.out); have GE363 := zSg hg (zG GE362.out); have NB362_363 := zL hg BK362.out; have NB363_362 := zLg hg BK362.out; replace BK362 := zV BK362.out hb; replace HB := zX1 GE362.out hb; clear hb hbox hg; have hnb28 := NB362_363.out; have hnc28 := NB363_362.out; obtain ⟨hcz29_0, hcz29_1, hfz29_0, hfz29_1⟩ := zq2 BK362.out) | ((with_reducible refine gate_callee (f := 25) rfl ?_); refine zD (some 7) Try.func25 #[.agg #[.int .i64 a0_0, .string a0_1]] ?_; (with_reducible refine (spec_AreSigns.calls k a0_0 a0_1 false _ A3.out).mono ?_); rintro e w30 ⟨rfl, hb⟩; refine ⟨_, rfl, ?_⟩; replace BK362 := zV BK362.out hb; replace BK363 := zV BK363.out hb; replace HB := Aside0.mk (below_step (zG2 GE362.out GE363.out) hb); (try clear hb); obtain ⟨hcz31_0, hcz31_1, hfz31_0, hfz31_1⟩ := zq2 BK363.out))
 refine bodyPost_ret (results_ct rfl _ _ gb363 25 #[.int .i64 0, .string (⟨#[]⟩ : ByteArray)] (0, 0) _ rfl (zk0 BK363.out) Try.underlying25 rfl (by kernel_rfl)) rfl ?_
 exact ⟨zE, zG2 GE362.out GE363.out⟩
/-! ### spec_l3Order: function 145 -/
def spec_l3Order.l0 : Nat → Int → List Int → Int → List Int → Int → Int → Option (List Int × Int × Int)
 | 0, _, _, _, _, _, _ => none
 | k + 1, x1, x5, x6, x1000, x1001, x1002 => if x6 < x1 then ((spec_l1Below.f x1000 x1001 x1002 (wrap64 ((x5.length : Int) + 1))).bind fun bt371 => ((some (([] : List Int) : List Int)).bind fun y374 => (if 0 ≤ bt371.1 then (if bt371.1 ≤ (x5.length : Int) then ((some (x5.drop (bt371.1 : Int).toNat : List Int)).bind fun y377 => (if y374.length + y377.length < 17592186044416 then ((some (y374 ++ y377 : List Int)).bind fun y381 => ((some (x5.take (bt371.1 : Int).toNat : List Int)).bind fun y384 => (if y384.length < 17592186044416 then ((some (y384 ++ [x6] : List Int)).bind fun y387 => (if y387.length + y381.length < 17592186044416 then (spec_l3Order.l0 k x1 (y387 ++ y381) (wrap64 (x6 + 1)) x1000 bt371.2.1 bt371.2.2) else (none))) else (none)))) else (none))) else (none)) else (none)))) else (some (x5, x1001, x1002))
def spec_l3Order.f (k : Nat) (s0_0 : List Int) (s0_1 : Int) (s0_2 : Int) (a1 : Int) : Option (List Int × Int × Int) := spec_l3Order.l0 k a1 (([] : List Int)) 0 s0_0 s0_1 s0_2
theorem zl41_0 {p q : Prop} (g : p) (h : p → q := by intro zg_; repeat (first | (with_reducible first | exact zg_ | apply KeepBut.set_ | apply keep_drewN | apply keep_drew | apply keep_alloc) | exact zg_)) : q := h g
theorem zl41_1 {p q : Prop} (g : p) (h : p → q := by intro zg_; repeat (first | (with_reducible first | exact zg_ | apply IsS110.alloc | apply IsS110.drewN | apply IsS110.drew | apply IsS110.set_1 | apply IsS110.set_2) | exact zg_)) : q := h g
theorem zl41_2 {p q p0 : Prop} (g : p) (g0 : p0) (h : p → p0 → q := by intro zg_ z0_; repeat (first | (with_reducible first | exact zg_ | apply below_alloc | apply pw_below_drewN | apply below_drew1 | refine below_set ?_ z0_) | exact zg_)) : q := h g g0
set_option maxHeartbeats 8000000 in
set_option maxRecDepth 100000 in
theorem spec_l3Order.calls (k : Nat) (g : Nat) (s0_0 : List Int) (s0_1 : Int) (s0_2 : Int) (a1 : Int) (r1 : List Int) (r2 : Int) (r3 : Int) (w0 w : World) (hI : IsS110 w0 w g s0_0 s0_1 s0_2) (hB : Below w0.heap.size w0 w) (h : spec_l3Order.f k s0_0 s0_1 s0_2 a1 = some (r1, r2, r3)) :
  Calls Try.prog 145 #[.pointer (some ⟨g, 0, none⟩), .int .i64 a1] w fun e w' => ∃ v0_ : Value, e = .returned (v0_) ∧ Kd.R (Kd.int .i64) 3 w' w.heap.size (fun _ => True) v0_ r1 ∧ IsS110 w0 w' g s0_0 r2 r3 ∧ Below w0.heap.size w0 w' ∧ KeepBut w w' g none := by
 have HI0 := Aside0.mk hI
 have HK := Aside0.mk (KeepBut.refl w g none)
 have HL := Aside0.mk hB.size
 clear hI
 have HW0 := Aside0.mk hB.size
 have HB := Aside0.mk hB
 clear hB
 have H : (spec_l3Order.l0 k a1 (([] : List Int)) 0 s0_0 s0_1 s0_2) = some (r1, r2, r3) := h
 clear h
 obtain ⟨y368, hy368⟩ : ∃ y_ : List Int, y_ = (([] : List Int)) := ⟨_, rfl⟩
 replace H : (spec_l3Order.l0 k a1 y368 0 s0_0 s0_1 s0_2) = some (r1, r2, r3) := by first | (rw [hy368]; with_reducible exact H) | (have H2_ := (Option.bind_some _ _).symm.trans H; rw [hy368]; with_reducible exact H2_) | (have H2_ := (Option.bind_some _ _).symm.trans H; with_reducible exact H2_) | with_reducible exact H | (rw [hy368]; exact H) | exact H
 have Ny368 := Aside0.mk hy368
 clear hy368
 have H' := Aside0.mk H; clear H
 go_enter Try.func145, Try.ntmps145
 go_wp2_with (first | ((with_reducible refine gate_dst (N := 9) rfl ?_); refine Kd.R_lit (Kd.int .i64) _ 3 ?hg (N := 9) ?hd (xs := ([] : List Int)) (inner := []) (ok := fun _ => True) (okp := fun _ => True) ?hr ?hp (fun _ hk => hk) trivial (Below.refl _ _) (Nat.le_refl _) (by simp) ?_; (case hd => rfl); (case hg => rfl); (case hr => first | (go_simp; done) | (go_simp; rfl)); (case hp => exact (Reps.none _ _)); intro v369 w3 ho4 hb hg_ hnew_; clear hg_ hnew_; (first | rw [← Ny368.out] at ho4 | (simp only [Int.reduceToNat] at ho4; rw [← Ny368.out] at ho4)); have n0_ := Aside0.mk (Kd.R_lower ho4 (keep_size (w := w) (g := g) (row := none) (zl41_0 HK.out))); have n1_ := Aside0.mk (IsS110.below (zl41_1 HI0.out) hb); have n2_ := Aside0.mk (KeepBut.trans (zl41_0 HK.out) (KeepBut.of_below hb g none) (.inl rfl)); have n3_ := Aside0.mk (below_step (zG (IsS110.ge HI0.out)) hb); clear HI0; clear HK; clear HB; have HO370 := n0_; have HI0 := n1_; have HK := n2_; have HB := n3_; clear n0_ n1_ n2_ n3_; clear hb ho4))
 go_loopg [5, 6] k (fun kq v5 v6 w' => ∃ (x5_1 : List Int) (x6_1 : Int) (x1001_1 : Int) (x1002_1 : Int), v6 = .int .i64 x6_1 ∧ Aside0 (spec_l3Order.l0 kq a1 x5_1 x6_1 s0_0 x1001_1 x1002_1 = some (r1, r2, r3)) ∧ Aside0 (kq ≤ k) ∧ Aside0 (Kd.R (Kd.int .i64) 3 w' w.heap.size (fun _ => True) v5 x5_1) ∧ Aside0 (IsS110 w0 w' g s0_0 x1001_1 x1002_1) ∧ Aside0 (KeepBut w w' g none) ∧ Aside0 (Below w0.heap.size w0 w'))
 case atStart => exact ⟨(y368), (0), (s0_1), (s0_2), zF, H', ⟨Nat.le_refl _⟩, ⟨zR HO370.out⟩, ⟨(zl41_1 HI0.out)⟩, ⟨(zl41_0 HK.out)⟩, ⟨zG (IsS110.ge HI0.out)⟩⟩
 case round =>
 clear H'
 obtain ⟨x5_1, x6_1, x1001_1, x1002_1, rfl, HA, HK1, HO_5, HI0, HK, HB⟩ := hrel
 cases gk with
 | zero => exact absurd HA.out (by simp [spec_l3Order.l0])
 | succ k1 =>
 have H := HA.out
 clear HA
 simp only [spec_l3Order.l0] at H
 by_cases c5 : x6_1 < a1
 ·rw [if_pos c5] at H
  have c5b0 : decide (x6_1 < a1) = true := decide_eq_true c5
  clear c5
  obtain ⟨⟨t371, t372, t373⟩, A6, H⟩ := zO H
  dsimp only at H
  obtain ⟨y374, hy374⟩ : ∃ y_ : List Int, y_ = (([] : List Int)) := ⟨_, rfl⟩
  replace H : (if 0 ≤ t371 then (if t371 ≤ (x5_1.length : Int) then ((some (x5_1.drop (t371 : Int).toNat : List Int)).bind fun y377 => (if y374.length + y377.length < 17592186044416 then ((some (y374 ++ y377 : List Int)).bind fun y381 => ((some (x5_1.take (t371 : Int).toNat : List Int)).bind fun y384 => (if y384.length < 17592186044416 then ((some (y384 ++ [x6_1] : List Int)).bind fun y387 => (if y387.length + y381.length < 17592186044416 then (spec_l3Order.l0 k1 a1 (y387 ++ y381) (wrap64 (x6_1 + 1)) s0_0 t372 t373) else (none))) else (none)))) else (none))) else (none)) else (none)) = some (r1, r2, r3) := by first | (rw [hy374]; with_reducible exact H) | (have H2_ := (Option.bind_some _ _).symm.trans H; rw [hy374]; with_reducible exact H2_) | (have H2_ := (Option.bind_some _ _).symm.trans H; with_reducible exact H2_) | with_reducible exact H | (rw [hy374]; exact H) | exact H
  have Ny374 := Aside0.mk hy374
  clear hy374
  by_cases c7 : 0 ≤ t371
  ·rw [if_pos c7] at H
   have c7b0 := eq_true c7
   have c7b1 : decide (0 ≤ t371) = true := decide_eq_true c7
   clear c7
   by_cases c8 : t371 ≤ (x5_1.length : Int)
   ·rw [if_pos c8] at H
    have c8b0 := eq_true c8
    have c8b1 : decide (t371 ≤ (x5_1.length : Int)) = true := decide_eq_true c8
    clear c8
    obtain ⟨y377, hy377⟩ : ∃ y_ : List Int, y_ = (x5_1.drop (t371 : Int).toNat) := ⟨_, rfl⟩
    replace H : (if y374.length + y377.length < 17592186044416 then ((some (y374 ++ y377 : List Int)).bind fun y381 => ((some (x5_1.take (t371 : Int).toNat : List Int)).bind fun y384 => (if y384.length < 17592186044416 then ((some (y384 ++ [x6_1] : List Int)).bind fun y387 => (if y387.length + y381.length < 17592186044416 then (spec_l3Order.l0 k1 a1 (y387 ++ y381) (wrap64 (x6_1 + 1)) s0_0 t372 t373) else (none))) else (none)))) else (none)) = some (r1, r2, r3) := by first | (rw [hy377]; with_reducible exact H) | (have H2_ := (Option.bind_some _ _).symm.trans H; rw [hy377]; with_reducible exact H2_) | (have H2_ := (Option.bind_some _ _).symm.trans H; with_reducible exact H2_) | with_reducible exact H | (rw [hy377]; exact H) | exact H
    have Ny377 := Aside0.mk hy377
    clear hy377
    by_cases c9 : y374.length + y377.length < 17592186044416
    ·rw [if_pos c9] at H
     have LMc9 := Aside0.mk c9
     clear c9
     obtain ⟨y381, hy381⟩ : ∃ y_ : List Int, y_ = (y374 ++ y377) := ⟨_, rfl⟩
     replace H : ((some (x5_1.take (t371 : Int).toNat : List Int)).bind fun y384 => (if y384.length < 17592186044416 then ((some (y384 ++ [x6_1] : List Int)).bind fun y387 => (if y387.length + y381.length < 17592186044416 then (spec_l3Order.l0 k1 a1 (y387 ++ y381) (wrap64 (x6_1 + 1)) s0_0 t372 t373) else (none))) else (none))) = some (r1, r2, r3) := by first | (rw [hy381]; with_reducible exact H) | (have H2_ := (Option.bind_some _ _).symm.trans H; rw [hy381]; with_reducible exact H2_) | (have H2_ := (Option.bind_some _ _).symm.trans H; with_reducible exact H2_) | with_reducible exact H | (rw [hy381]; exact H) | exact H
     have Ny381 := Aside0.mk hy381
     clear hy381
     have c10b0 := eq_true (zA : t371 ≤ (x5_1.length : Int))
     obtain ⟨y384, hy384⟩ : ∃ y_ : List Int, y_ = (x5_1.take (t371 : Int).toNat) := ⟨_, rfl⟩
     replace H : (if y384.length < 17592186044416 then ((some (y384 ++ [x6_1] : List Int)).bind fun y387 => (if y387.length + y381.length < 17592186044416 then (spec_l3Order.l0 k1 a1 (y387 ++ y381) (wrap64 (x6_1 + 1)) s0_0 t372 t373) else (none))) else (none)) = some (r1, r2, r3) := by first | (rw [hy384]; with_reducible exact H) | (have H2_ := (Option.bind_some _ _).symm.trans H; rw [hy384]; with_reducible exact H2_) | (have H2_ := (Option.bind_some _ _).symm.trans H; with_reducible exact H2_) | with_reducible exact H | (rw [hy384]; exact H) | exact H
     have Ny384 := Aside0.mk hy384
     clear hy384
     by_cases c11 : y384.length < 17592186044416
     ·rw [if_pos c11] at H
      have LMc11 := Aside0.mk c11
      clear c11
      obtain ⟨y387, hy387⟩ : ∃ y_ : List Int, y_ = (y384 ++ [x6_1]) := ⟨_, rfl⟩
      replace H : (if y387.length + y381.length < 17592186044416 then (spec_l3Order.l0 k1 a1 (y387 ++ y381) (wrap64 (x6_1 + 1)) s0_0 t372 t373) else (none)) = some (r1, r2, r3) := by first | (rw [hy387]; with_reducible exact H) | (have H2_ := (Option.bind_some _ _).symm.trans H; rw [hy387]; with_reducible exact H2_) | (have H2_ := (Option.bind_some _ _).symm.trans H; with_reducible exact H2_) | with_reducible exact H | (rw [hy387]; exact H) | exact H
      have Ny387 := Aside0.mk hy387
      clear hy387
      by_cases c12 : y387.length + y381.length < 17592186044416
      ·rw [if_pos c12] at H
       have LMc12 := Aside0.mk c12
       clear c12
       obtain ⟨y390, hy390⟩ : ∃ y_ : List Int, y_ = (y387 ++ y381) := ⟨_, rfl⟩
       replace H : (spec_l3Order.l0 k1 a1 y390 (wrap64 (x6_1 + 1)) s0_0 t372 t373) = some (r1, r2, r3) := by first | (rw [hy390]; with_reducible exact H) | (have H2_ := (Option.bind_some _ _).symm.trans H; rw [hy390]; with_reducible exact H2_) | (have H2_ := (Option.bind_some _ _).symm.trans H; with_reducible exact H2_) | with_reducible exact H | (rw [hy390]; exact H) | exact H
       have Ny390 := Aside0.mk hy390
       clear hy390
       have H' := Aside0.mk H; clear H
       obtain ⟨Ao13, co13, eo13⟩ := Kd.R_slice HO_5.out
       subst eo13
       go_wp2_with (first | ((with_reducible refine gate_callee (f := 125) rfl ?_); refine zD (some 19) Try.func125 #[.pointer (some ⟨g, 0, none⟩), .int .i64 (wrap64 ((x5_1.length : Int) + 1))] ?_; (with_reducible refine (spec_l1Below.calls g s0_0 x1001_1 x1002_1 (wrap64 ((x5_1.length : Int) + 1)) t371 t372 t373 w0 _ ?side1 ?side2 A6.out).mono ?_); (case side1 => exact (zl41_1 HI0.out)); (case side2 => exact (zl41_2 HB.out (IsS110.ge HI0.out))); rintro e w14 ⟨rfl, hi, hb, hk⟩; refine ⟨_, rfl, ?_⟩; replace HO_5 := Aside0.mk (Kd.R_mono (Kd.R_keep (IsS110.apart (show IsS110 w0 _ g s0_0 x1001_1 x1002_1 from (zl41_1 HI0.out)) (zR HO_5.out) (by decide)) hk (fun _ h => h.2)) (fun _ h => h.1)); replace HK := Aside0.mk (KeepBut.trans (zl41_0 HK.out) hk (.inl rfl)); replace HI0 := Aside0.mk (hi); replace HB := Aside0.mk (hb); (try clear hb); (try clear hk); (try clear hi)) | ((with_reducible refine gate_dst (N := 20) rfl ?_); refine Kd.R_lit (Kd.int .i64) _ 3 ?hg (N := 20) ?hd (xs := ([] : List Int)) (inner := []) (ok := fun _ => True) (okp := fun _ => True) ?hr ?hp (fun _ hk => hk) trivial (Below.refl _ _) (Nat.le_refl _) (by simp) ?_; (case hd => rfl); (case hg => rfl); (case hr => first | (go_simp; done) | (go_simp; rfl)); (case hp => exact (Reps.none _ _)); intro v375 w15 ho16 hb hg_ hnew_; clear hg_ hnew_; (first | rw [← Ny374.out] at ho16 | (simp only [Int.reduceToNat] at ho16; rw [← Ny374.out] at ho16)); have n0_ := Aside0.mk (Kd.R_elder' (zR HO_5.out) (Kd.R_base ho16) hb); have n1_ := Aside0.mk (Kd.R_lower (Kd.R_new' ho16 (Kd.R_lt (zR HO_5.out))) (keep_size (w := w) (g := g) (row := none) (zl41_0 HK.out))); have n2_ := Aside0.mk (IsS110.below (zl41_1 HI0.out) hb); have n3_ := Aside0.mk (KeepBut.trans (zl41_0 HK.out) (KeepBut.of_below hb g none) (.inl rfl)); have n4_ := Aside0.mk (below_step (zG (IsS110.ge HI0.out)) hb); clear HO_5; clear HI0; clear HK; clear HB; have HO_5 := n0_; have HO376 := n1_; have HI0 := n2_; have HK := n3_; have HB := n4_; clear n0_ n1_ n2_ n3_ n4_; clear hb ho16; have q17 : (t371 : Int) ≤ ((x5_1.length : Int) : Int) := zA; obtain ⟨i017, hi017, _, hsz17, _⟩ := info_parts info3; have hroom17 : x5_1.length ≤ co13 := (Kd.R_reads' HO_5.out).2.1; have hC17 : Kd.C (Kd.int .i64) _ Ao13 x5_1.length x5_1 := (Kd.R_reads' HO_5.out).2.2; have q017 : (0 : Int) ≤ (t371 : Int) := zA; have hcut17 := cut_from (P := Try.prog) 27 3 .i64 Try.underlying27 hi017 1 hsz17 Ao13 x5_1.length co13 t371 q017 q17; have hr17 := Kd.C_drop (m := (t371 : Int).toNat) (c := co13) hC17 (by omega) hroom17; obtain ⟨A17, hA17⟩ : ∃ A1, A1 = (if co13 = (t371 : Int).toNat then Ao13 else (Ao13 : Option Addr).map (·.add ((t371 : Int).toNat * 1))) := ⟨_, rfl⟩; obtain ⟨c17, hc17⟩ : ∃ c1, c1 = co13 - (t371 : Int).toNat := ⟨_, rfl⟩; have hy17 : y377.length = x5_1.length - (t371 : Int).toNat := (by rw [Ny377.out, List.length_drop] <;> omega); rw [show (x5_1).drop (t371 : Int).toNat = y377 from Ny377.out.symm] at hr17; replace hr17 : Kd.C (Kd.int .i64) _ A17 y377.length y377 := (by rw [hA17]; exact hr17); rw [← hy17, ← hA17, ← hc17] at hcut17; have HR380 := Aside0.mk hr17; have HC380 := Aside0.mk (show y377.length ≤ c17 from by rw [hy17, hc17]; exact Nat.sub_le_sub_right hroom17 _); clear hr17 hC17 hroom17 hi017 hsz17 hc17; have KY17 := Aside0.mk hy17; have KA17 := Aside0.mk hA17; clear hy17 hA17; have KL17 := Aside0.mk (show (t371 : Int).toNat ≤ x5_1.length from by omega); replace q17 := eq_true q17) | ((with_reducible refine gate_builtin (b := .append) (xs := #[.tmp 20, .tmp 23]) rfl ?_); at_builtin; refine Kd.R_append_rows (Kd.int .i64) w.heap.size rfl (.tmp 20) (.tmp 23) 27 3 (.int .i64 0) 8 rfl Try.underlying27 info3 rfl (by decide) (by omega) v375 y374 y377 _ _ _ (fun k_ => some k_ ≠ (.slice Ao13 x5_1.length co13 : Value).ownBlock) (fun _ => False) rfl rfl ?aO ?aR (fun _ _ h => h) (fun _ h => h.elim) ?aF (Below.refl _ _) ?aS ?aL ?_; (case aR => repeat (first | exact (by repeat (first | (with_reducible exact HR380.out) | (with_reducible refine Kd.C_alloc ?_ _) | (with_reducible refine Kd.C_drewN ?_ _) | (with_reducible refine Kd.C_drew ?_) | exact HR380.out)) | (with_reducible refine Kd.C_alloc ?_ _) | (with_reducible refine Kd.C_drewN ?_ _) | (with_reducible refine Kd.C_drew ?_))); (case aF => exact (fun k_ hk => Kd.fresh' (Kd.R_lt (zR HO_5.out)) k_ hk)); (case aO => exact (by (with_reducible repeat (first | apply Kd.R_alloc | apply Kd.R_drewN | apply Kd.R_drew)); exact Kd.R_mono HO376.out (fun _ hk => hk.2))); (case aS => exact (keep_size (w := w) (g := g) (row := none) (zl41_0 HK.out))); (case aL => have := LMc9.out; omega); intro v382 w18 ho hb hg hat; rw [← Ny381.out] at ho; have n0_ := Aside0.mk (Kd.R_after (ok := (fun _ => True)) (zR HO_5.out) hg hat); have n1_ := Aside0.mk (IsS110.grown (zl41_1 HI0.out) hg (IsS110.own_ne HI0.out HO376.out (by decide))); have n2_ := Aside0.mk (below_weaken (zG (IsS110.ge HI0.out)) HL.out hb); have n3_ := Aside0.mk (KeepBut.trans (zl41_0 HK.out) (KeepBut.of_grown hg g) (Kd.R_base2 HO376.out)); have n4_ := Aside0.mk ((show Kd.C (Kd.int .i64) w18 A17 y377.length y377 from by rw [Ny377.out, KA17.out]; exact Kd.C_drop (m := (t371 : Int).toNat) (c := co13) ((Kd.R_reads' (Kd.R_after (ok := (fun _ => True)) (zR HO_5.out) hg hat)).2.2) KL17.out ((Kd.R_reads' (Kd.R_after (ok := (fun _ => True)) (zR HO_5.out) hg hat)).2.1))); have n5_ := Aside0.mk (ho); clear HO_5; clear HI0; clear HB; clear HK; clear HR380; clear HO376; have HO_5 := n0_; have HI0 := n1_; have HB := n2_; have HK := n3_; have HR380 := n4_; have HO383 := n5_; clear n0_ n1_ n2_ n3_ n4_ n5_; clear ho hb hg hat; have q19 : (t371 : Int) ≤ ((x5_1.length : Int) : Int) := zA; obtain ⟨i019, hi019, _, hsz19, _⟩ := info_parts info3; have hcut19 := cut_to (P := Try.prog) 27 3 .i64 Try.underlying27 hi019 Ao13 x5_1.length co13 t371 (zA) q19 (Kd.R_reads' HO_5.out).2.1; have hr19 := Kd.R_take (m := (t371 : Int).toNat) HO_5.out (by omega); have hy19 : y384.length = (t371 : Int).toNat := (by rw [Ny384.out, List.length_take]; omega); rw [← Ny384.out] at hr19; rw [← hy19] at hr19 hcut19; clear hy19 hi019 hsz19 HO_5; have HO386 := Aside0.mk hr19; clear hr19; replace q19 := eq_true q19) | ((with_reducible refine gate_builtin (b := .append) (xs := #[.tmp 27, .tmp 29]) rfl ?_); at_builtin; refine Kd.R_append (Kd.int .i64) w.heap.size rfl (.tmp 27) (.tmp 29) 27 3 (.int .i64 0) 8 rfl Try.underlying27 info3 rfl (by decide) (by omega) (.slice Ao13 y384.length co13) y384 x6_1 [.int .i64 x6_1] (fun k_ => some k_ ≠ (v382 : Value).ownBlock) (fun _ => False) rfl rfl ?aP (fun _ hk => hk.elim) ?aF ?aO (Below.refl _ _) ?aS ?aL ?_; (case aP => exact rfl); (case aF => exact (fun k_ hk => Kd.fresh' (Kd.R_lt (zR HO383.out)) k_ hk)); (case aO => exact (by (with_reducible repeat (first | apply Kd.R_alloc | apply Kd.R_drewN | apply Kd.R_drew)); exact Kd.R_mono HO386.out (fun _ hk => hk.2))); (case aS => exact (keep_size (w := w) (g := g) (row := none) (zl41_0 HK.out))); (case aL => have := LMc11.out; omega); intro v388 w20 ho hb hg hat; rw [← Ny387.out] at ho; have n0_ := Aside0.mk (IsS110.grown (zl41_1 HI0.out) hg (IsS110.own_ne HI0.out HO386.out (by decide))); have n1_ := Aside0.mk (Kd.R_after (ok := (fun _ => True)) (by (with_reducible repeat (first | apply Kd.R_alloc | apply Kd.R_drewN | apply Kd.R_drew)); exact Kd.R_mono HO383.out (fun _ hk => ⟨trivial, by first | exact hk | exact fun e_ => hk (e_.trans (ownB_len _ _ _ _ _))⟩)) hg hat); have n2_ := Aside0.mk (below_weaken (zG (IsS110.ge HI0.out)) HL.out hb); have n3_ := Aside0.mk (KeepBut.trans (zl41_0 HK.out) (KeepBut.of_grown hg g) (Kd.R_base2 HO386.out)); have n4_ := Aside0.mk (ho); clear HI0; clear HO383; clear HB; clear HK; clear HO386; have HI0 := n0_; have HO383 := n1_; have HB := n2_; have HK := n3_; have HO389 := n4_; clear n0_ n1_ n2_ n3_ n4_; clear ho hb hg hat; obtain ⟨Ao22, co22, eo22⟩ := Kd.R_slice HO383.out; subst eo22) | ((with_reducible refine gate_builtin (b := .append) (xs := #[.tmp 30, .tmp 31]) rfl ?_); at_builtin; refine Kd.R_append_rows (Kd.int .i64) w.heap.size rfl (.tmp 30) (.tmp 31) 27 3 (.int .i64 0) 8 rfl Try.underlying27 info3 rfl (by decide) (by omega) v388 y387 y381 _ _ _ (fun k_ => some k_ ≠ (.slice Ao22 y381.length co22 : Value).ownBlock) (fun _ => False) rfl rfl ?aO ?aR (fun _ _ h => h) (fun _ h => h.elim) ?aF (Below.refl _ _) ?aS ?aL ?_; (case aR => repeat (first | exact (Kd.R_reads' HO383.out).2.2 | (with_reducible refine Kd.C_alloc ?_ _) | (with_reducible refine Kd.C_drewN ?_ _) | (with_reducible refine Kd.C_drew ?_))); (case aF => exact (fun k_ hk => Kd.fresh' (Kd.R_lt (zR HO383.out)) k_ hk)); (case aO => exact (zR HO389.out)); (case aS => exact (keep_size (w := w) (g := g) (row := none) (zl41_0 HK.out))); (case aL => have := LMc12.out; omega); intro v391 w21 ho hb hg hat; rw [← Ny390.out] at ho; have n0_ := Aside0.mk (IsS110.grown (zl41_1 HI0.out) hg (IsS110.own_ne HI0.out HO389.out (by decide))); have n1_ := Aside0.mk (Kd.R_after (ok := (fun _ => True)) (zR HO383.out) hg hat); have n2_ := Aside0.mk (below_weaken (zG (IsS110.ge HI0.out)) HL.out hb); have n3_ := Aside0.mk (KeepBut.trans (zl41_0 HK.out) (KeepBut.of_grown hg g) (Kd.R_base2 HO389.out)); have n4_ := Aside0.mk (ho); clear HI0; clear HO383; clear HB; clear HK; clear HO389; have HI0 := n0_; have HO383 := n1_; have HB := n2_; have HK := n3_; have HO392 := n4_; clear n0_ n1_ n2_ n3_ n4_; clear ho hb hg hat))
       go_roundg k1
       case measure => have := HK1.out; omega
       case rel => exact ⟨(y390), (wrap64 (x6_1 + 1)), (t372), (t373), zF, H', ⟨by have := HK1.out; omega⟩, ⟨by (with_reducible repeat (first | apply Kd.R_alloc | apply Kd.R_drewN | apply Kd.R_drew)); exact Kd.R_mono HO392.out (fun _ hk => trivial)⟩, ⟨(zl41_1 HI0.out)⟩, ⟨(zl41_0 HK.out)⟩, ⟨zG (IsS110.ge HI0.out)⟩⟩
      rw [if_neg c12] at H
      exact absurd H (by simp)
     rw [if_neg c11] at H
     exact absurd H (by simp)
    rw [if_neg c9] at H
    exact absurd H (by simp)
   rw [if_neg c8] at H
   exact absurd H (by simp)
  rw [if_neg c7] at H
  exact absurd H (by simp)
 rw [if_neg c5] at H
 have c5b0 : decide (x6_1 < a1) = false := decide_eq_false c5
 clear c5
 simp only [Option.some.injEq, Prod.mk.injEq] at H
 obtain ⟨rfl, rfl, rfl⟩ := H
 go_wp2
 go_ret
 exact ⟨_, zE, zR HO_5.out, (zl41_1 HI0.out), zG (IsS110.ge HI0.out), (zl41_0 HK.out)⟩
/-! ### spec_l4Four: function 91 -/
def spec_l4Four.f (k : Nat) (l0 : List Int) : Option (Int × ByteArray × List Int) := (spec_l1New.f k l0).bind fun bt394 => ((spec_l4Draw.f k bt394.1 bt394.2.1 bt394.2.2).bind fun bt398 => ((spec_l1Max.f 4 bt398.1).bind fun t403 => ((spec_l3Order.f k bt394.1 bt398.2.2.1 bt398.2.2.2 t403).bind fun bt404 => ((spec_l1Once.f bt394.1 bt404.2.1 bt404.2.2 14).bind fun bt409 => (if bt409.1 = true then ((spec_l1Below.f bt394.1 bt409.2.1 bt409.2.2 8).bind fun bt412 => (if 0 < (bt404.1.length : Int) then (if 4 ≤ (bt404.1.length : Int) then (some (bt398.1, bt398.2.1, ((bt404.1.set (0 : Int).toNat (wrap64 (bt412.1 - 1))).take (4 : Int).toNat))) else (none)) else (none))) else (if 4 ≤ (bt404.1.length : Int) then (some (bt398.1, bt398.2.1, (bt404.1.take (4 : Int).toNat))) else (none)))))))
theorem zl42_0 {p q p0 : Prop} (g : p) (g0 : p0) (h : p → p0 → q := by intro zg_ z0_; repeat (first | (with_reducible first | exact zg_ | apply below_alloc | apply pw_below_drewN | apply below_drew1 | refine below_set ?_ z0_) | exact zg_)) : q := h g g0
theorem zl42_1 {p q p0 : Prop} (g : p) (g0 : p0) (h : p → p0 → q := by intro zg_ z0_; repeat (first | (with_reducible first | exact zg_ | apply IsS110.alloc | apply IsS110.drewN | apply IsS110.drew | apply IsS110.set_1 | apply IsS110.set_2 | refine IsS110.far ?_ z0_ _) | exact zg_)) : q := h g g0
theorem zl42_2 {p q p0 p1 : Prop} (g : p) (g0 : p0) (g1 : p1) (h : p → p0 → p1 → q := by intro zg_ z0_ z1_; repeat (first | (with_reducible first | exact zg_ | apply below_alloc | apply pw_below_drewN | apply below_drew1 | refine below_set ?_ z0_ | refine below_set ?_ z1_) | exact zg_)) : q := h g g0 g1
theorem zl42_3 {p q p0 p1 : Prop} (g : p) (g0 : p0) (g1 : p1) (h : p → p0 → p1 → q := by intro zg_ z0_ z1_; repeat (first | (with_reducible first | exact zg_ | apply IsS110.alloc | apply IsS110.drewN | apply IsS110.drew | apply IsS110.set_1 | apply IsS110.set_2 | refine IsS110.far ?_ z0_ _ | refine IsS110.far ?_ z1_ _) | exact zg_)) : q := h g g0 g1
theorem zl42_4 {p q p0 p1 p2 : Prop} (g : p) (g0 : p0) (g1 : p1) (g2 : p2) (h : p → p0 → p1 → p2 → q := by intro zg_ z0_ z1_ z2_; repeat (first | (with_reducible first | exact zg_ | apply below_alloc | apply pw_below_drewN | apply below_drew1 | refine below_set ?_ z0_ | refine below_set ?_ z1_ | refine below_set ?_ z2_) | exact zg_)) : q := h g g0 g1 g2
set_option maxHeartbeats 8000000 in
set_option maxRecDepth 100000 in
theorem spec_l4Four.calls (k : Nat) (A0 : Option Addr) (c0 : Nat) (l0 : List Int) (r1 : Int) (r2 : ByteArray) (r3 : List Int) (w : World) (hr0 : Kd.C (Kd.int .u8) w A0 l0.length l0) (hc0 : l0.length ≤ c0) (h : spec_l4Four.f k l0 = some (r1, r2, r3)) :
  Calls Try.prog 91 #[.slice A0 l0.length c0] w fun e w' => ∃ v2_ : Value, e = .returned (.tuple #[.agg #[.int .i64 r1, .string r2], v2_]) ∧ Kd.R (Kd.int .i64) 3 w' w.heap.size (fun _ => True) v2_ r3 ∧ Below w.heap.size w w' := by
 have hu25 := Try.underlying25
 have HR0 := Aside0.mk hr0
 have HC0 := Aside0.mk hc0
 clear hr0 hc0
 have HB := Aside0.mk (Below.refl w.heap.size w)
 have H : ((spec_l1New.f k l0).bind fun bt394 => ((spec_l4Draw.f k bt394.1 bt394.2.1 bt394.2.2).bind fun bt398 => ((spec_l1Max.f 4 bt398.1).bind fun t403 => ((spec_l3Order.f k bt394.1 bt398.2.2.1 bt398.2.2.2 t403).bind fun bt404 => ((spec_l1Once.f bt394.1 bt404.2.1 bt404.2.2 14).bind fun bt409 => (if bt409.1 = true then ((spec_l1Below.f bt394.1 bt409.2.1 bt409.2.2 8).bind fun bt412 => (if 0 < (bt404.1.length : Int) then (if 4 ≤ (bt404.1.length : Int) then (some (bt398.1, bt398.2.1, ((bt404.1.set (0 : Int).toNat (wrap64 (bt412.1 - 1))).take (4 : Int).toNat))) else (none)) else (none))) else (if 4 ≤ (bt404.1.length : Int) then (some (bt398.1, bt398.2.1, (bt404.1.take (4 : Int).toNat))) else (none)))))))) = some (r1, r2, r3) := h
 clear h
 obtain ⟨⟨t394, t395, t396⟩, A2, H⟩ := zO H
 dsimp only at H
 obtain ⟨⟨t398, t399, t400, t401⟩, A3, H⟩ := zO H
 dsimp only at H
 obtain ⟨t403, A4, H⟩ := zO H
 obtain ⟨⟨t404, t407, t408⟩, A5, H⟩ := zO H
 dsimp only at H
 obtain ⟨⟨t409, t410, t411⟩, A6, H⟩ := zO H
 dsimp only at H
 by_cases c7 : t409 = true
 ·subst c7
  replace H := (if_pos rfl).symm.trans H
  obtain ⟨⟨t412, t413, t414⟩, A8, H⟩ := zO H
  dsimp only at H
  by_cases c9 : 0 < (t404.length : Int)
  ·rw [if_pos c9] at H
   have c9b0 : decide (0 < (t404.length : Int)) = true := decide_eq_true c9
   have c9b1 : decide (0 < t404.length) = true := decide_eq_true (by omega)
   clear c9
   obtain ⟨y415, hy415⟩ : ∃ y_ : List Int, y_ = (t404.set (0 : Int).toNat (wrap64 (t412 - 1))) := ⟨_, rfl⟩
   replace H : (if 4 ≤ (t404.length : Int) then (some (t398, t399, (y415.take (4 : Int).toNat))) else (none)) = some (r1, r2, r3) := by first | (rw [hy415]; with_reducible exact H) | (have H2_ := (Option.bind_some _ _).symm.trans H; rw [hy415]; with_reducible exact H2_) | (have H2_ := (Option.bind_some _ _).symm.trans H; with_reducible exact H2_) | with_reducible exact H | (rw [hy415]; exact H) | exact H
   have Ny415 := Aside0.mk hy415
   clear hy415
   by_cases c11 : 4 ≤ (t404.length : Int)
   ·rw [if_pos c11] at H
    have c11b0 := eq_true c11
    have c11b1 : decide (4 ≤ (t404.length : Int)) = true := decide_eq_true c11
    clear c11
    obtain ⟨y416, hy416⟩ : ∃ y_ : List Int, y_ = (y415.take (4 : Int).toNat) := ⟨_, rfl⟩
    replace H : (some (t398, t399, y416)) = some (r1, r2, r3) := by first | (rw [hy416]; with_reducible exact H) | (have H2_ := (Option.bind_some _ _).symm.trans H; rw [hy416]; with_reducible exact H2_) | (have H2_ := (Option.bind_some _ _).symm.trans H; with_reducible exact H2_) | with_reducible exact H | (rw [hy416]; exact H) | exact H
    have Ny416 := Aside0.mk hy416
    clear hy416
    simp only [Option.some.injEq, Prod.mk.injEq] at H
    obtain ⟨rfl, rfl, rfl⟩ := H
    go_enter Try.func91, Try.ntmps91
    try go_wp2_with (first | ((with_reducible refine gate_dst (N := 2) rfl ?_); refine zBx (N := 2) #[.int .i64 0, .string (⟨#[]⟩ : ByteArray)] 25 ?_; intro gb393 hg w12 hbox hb; have BK393 := Aside0.mk (hbox); have GW393 := zS hg; have GE393 := zS hg; replace HB := zX hb; clear hb hbox hg) | ((with_reducible refine gate_callee (f := 81) rfl ?_); refine zD (some 8) Try.func81 #[.slice A0 l0.length c0] ?_; (with_reducible refine (spec_l1New.calls k _ _ l0 t394 t395 t396 w _ ?side1 ?side2 ?side3 A2.out).mono ?_); (case side1 => exact (zl42_0 HB.out GE393.out)); (case side2 => exact HR0.out); (case side3 => exact HC0.out); rintro e w13 ⟨g397, rfl, hi, hb, hb2⟩; refine ⟨_, rfl, ?_⟩; have HI397 := Aside0.mk (hi); have NB397_393 := Aside0.mk (IsS110.ne_blk hi (blk_below (g := gb393) (o := .cells #[.int .i64 0, .string (⟨#[]⟩ : ByteArray)] 25 (0, 0)) (zK BK393.out) hb2) (by decide)); have NB393_397 := Aside0.mk (Ne.symm (IsS110.ne_blk hi (blk_below (g := gb393) (o := .cells #[.int .i64 0, .string (⟨#[]⟩ : ByteArray)] 25 (0, 0)) (zK BK393.out) hb2) (by decide))); replace BK393 := Aside0.mk (blk_below (g := gb393) (o := .cells #[.int .i64 0, .string (⟨#[]⟩ : ByteArray)] 25 (0, 0)) (zK BK393.out) hb2); replace HB := Aside0.mk (hb); (try clear hb); (try clear hb2); (try clear hi)) | ((with_reducible refine gate_callee (f := 80) rfl ?_); refine zD (some 10) Try.func80 #[.pointer (some ⟨g397, 0, none⟩)] ?_; (with_reducible refine (spec_l4Draw.calls k g397 t394 t395 t396 t398 t399 t400 t401 w _ ?side1 ?side2 A3.out).mono ?_); (case side1 => exact (zl42_1 HI397.out NB397_393.out)); (case side2 => exact (zl42_2 HB.out (IsS110.ge HI397.out) GE393.out)); rintro e w14 ⟨rfl, hi, hb, hk⟩; refine ⟨_, rfl, ?_⟩; replace BK393 := zKB hk BK393.out NB393_397.out; replace HI397 := Aside0.mk (hi); replace HB := Aside0.mk (hb); (try clear hb); (try clear hk); (try clear hi)) | ((with_reducible refine gate_dst (N := 5) rfl ?_); refine zBx (N := 5) #[.int .i64 0, .string (⟨#[]⟩ : ByteArray)] 25 ?_; intro gb402 hg w15 hbox hb; have n0_ := zV BK393.out hb; have n1_ := Aside0.mk (IsS110.below (zl42_1 HI397.out NB397_393.out) hb); have n2_ := Aside0.mk (below_step (zG2 (IsS110.ge HI397.out) GE393.out) hb); have n3_ := Aside0.mk (hbox); have n4_ := zSg hg (zG2 (IsS110.ge HI397.out) GE393.out); have n5_ := zSg hg (zG2 (IsS110.ge HI397.out) GE393.out); have n6_ := zL hg BK393.out; have n7_ := zLg hg BK393.out; have n8_ := Aside0.mk ((by rw [hg]; exact Nat.ne_of_lt (IsS110.lt (show IsS110 w _ g397 t394 t400 t401 from (zl42_1 HI397.out NB397_393.out))) : g397 ≠ gb402)); have n9_ := Aside0.mk ((by rw [hg]; exact Nat.ne_of_gt (IsS110.lt (show IsS110 w _ g397 t394 t400 t401 from (zl42_1 HI397.out NB397_393.out))) : gb402 ≠ g397)); clear BK393; clear HI397; clear HB; have BK393 := n0_; have HI397 := n1_; have HB := n2_; have BK402 := n3_; have GW402 := n4_; have GE402 := n5_; have NB393_402 := n6_; have NB402_393 := n7_; have NB397_402 := n8_; have NB402_397 := n9_; clear n0_ n1_ n2_ n3_ n4_ n5_ n6_ n7_ n8_ n9_; clear hb hbox hg; have hnb16 := NB402_393.out; have hnc16 := NB393_402.out; have hnb17 := NB402_397.out; have hnc17 := NB397_402.out; obtain ⟨hcz18_0, hcz18_1, hfz18_0, hfz18_1⟩ := zq2 BK402.out) | ((with_reducible refine gate_callee (f := 112) rfl ?_); refine zD (some 14) Try.func112 #[.int .i64 4, .int .i64 t398] ?_; (with_reducible refine (spec_l1Max.calls 4 t398 t403 _ A4.out).mono ?_); rintro e w' ⟨rfl, ⟨nd, rfl⟩⟩; refine ⟨_, rfl, ?_⟩) | ((with_reducible refine gate_callee (f := 145) rfl ?_); refine zD (some 15) Try.func145 #[.pointer (some ⟨g397, 0, none⟩), .int .i64 t403] ?_; (with_reducible refine (spec_l3Order.calls k g397 t394 t400 t401 t403 t404 t407 t408 w _ ?side1 ?side2 A5.out).mono ?_); (case side1 => exact (zl42_3 HI397.out NB397_393.out NB397_402.out)); (case side2 => exact (zl42_4 HB.out (IsS110.ge HI397.out) GE393.out GE402.out)); rintro e w19 ⟨v405, rfl, ho0, hi, hb, hk⟩; refine ⟨_, rfl, ?_⟩; replace BK393 := Aside0.mk (KeepBut.blk hk (g' := gb393) (o := .cells #[.int .i64 0, .string (⟨#[]⟩ : ByteArray)] 25 (0, 0)) (zk2 BK393.out NB393_402.out NB393_402.out) NB393_397.out (by simp)); replace BK402 := Aside0.mk (KeepBut.blk hk (g' := gb402) (o := .cells #[.int .i64 t398, .string t399] 25 (0, 0)) (zk0 BK402.out) NB402_397.out (by simp)); have HO406 := Aside0.mk (Kd.R_lower ho0 (below_size (zG3 (IsS110.ge HI397.out) GE393.out GE402.out))); replace HI397 := Aside0.mk (hi); replace HB := Aside0.mk (hb); (try clear hb); (try clear hk); (try clear hi); (try clear ho0)) | ((with_reducible refine gate_callee (f := 127) rfl ?_); refine zD (some 17) Try.func127 #[.pointer (some ⟨g397, 0, none⟩), .int .i64 14] ?_; (with_reducible refine (spec_l1Once.calls g397 t394 t407 t408 14 true t410 t411 w _ ?side1 ?side2 A6.out).mono ?_); (case side1 => exact (zl42_3 HI397.out NB397_393.out NB397_402.out)); (case side2 => exact (zl42_4 HB.out (IsS110.ge HI397.out) GE393.out GE402.out)); rintro e w20 ⟨rfl, hi, hb, hk⟩; refine ⟨_, rfl, ?_⟩; replace BK393 := zKB hk BK393.out NB393_397.out; replace BK402 := zKB hk BK402.out NB402_397.out; replace HO406 := Aside0.mk (Kd.R_mono (Kd.R_keep (IsS110.apart (show IsS110 w _ g397 t394 t407 t408 from (zl42_3 HI397.out NB397_393.out NB397_402.out)) (zR HO406.out) (by decide)) hk (fun _ h => h.2)) (fun _ h => h.1)); replace HI397 := Aside0.mk (hi); replace HB := Aside0.mk (hb); (try clear hb); (try clear hk); (try clear hi)) | ((with_reducible refine gate_callee (f := 125) rfl ?_); refine zD (some 20) Try.func125 #[.pointer (some ⟨g397, 0, none⟩), .int .i64 8] ?_; (with_reducible refine (spec_l1Below.calls g397 t394 t410 t411 8 t412 t413 t414 w _ ?side1 ?side2 A8.out).mono ?_); (case side1 => exact (zl42_3 HI397.out NB397_393.out NB397_402.out)); (case side2 => exact (zl42_4 HB.out (IsS110.ge HI397.out) GE393.out GE402.out)); rintro e w21 ⟨rfl, hi, hb, hk⟩; refine ⟨_, rfl, ?_⟩; replace BK393 := zKB hk BK393.out NB393_397.out; replace BK402 := zKB hk BK402.out NB402_397.out; replace HO406 := Aside0.mk (Kd.R_mono (Kd.R_keep (IsS110.apart (show IsS110 w _ g397 t394 t410 t411 from (zl42_3 HI397.out NB397_393.out NB397_402.out)) (zR HO406.out) (by decide)) hk (fun _ h => h.2)) (fun _ h => h.1)); replace HI397 := Aside0.mk (hi); replace HB := Aside0.mk (hb); (try clear hb); (try clear hk); (try clear hi); have p10 : 0 ≤ (0 : Int) := (by omega); have q10 : (0 : Int) < ((t404.length : Int) : Int) := zA; have qi10 : (0 < t404.length) = True := eq_true (by omega); obtain ⟨go10, co10, eo10, gb10, gl10, cl10, HG10⟩ := Kd.R_form HO406.out (by omega); (first | cases eo10 | (injection eo10 with ea_ en_ ec_; (first | subst ea_ | (injection ea_ with ea_; subst ea_)); subst ec_; clear en_)); have GB10 := Aside0.mk gb10; have GG10 := Aside0.mk HG10; clear gb10 gl10 HG10; obtain ⟨hx10_0, hf10_0⟩ := Kd.R_celln 0 HO406.out (0 : Int) p10 q10; (try rw [show ((0 : Int)).toNat = 0 from rfl] at hx10_0); (try simp only [Nat.reduceMul, Nat.zero_mul, Nat.zero_add, Nat.reduceAdd] at hx10_0); (try rw [show ((0 : Int)).toNat = 0 from rfl] at hf10_0); (try simp only [Nat.reduceMul, Nat.zero_mul, Nat.zero_add, Nat.reduceAdd] at hf10_0); replace p10 := eq_true p10; replace q10 := eq_true q10; obtain ⟨hy22_, hz22_⟩ := Kd.R_celln 0 HO406.out (0 : Int) (by omega) (zA); (try simp only [Int.reduceToNat, Int.toNat_zero, Int.toNat_ofNat, Nat.reduceMul, Nat.zero_mul, Nat.zero_add] at hy22_ hz22_); (try rw [show ((0 : Int)).toNat = 0 from rfl] at hy22_); (try rw [show ((0 : Int)).toNat = 0 from rfl] at hz22_); have HP22 := Kd.R_putg HO406.out (0 : Int) (wrap64 (t412 - 1))) | ((with_reducible refine gate_store (t := 3) (p := 22) rfl ?_); refine store_event (t := 3) (p := 22) (v := ?vo_w23) (w1 := (w21.setCell ⟨go10, (0 : Int).toNat, none⟩ (.int .i64 (wrap64 (t412 - 1))))) ?hg ?ho ?hn ?hr ?_; (case ho => rfl); (case hg => rfl); (case hn => rfl); (case hr => first | (go_simp; done) | (go_simp; rfl)); intro w23 hw; have hg : w21.grownBy w23 (some go10) := (by rw [hw]; exact HP22.2); have hp_ : Kd.R (Kd.int .i64) 3 w23 w.heap.size (fun _ => True) (.slice (some ⟨go10, 0, none⟩) t404.length co10) y415 := (by rw [hw, Ny415.out]; exact HP22.1); clear HP22; replace BK393 := Aside0.mk (blk_grown (g := gb393) (o := .cells #[.int .i64 0, .string (⟨#[]⟩ : ByteArray)] 25 (0, 0)) (zK BK393.out) hg (Kd.R_ne HO406.out BK393.out (by decide))); replace HI397 := Aside0.mk (IsS110.grown (zl42_3 HI397.out NB397_393.out NB397_402.out) hg (IsS110.own_ne HI397.out HO406.out (by decide))); replace BK402 := Aside0.mk (blk_grown (g := gb402) (o := .cells #[.int .i64 t398, .string t399] 25 (0, 0)) (zK BK402.out) hg (Kd.R_ne HO406.out BK402.out (by decide))); replace HO406 := Aside0.mk (hp_); replace HB := Aside0.mk ((by rw [hw]; exact below_set (HB.out) GB10.out : Below w.heap.size w w23)); clear hg hw hp_))
    replace HO406 := Aside0.mk (Kd.R_drew HO406.out)
    replace BK393 := Aside0.mk (blk_drew BK393.out)
    replace BK402 := Aside0.mk (blk_drew BK402.out)
    replace HI397 := Aside0.mk (IsS110.drew HI397.out)
    replace HB := Aside0.mk (below_drew1 HB.out)
    have q25 : (4 : Int) ≤ ((t404.length : Int) : Int) := zA
    obtain ⟨i025, hi025, _, hsz25, _⟩ := info_parts info3
    have hcut25 := cut_to (P := Try.prog) 27 3 .i64 Try.underlying27 hi025 (some ⟨go10, 0, none⟩) t404.length co10 4 (by omega) q25 (Kd.R_reads' HO406.out).2.1
    have hle_ : y415.length = t404.length := by rw [Ny415.out, List.length_set]
    have hr25 := Kd.R_take (m := (4 : Int).toNat) HO406.out (by omega)
    have hy25 : y416.length = (4 : Int).toNat := (by rw [Ny416.out, List.length_take]; omega)
    clear hle_
    rw [← Ny416.out] at hr25
    rw [← hy25] at hr25 hcut25
    clear hy25 hi025 hsz25 HO406
    have HO418 := Aside0.mk hr25
    clear hr25
    replace q25 := eq_true q25
    refine start_ (n := 5) (S := fun w' => w'.cell? ⟨gb402, 0, none⟩ = some (.int .i64 t398) ∧ w'.cell? ⟨gb402, 1, none⟩ = some (.string t399)) (ds := []) #[false, false, false, false, false] (by kernel_rfl) rfl rfl ⟨(blk_cell BK402.out 0).trans rfl, (blk_cell BK402.out 1).trans rfl⟩ (fun hHeld => ?_)
    generalize w23.drew = w24 at BK393 BK402 HI397 HB HO418 hHeld ⊢
    refine pure_ (i := 1) (N := some 24) (v := ?_) (a' := ?_) #[false, true, false, false, false] rfl rfl (by kernel_rfl) (fun _ _ _ h => h) (Or.inl ⟨by rfl, ?_⟩) ?_ ?_
    rotate_left
    ·intro w'
     go_simp
     with_reducible rfl
    rotate_left
    ·simp only [Act.put, List.setIfInBounds_toArray, List.set_cons_zero, List.set_cons_succ, i64_w, i32_w]
     rfl
    refine pure_ (i := 2) (N := some 25) (v := ?_) (a' := ?_) #[false, true, true, false, false] rfl rfl (by kernel_rfl) (fun _ _ _ h => h) (Or.inl ⟨by rfl, ?_⟩) ?_ ?_
    rotate_left
    ·intro w'
     go_simp
     with_reducible rfl
    rotate_left
    ·simp only [Act.put, List.setIfInBounds_toArray, List.set_cons_zero, List.set_cons_succ, i64_w, i32_w]
     rfl
    refine take_ (i := 0) (N := some 23) (v := ?_) (a' := ?_) #[true, true, true, false, false] rfl rfl (by kernel_rfl) (fun _ _ _ h => h) (Or.inl ⟨by rfl, ?_⟩) hHeld ?_ ?_
    rotate_left
    ·rintro w' ⟨s0, s1⟩
     go_simp
     with_reducible rfl
    rotate_left
    ·simp only [Act.put, List.setIfInBounds_toArray, List.set_cons_zero, List.set_cons_succ, i64_w, i32_w]
     rfl
    refine one_ (i := 3) (N := none) #[true, true, true, true, false] rfl rfl (by kernel_rfl) (by decide) (fun K hK => ?_)
    have hs26 : w24.cell? ⟨gb393, 0, none⟩ = some (.int .i64 0) := (blk_cell BK393.out 0).trans rfl
    have hfs26 := blk_frozen BK393.out 0
    have hns26_1 := NB402_393.out
    have hms26_1 := NB393_402.out
    have hs27 : w24.cell? ⟨gb393, 1, none⟩ = some (.string (⟨#[]⟩ : ByteArray)) := (blk_cell BK393.out 1).trans rfl
    have hfs27 := blk_frozen BK393.out 1
    have hns27_1 := NB402_393.out
    have hms27_1 := NB393_402.out
    refine skip_ (w1 := ?_) (by rfl) rfl ?_ ?_
    rotate_left
    ·go_simp
     rfl
    refine hK.out _ _ ⟨((cell_far (p := ⟨gb393, _, none⟩) NB402_393.out _).trans (((cell_far (p := ⟨gb393, _, none⟩) NB402_393.out _).trans (hHeld.1)))), ((cell_far (p := ⟨gb393, _, none⟩) NB402_393.out _).trans (((cell_far (p := ⟨gb393, _, none⟩) NB402_393.out _).trans (hHeld.2))))⟩ (fun hHeld => ?_)
    clear hK K
    refine pure_ (i := 4) (N := some 3) (v := ?_) (a' := ?_) #[true, true, true, true, true] rfl rfl (by kernel_rfl) (fun _ _ _ h => h) (Or.inl ⟨by rfl, ?_⟩) ?_ ?_
    rotate_left
    ·intro w'
     go_simp
     with_reducible rfl
    rotate_left
    ·simp only [Act.put, List.setIfInBounds_toArray, List.set_cons_zero, List.set_cons_succ, i64_w, i32_w]
     rfl
    refine done_ (by kernel_rfl) ?_
    try go_wp2
    refine bodyPost_ret (results_ct rfl _ _ gb393 25 #[.int .i64 t398, .string t399] (0, 0) _ rfl (zk0 BK393.out) Try.underlying25 rfl (by kernel_rfl)) rfl ?_
    exact ⟨_, zE, by (with_reducible repeat (first | apply Kd.R_alloc | apply Kd.R_drewN | apply Kd.R_drew)); exact Kd.R_mono (Kd.R_far (p := ⟨gb393, 1, none⟩) (Kd.R_far (p := ⟨gb393, 0, none⟩) (Kd.R_types HO418.out BK393.out (by decide)) (fun _ hk => hk.2) (.int .i64 t398)) (fun _ hk => hk.2) (.string t399)) (fun _ hk => trivial), zG3 (IsS110.ge HI397.out) GE393.out GE402.out⟩
   rw [if_neg c11] at H
   exact absurd H (by simp)
  rw [if_neg c9] at H
  exact absurd H (by simp)
 replace c7 := Bool.eq_false_iff.mpr c7
 subst c7
 replace H := (if_neg zFf).symm.trans H
 by_cases c28 : 4 ≤ (t404.length : Int)
 ·rw [if_pos c28] at H
  have c28b0 := eq_true c28
  have c28b1 : decide (4 ≤ (t404.length : Int)) = true := decide_eq_true c28
  clear c28
  obtain ⟨y419, hy419⟩ : ∃ y_ : List Int, y_ = (t404.take (4 : Int).toNat) := ⟨_, rfl⟩
  replace H : (some (t398, t399, y419)) = some (r1, r2, r3) := by first | (rw [hy419]; with_reducible exact H) | (have H2_ := (Option.bind_some _ _).symm.trans H; rw [hy419]; with_reducible exact H2_) | (have H2_ := (Option.bind_some _ _).symm.trans H; with_reducible exact H2_) | with_reducible exact H | (rw [hy419]; exact H) | exact H
  have Ny419 := Aside0.mk hy419
  clear hy419
  simp only [Option.some.injEq, Prod.mk.injEq] at H
  obtain ⟨rfl, rfl, rfl⟩ := H
  go_enter Try.func91, Try.ntmps91
  try go_wp2_with (first | ((with_reducible refine gate_dst (N := 2) rfl ?_); refine zBx (N := 2) #[.int .i64 0, .string (⟨#[]⟩ : ByteArray)] 25 ?_; intro gb393 hg w29 hbox hb; have BK393 := Aside0.mk (hbox); have GW393 := zS hg; have GE393 := zS hg; replace HB := zX hb; clear hb hbox hg) | ((with_reducible refine gate_callee (f := 81) rfl ?_); refine zD (some 8) Try.func81 #[.slice A0 l0.length c0] ?_; (with_reducible refine (spec_l1New.calls k _ _ l0 t394 t395 t396 w _ ?side1 ?side2 ?side3 A2.out).mono ?_); (case side1 => exact (zl42_0 HB.out GE393.out)); (case side2 => exact HR0.out); (case side3 => exact HC0.out); rintro e w30 ⟨g397, rfl, hi, hb, hb2⟩; refine ⟨_, rfl, ?_⟩; have HI397 := Aside0.mk (hi); have NB397_393 := Aside0.mk (IsS110.ne_blk hi (blk_below (g := gb393) (o := .cells #[.int .i64 0, .string (⟨#[]⟩ : ByteArray)] 25 (0, 0)) (zK BK393.out) hb2) (by decide)); have NB393_397 := Aside0.mk (Ne.symm (IsS110.ne_blk hi (blk_below (g := gb393) (o := .cells #[.int .i64 0, .string (⟨#[]⟩ : ByteArray)] 25 (0, 0)) (zK BK393.out) hb2) (by decide))); replace BK393 := Aside0.mk (blk_below (g := gb393) (o := .cells #[.int .i64 0, .string (⟨#[]⟩ : ByteArray)] 25 (0, 0)) (zK BK393.out) hb2); replace HB := Aside0.mk (hb); (try clear hb); (try clear hb2); (try clear hi)) | ((with_reducible refine gate_callee (f := 80) rfl ?_); refine zD (some 10) Try.func80 #[.pointer (some ⟨g397, 0, none⟩)] ?_; (with_reducible refine (spec_l4Draw.calls k g397 t394 t395 t396 t398 t399 t400 t401 w _ ?side1 ?side2 A3.out).mono ?_); (case side1 => exact (zl42_1 HI397.out NB397_393.out)); (case side2 => exact (zl42_2 HB.out (IsS110.ge HI397.out) GE393.out)); rintro e w31 ⟨rfl, hi, hb, hk⟩; refine ⟨_, rfl, ?_⟩; replace BK393 := zKB hk BK393.out NB393_397.out; replace HI397 := Aside0.mk (hi); replace HB := Aside0.mk (hb); (try clear hb); (try clear hk); (try clear hi)) | ((with_reducible refine gate_dst (N := 5) rfl ?_); refine zBx (N := 5) #[.int .i64 0, .string (⟨#[]⟩ : ByteArray)] 25 ?_; intro gb402 hg w32 hbox hb; have n0_ := zV BK393.out hb; have n1_ := Aside0.mk (IsS110.below (zl42_1 HI397.out NB397_393.out) hb); have n2_ := Aside0.mk (below_step (zG2 (IsS110.ge HI397.out) GE393.out) hb); have n3_ := Aside0.mk (hbox); have n4_ := zSg hg (zG2 (IsS110.ge HI397.out) GE393.out); have n5_ := zSg hg (zG2 (IsS110.ge HI397.out) GE393.out); have n6_ := zL hg BK393.out; have n7_ := zLg hg BK393.out; have n8_ := Aside0.mk ((by rw [hg]; exact Nat.ne_of_lt (IsS110.lt (show IsS110 w _ g397 t394 t400 t401 from (zl42_1 HI397.out NB397_393.out))) : g397 ≠ gb402)); have n9_ := Aside0.mk ((by rw [hg]; exact Nat.ne_of_gt (IsS110.lt (show IsS110 w _ g397 t394 t400 t401 from (zl42_1 HI397.out NB397_393.out))) : gb402 ≠ g397)); clear BK393; clear HI397; clear HB; have BK393 := n0_; have HI397 := n1_; have HB := n2_; have BK402 := n3_; have GW402 := n4_; have GE402 := n5_; have NB393_402 := n6_; have NB402_393 := n7_; have NB397_402 := n8_; have NB402_397 := n9_; clear n0_ n1_ n2_ n3_ n4_ n5_ n6_ n7_ n8_ n9_; clear hb hbox hg; have hnb33 := NB402_393.out; have hnc33 := NB393_402.out; have hnb34 := NB402_397.out; have hnc34 := NB397_402.out; obtain ⟨hcz35_0, hcz35_1, hfz35_0, hfz35_1⟩ := zq2 BK402.out) | ((with_reducible refine gate_callee (f := 112) rfl ?_); refine zD (some 14) Try.func112 #[.int .i64 4, .int .i64 t398] ?_; (with_reducible refine (spec_l1Max.calls 4 t398 t403 _ A4.out).mono ?_); rintro e w' ⟨rfl, ⟨nd, rfl⟩⟩; refine ⟨_, rfl, ?_⟩) | ((with_reducible refine gate_callee (f := 145) rfl ?_); refine zD (some 15) Try.func145 #[.pointer (some ⟨g397, 0, none⟩), .int .i64 t403] ?_; (with_reducible refine (spec_l3Order.calls k g397 t394 t400 t401 t403 t404 t407 t408 w _ ?side1 ?side2 A5.out).mono ?_); (case side1 => exact (zl42_3 HI397.out NB397_393.out NB397_402.out)); (case side2 => exact (zl42_4 HB.out (IsS110.ge HI397.out) GE393.out GE402.out)); rintro e w36 ⟨v405, rfl, ho0, hi, hb, hk⟩; refine ⟨_, rfl, ?_⟩; replace BK393 := Aside0.mk (KeepBut.blk hk (g' := gb393) (o := .cells #[.int .i64 0, .string (⟨#[]⟩ : ByteArray)] 25 (0, 0)) (zk2 BK393.out NB393_402.out NB393_402.out) NB393_397.out (by simp)); replace BK402 := Aside0.mk (KeepBut.blk hk (g' := gb402) (o := .cells #[.int .i64 t398, .string t399] 25 (0, 0)) (zk0 BK402.out) NB402_397.out (by simp)); have HO406 := Aside0.mk (Kd.R_lower ho0 (below_size (zG3 (IsS110.ge HI397.out) GE393.out GE402.out))); replace HI397 := Aside0.mk (hi); replace HB := Aside0.mk (hb); (try clear hb); (try clear hk); (try clear hi); (try clear ho0)) | ((with_reducible refine gate_callee (f := 127) rfl ?_); refine zD (some 17) Try.func127 #[.pointer (some ⟨g397, 0, none⟩), .int .i64 14] ?_; (with_reducible refine (spec_l1Once.calls g397 t394 t407 t408 14 false t410 t411 w _ ?side1 ?side2 A6.out).mono ?_); (case side1 => exact (zl42_3 HI397.out NB397_393.out NB397_402.out)); (case side2 => exact (zl42_4 HB.out (IsS110.ge HI397.out) GE393.out GE402.out)); rintro e w37 ⟨rfl, hi, hb, hk⟩; refine ⟨_, rfl, ?_⟩; replace BK393 := zKB hk BK393.out NB393_397.out; replace BK402 := zKB hk BK402.out NB402_397.out; replace HO406 := Aside0.mk (Kd.R_mono (Kd.R_keep (IsS110.apart (show IsS110 w _ g397 t394 t407 t408 from (zl42_3 HI397.out NB397_393.out NB397_402.out)) (zR HO406.out) (by decide)) hk (fun _ h => h.2)) (fun _ h => h.1)); replace HI397 := Aside0.mk (hi); replace HB := Aside0.mk (hb); (try clear hb); (try clear hk); (try clear hi)))
  replace HO406 := Aside0.mk (Kd.R_drew HO406.out)
  replace BK393 := Aside0.mk (blk_drew BK393.out)
  replace BK402 := Aside0.mk (blk_drew BK402.out)
  replace HI397 := Aside0.mk (IsS110.drew HI397.out)
  replace HB := Aside0.mk (below_drew1 HB.out)
  obtain ⟨Ao39, co39, eo39⟩ := Kd.R_slice HO406.out
  (first | subst eo39 | (injection eo39 with f1_ f2_ f3_; have f4_ := f1_.symm; have f5_ := f3_.symm; clear f1_ f2_ f3_; subst f4_; subst f5_))
  have q40 : (4 : Int) ≤ ((t404.length : Int) : Int) := zA
  obtain ⟨i040, hi040, _, hsz40, _⟩ := info_parts info3
  have hcut40 := cut_to (P := Try.prog) 27 3 .i64 Try.underlying27 hi040 Ao39 t404.length co39 4 (by omega) q40 (Kd.R_reads' HO406.out).2.1
  have hr40 := Kd.R_take (m := (4 : Int).toNat) HO406.out (by omega)
  have hy40 : y419.length = (4 : Int).toNat := (by rw [Ny419.out, List.length_take]; omega)
  rw [← Ny419.out] at hr40
  rw [← hy40] at hr40 hcut40
  clear hy40 hi040 hsz40 HO406
  have HO421 := Aside0.mk hr40
  clear hr40
  replace q40 := eq_true q40
  refine start_ (n := 5) (S := fun w' => w'.cell? ⟨gb402, 0, none⟩ = some (.int .i64 t398) ∧ w'.cell? ⟨gb402, 1, none⟩ = some (.string t399)) (ds := []) #[false, false, false, false, false] (by kernel_rfl) rfl rfl ⟨(blk_cell BK402.out 0).trans rfl, (blk_cell BK402.out 1).trans rfl⟩ (fun hHeld => ?_)
  generalize w37.drew = w38 at BK393 BK402 HI397 HB HO421 hHeld ⊢
  refine pure_ (i := 1) (N := some 24) (v := ?_) (a' := ?_) #[false, true, false, false, false] rfl rfl (by kernel_rfl) (fun _ _ _ h => h) (Or.inl ⟨by rfl, ?_⟩) ?_ ?_
  rotate_left
  ·intro w'
   go_simp
   with_reducible rfl
  rotate_left
  ·simp only [Act.put, List.setIfInBounds_toArray, List.set_cons_zero, List.set_cons_succ, i64_w, i32_w]
   rfl
  refine pure_ (i := 2) (N := some 25) (v := ?_) (a' := ?_) #[false, true, true, false, false] rfl rfl (by kernel_rfl) (fun _ _ _ h => h) (Or.inl ⟨by rfl, ?_⟩) ?_ ?_
  rotate_left
  ·intro w'
   go_simp
   with_reducible rfl
  rotate_left
  ·simp only [Act.put, List.setIfInBounds_toArray, List.set_cons_zero, List.set_cons_succ, i64_w, i32_w]
   rfl
  refine take_ (i := 0) (N := some 23) (v := ?_) (a' := ?_) #[true, true, true, false, false] rfl rfl (by kernel_rfl) (fun _ _ _ h => h) (Or.inl ⟨by rfl, ?_⟩) hHeld ?_ ?_
  rotate_left
  ·rintro w' ⟨s0, s1⟩
   go_simp
   with_reducible rfl
  rotate_left
  ·simp only [Act.put, List.setIfInBounds_toArray, List.set_cons_zero, List.set_cons_succ, i64_w, i32_w]
   rfl
  refine one_ (i := 3) (N := none) #[true, true, true, true, false] rfl rfl (by kernel_rfl) (by decide) (fun K hK => ?_)
  have hs41 : w38.cell? ⟨gb393, 0, none⟩ = some (.int .i64 0) := (blk_cell BK393.out 0).trans rfl
  have hfs41 := blk_frozen BK393.out 0
  have hns41_1 := NB402_393.out
  have hms41_1 := NB393_402.out
  have hs42 : w38.cell? ⟨gb393, 1, none⟩ = some (.string (⟨#[]⟩ : ByteArray)) := (blk_cell BK393.out 1).trans rfl
  have hfs42 := blk_frozen BK393.out 1
  have hns42_1 := NB402_393.out
  have hms42_1 := NB393_402.out
  refine skip_ (w1 := ?_) (by rfl) rfl ?_ ?_
  rotate_left
  ·go_simp
   rfl
  refine hK.out _ _ ⟨((cell_far (p := ⟨gb393, _, none⟩) NB402_393.out _).trans (((cell_far (p := ⟨gb393, _, none⟩) NB402_393.out _).trans (hHeld.1)))), ((cell_far (p := ⟨gb393, _, none⟩) NB402_393.out _).trans (((cell_far (p := ⟨gb393, _, none⟩) NB402_393.out _).trans (hHeld.2))))⟩ (fun hHeld => ?_)
  clear hK K
  refine pure_ (i := 4) (N := some 3) (v := ?_) (a' := ?_) #[true, true, true, true, true] rfl rfl (by kernel_rfl) (fun _ _ _ h => h) (Or.inl ⟨by rfl, ?_⟩) ?_ ?_
  rotate_left
  ·intro w'
   go_simp
   with_reducible rfl
  rotate_left
  ·simp only [Act.put, List.setIfInBounds_toArray, List.set_cons_zero, List.set_cons_succ, i64_w, i32_w]
   rfl
  refine done_ (by kernel_rfl) ?_
  try go_wp2
  refine bodyPost_ret (results_ct rfl _ _ gb393 25 #[.int .i64 t398, .string t399] (0, 0) _ rfl (zk0 BK393.out) Try.underlying25 rfl (by kernel_rfl)) rfl ?_
  exact ⟨_, zE, by (with_reducible repeat (first | apply Kd.R_alloc | apply Kd.R_drewN | apply Kd.R_drew)); exact Kd.R_mono (Kd.R_far (p := ⟨gb393, 1, none⟩) (Kd.R_far (p := ⟨gb393, 0, none⟩) (Kd.R_types HO421.out BK393.out (by decide)) (fun _ hk => hk.2) (.int .i64 t398)) (fun _ hk => hk.2) (.string t399)) (fun _ hk => trivial), zG3 (IsS110.ge HI397.out) GE393.out GE402.out⟩
 rw [if_neg c28] at H
 exact absurd H (by simp)
/-! ### spec_DrawCircuitOf: function 13 -/
def spec_DrawCircuitOf.f (k : Nat) (l0 : List Int) : Option (Int × ByteArray × Int × Int × Int × Int) := (spec_l4Four.f k l0).bind fun bt423 => (if 0 < (bt423.2.2.length : Int) then (if 1 < (bt423.2.2.length : Int) then (if 2 < (bt423.2.2.length : Int) then (if 3 < (bt423.2.2.length : Int) then (some (bt423.1, bt423.2.1, rd bt423.2.2 0, rd bt423.2.2 1, rd bt423.2.2 2, rd bt423.2.2 3)) else (none)) else (none)) else (none)) else (none))
def spec_DrawCircuitOf.T2 : Bool × List (List Nat × List Nat) := (true, [([], []), ([], []), ([1], [1]), ([2], [2]), ([], []), ([4], [4]), ([5], [5]), ([], []), ([7], [7]), ([8], [8]), ([], []), ([10], [10]), ([11], [11]), ([0, 0], [0]), ([3, 13, 0, 1, 2, 3, 13], [3]), ([6, 14, 0, 1, 2, 3, 4, 5, 6, 13, 14], [6]), ([9, 15, 0, 1, 2, 3, 4, 5, 6, 7, 8, 9, 13, 14, 15], [9]), ([12, 16, 0, 1, 2, 3, 4, 5, 6, 7, 8, 9, 10, 11, 12, 13, 14, 15, 16], [12])])
def spec_DrawCircuitOf.B2 : List Nat := [0, 0, 2, 6, 0, 16, 48, 0, 128, 384, 0, 1024, 3072, 1, 8207, 24703, 58367, 131071]
theorem spec_DrawCircuitOf.tab2 : rtab .any (opsOf Try.f13 2) = spec_DrawCircuitOf.T2 := by kernel_rfl
theorem spec_DrawCircuitOf.bits2 : waitsOk spec_DrawCircuitOf.T2.2 spec_DrawCircuitOf.B2 = true := by kernel_rfl
set_option maxHeartbeats 8000000 in
set_option maxRecDepth 100000 in
theorem spec_DrawCircuitOf.calls (k : Nat) (A0 : Option Addr) (c0 : Nat) (l0 : List Int) (r1 : Int) (r2 : ByteArray) (r3 : Int) (r4 : Int) (r5 : Int) (r6 : Int) (w : World) (hr0 : Kd.C (Kd.int .u8) w A0 l0.length l0) (hc0 : l0.length ≤ c0) (h : spec_DrawCircuitOf.f k l0 = some (r1, r2, r3, r4, r5, r6)) :
  Calls Try.prog 13 #[.slice A0 l0.length c0] w fun e w' => e = .returned (.tuple #[.agg #[.int .i64 r1, .string r2], .int .i64 r3, .int .i64 r4, .int .i64 r5, .int .i64 r6]) ∧ Below w.heap.size w w' := by
 have hu25 := Try.underlying25
 have HR0 := Aside0.mk hr0
 have HC0 := Aside0.mk hc0
 clear hr0 hc0
 have HB := Aside0.mk (Below.refl w.heap.size w)
 have H : ((spec_l4Four.f k l0).bind fun bt423 => (if 0 < (bt423.2.2.length : Int) then (if 1 < (bt423.2.2.length : Int) then (if 2 < (bt423.2.2.length : Int) then (if 3 < (bt423.2.2.length : Int) then (some (bt423.1, bt423.2.1, rd bt423.2.2 0, rd bt423.2.2 1, rd bt423.2.2 2, rd bt423.2.2 3)) else (none)) else (none)) else (none)) else (none))) = some (r1, r2, r3, r4, r5, r6) := h
 clear h
 obtain ⟨⟨t423, t424, t425⟩, A2, H⟩ := zO H
 dsimp only at H
 by_cases c3 : 0 < (t425.length : Int)
 ·rw [if_pos c3] at H
  have c3b0 : decide (0 < (t425.length : Int)) = true := decide_eq_true c3
  have c3b1 : decide (0 < t425.length) = true := decide_eq_true (by omega)
  clear c3
  by_cases c4 : 1 < (t425.length : Int)
  ·rw [if_pos c4] at H
   have c4b0 : decide (1 < (t425.length : Int)) = true := decide_eq_true c4
   have c4b1 : decide (1 < t425.length) = true := decide_eq_true (by omega)
   clear c4
   by_cases c5 : 2 < (t425.length : Int)
   ·rw [if_pos c5] at H
    have c5b0 : decide (2 < (t425.length : Int)) = true := decide_eq_true c5
    have c5b1 : decide (2 < t425.length) = true := decide_eq_true (by omega)
    clear c5
    by_cases c6 : 3 < (t425.length : Int)
    ·rw [if_pos c6] at H
     have c6b0 : decide (3 < (t425.length : Int)) = true := decide_eq_true c6
     have c6b1 : decide (3 < t425.length) = true := decide_eq_true (by omega)
     clear c6
     simp only [Option.some.injEq, Prod.mk.injEq] at H
     obtain ⟨rfl, rfl, rfl, rfl, rfl, rfl⟩ := H
     go_enter Try.func13, Try.ntmps13
     try go_wp2_with (first | ((with_reducible refine gate_dst (N := 2) rfl ?_); refine zBx (N := 2) #[.int .i64 0, .string (⟨#[]⟩ : ByteArray)] 25 ?_; intro gb422 hg w7 hbox hb; have BK422 := Aside0.mk (hbox); have GW422 := zS hg; have GE422 := zS hg; replace HB := zX hb; clear hb hbox hg) | ((with_reducible refine gate_callee (f := 91) rfl ?_); refine zD (some 11) Try.func91 #[.slice A0 l0.length c0] ?_; (with_reducible refine (spec_l4Four.calls k _ _ l0 t423 t424 t425 _ ?side1 ?side2 A2.out).mono ?_); (case side1 => repeat (first | exact (Kd.C_below HR0.out HB.out) | (with_reducible refine Kd.C_alloc ?_ _) | (with_reducible refine Kd.C_drewN ?_ _) | (with_reducible refine Kd.C_drew ?_))); (case side2 => exact HC0.out); rintro e w8 ⟨v426, rfl, ho0, hb⟩; refine ⟨_, rfl, ?_⟩; have HO427 := Aside0.mk (Kd.R_lower ho0 (below_size (zG GE422.out))); replace BK422 := zV BK422.out hb; replace HB := zX1 GE422.out hb; (try clear hb); (try clear ho0)) | ((with_reducible refine gate_dst (N := 7) rfl ?_); refine zBx (N := 7) #[.int .i64 0, .string (⟨#[]⟩ : ByteArray)] 25 ?_; intro gb428 hg w9 hbox hb; replace HO427 := zW HO427.out hb; have BK428 := Aside0.mk (hbox); have GW428 := zSg hg (zG GE422.out); have GE428 := zSg hg (zG GE422.out); have NB422_428 := zL hg BK422.out; have NB428_422 := zLg hg BK422.out; replace BK422 := zV BK422.out hb; replace HB := zX1 GE422.out hb; clear hb hbox hg; have hnb10 := NB428_422.out; have hnc10 := NB422_428.out; obtain ⟨hcz11_0, hcz11_1, hfz11_0, hfz11_1⟩ := zq2 BK428.out))
     have n0_ : Aside0 (Kd.R (Kd.int .i64) 3 ((w9.setCell ⟨gb428, 0, none⟩ (.int .i64 t423)).setCell ⟨gb428, 1, none⟩ (.string t424)) w.heap.size (fun _ => True) v426 t425) := ⟨by (with_reducible repeat (first | apply Kd.R_alloc | apply Kd.R_drewN | apply Kd.R_drew)); exact Kd.R_mono (Kd.R_far (p := ⟨gb428, 1, none⟩) (Kd.R_far (p := ⟨gb428, 0, none⟩) (Kd.R_types HO427.out BK428.out (by decide)) (fun _ hk => hk.2) (.int .i64 t423)) (fun _ hk => hk.2) (.string t424)) (fun _ hk => trivial)⟩
     have n1_ : Aside0 (((w9.setCell ⟨gb428, 0, none⟩ (.int .i64 t423)).setCell ⟨gb428, 1, none⟩ (.string t424)).heap[gb422]? = some (.cells #[.int .i64 0, .string (⟨#[]⟩ : ByteArray)] 25 (0, 0))) := ⟨zk2 BK422.out NB422_428.out NB422_428.out⟩
     have n2_ : Aside0 (((w9.setCell ⟨gb428, 0, none⟩ (.int .i64 t423)).setCell ⟨gb428, 1, none⟩ (.string t424)).heap[gb428]? = some (.cells #[.int .i64 t423, .string t424] 25 (0, 0))) := ⟨zk0 BK428.out⟩
     have n3_ : Aside0 (Below w.heap.size w ((w9.setCell ⟨gb428, 0, none⟩ (.int .i64 t423)).setCell ⟨gb428, 1, none⟩ (.string t424))) := ⟨zG2 GE422.out GE428.out⟩
     (try clear HO427)
     (try clear BK422)
     (try clear BK428)
     (try clear HB)
     generalize ((w9.setCell ⟨gb428, 0, none⟩ (.int .i64 t423)).setCell ⟨gb428, 1, none⟩ (.string t424)) = w12 at n0_ n1_ n2_ n3_ ⊢
     have HO427 := n0_
     have BK422 := n1_
     have BK428 := n2_
     have HB := n3_
     clear n0_ n1_ n2_ n3_
     replace HO427 := Aside0.mk (Kd.R_drew HO427.out)
     replace BK422 := Aside0.mk (blk_drew BK422.out)
     replace BK428 := Aside0.mk (blk_drew BK428.out)
     replace HB := Aside0.mk (below_drew1 HB.out)
     obtain ⟨Ao14, co14, eo14⟩ := Kd.R_slice HO427.out
     (first | subst eo14 | (injection eo14 with f1_ f2_ f3_; have f4_ := f1_.symm; have f5_ := f3_.symm; clear f1_ f2_ f3_; subst f4_; subst f5_))
     have p429 : 0 ≤ (0 : Int) := (by omega)
     have q429 : 0 < (t425.length : Int) := zA
     obtain ⟨ad429, e429, hx429_0⟩ := Kd.at_int (Kd.R_reads' HO427.out).2.2 0 p429 q429
     cases e429
     have qi429 : (0 < t425.length) = True := eq_true (by omega)
     (try rw [show ((0 : Int)).toNat = 0 from rfl] at hx429_0)
     (try rw [Addr.add_zero'] at hx429_0)
     replace p429 := eq_true p429
     replace q429 := eq_true q429
     have p430 : 0 ≤ (1 : Int) := (by omega)
     have q430 : 1 < (t425.length : Int) := zA
     obtain ⟨ad430, e430, hx430_0⟩ := Kd.at_int (Kd.R_reads' HO427.out).2.2 1 p430 q430
     obtain rfl : ad429 = ad430 := (by injection e430)
     (try simp only [show (1 : Int).toNat = 1 from rfl, Nat.reduceMul, Nat.reduceEqDiff, Go.Addr.add, ↓reduceIte] at hx430_0)
     have qi430 : (1 < t425.length) = True := eq_true (by omega)
     (try rw [show ((1 : Int)).toNat = 1 from rfl] at hx430_0)
     replace p430 := eq_true p430
     replace q430 := eq_true q430
     have p431 : 0 ≤ (2 : Int) := (by omega)
     have q431 : 2 < (t425.length : Int) := zA
     obtain ⟨ad431, e431, hx431_0⟩ := Kd.at_int (Kd.R_reads' HO427.out).2.2 2 p431 q431
     obtain rfl : ad429 = ad431 := (by injection e431)
     (try simp only [show (2 : Int).toNat = 2 from rfl, Nat.reduceMul, Nat.reduceEqDiff, Go.Addr.add, ↓reduceIte] at hx431_0)
     have qi431 : (2 < t425.length) = True := eq_true (by omega)
     (try rw [show ((2 : Int)).toNat = 2 from rfl] at hx431_0)
     replace p431 := eq_true p431
     replace q431 := eq_true q431
     have p432 : 0 ≤ (3 : Int) := (by omega)
     have q432 : 3 < (t425.length : Int) := zA
     obtain ⟨ad432, e432, hx432_0⟩ := Kd.at_int (Kd.R_reads' HO427.out).2.2 3 p432 q432
     obtain rfl : ad429 = ad432 := (by injection e432)
     (try simp only [show (3 : Int).toNat = 3 from rfl, Nat.reduceMul, Nat.reduceEqDiff, Go.Addr.add, ↓reduceIte] at hx432_0)
     have qi432 : (3 < t425.length) = True := eq_true (by omega)
     (try rw [show ((3 : Int)).toNat = 3 from rfl] at hx432_0)
     replace p432 := eq_true p432
     replace q432 := eq_true q432
     refine start_ (n := 18) (S := fun w' => w'.cell? ⟨gb428, 0, none⟩ = some (.int .i64 t423) ∧ w'.cell? ⟨gb428, 1, none⟩ = some (.string t424) ∧ w'.cell? ad429 = some (.int .i64 (rd t425 0)) ∧ w'.cell? ⟨ad429.block, ad429.off + 1, none⟩ = some (.int .i64 (rd t425 1)) ∧ w'.cell? ⟨ad429.block, ad429.off + 2, none⟩ = some (.int .i64 (rd t425 2)) ∧ w'.cell? ⟨ad429.block, ad429.off + 3, none⟩ = some (.int .i64 (rd t425 3))) (ds := []) #[false, false, false, false, false, false, false, false, false, false, false, false, false, false, false, false, false, false] (by kernel_rfl) rfl rfl ⟨(blk_cell BK428.out 0).trans rfl, (blk_cell BK428.out 1).trans rfl, hx429_0, hx430_0, hx431_0, hx432_0⟩ (fun hHeld => ?_); refine with_tabW spec_DrawCircuitOf.tab2 spec_DrawCircuitOf.bits2 (fun HT_ HW_ => ?_)
     generalize w12.drew = w13 at HO427 BK422 BK428 HB hx429_0 hx430_0 hx431_0 hx432_0 hHeld ⊢
     refine zP 1 (some 15) rfl rfl ?_
     refine zP 2 (some 16) rfl rfl ?_
     refine zP 4 (some 18) rfl rfl ?_
     refine zP 5 (some 19) rfl rfl ?_
     refine zP 7 (some 21) rfl rfl ?_
     refine zP 8 (some 22) rfl rfl ?_
     refine zP 10 (some 24) rfl rfl ?_
     refine zP 11 (some 25) rfl rfl ?_
     refine zY6 0 (some 14) rfl rfl hHeld ?_
     refine zY6 3 (some 17) rfl rfl hHeld ?_
     refine zY6 6 (some 20) rfl rfl hHeld ?_
     refine zY6 9 (some 23) rfl rfl hHeld ?_
     refine zY6 12 (some 26) rfl rfl hHeld ?_
     refine zU 13 none rfl rfl (fun K hK => ?_)
     have hs15 : w13.cell? ⟨gb422, 0, none⟩ = some (.int .i64 0) := (blk_cell BK422.out 0).trans rfl
     have hfs15 := blk_frozen BK422.out 0
     have hns15_1 := NB428_422.out
     have hms15_1 := NB422_428.out
     have hs16 : w13.cell? ⟨gb422, 1, none⟩ = some (.string (⟨#[]⟩ : ByteArray)) := (blk_cell BK422.out 1).trans rfl
     have hfs16 := blk_frozen BK422.out 1
     have hns16_1 := NB428_422.out
     have hms16_1 := NB422_428.out
     refine skip_ (w1 := ?_) (by rfl) rfl ?_ ?_
     rotate_left
     ·go_simp
      rfl
     refine hK.out _ _ ⟨((cell_far (p := ⟨gb422, _, none⟩) NB428_422.out _).trans (((cell_far (p := ⟨gb422, _, none⟩) NB428_422.out _).trans (hHeld.1)))), ((cell_far (p := ⟨gb422, _, none⟩) NB428_422.out _).trans (((cell_far (p := ⟨gb422, _, none⟩) NB428_422.out _).trans (hHeld.2.1)))), ((cell_far (p := ⟨gb422, _, none⟩) (by first | exact Kd.own_blk (Kd.R_ne HO427.out BK422.out (by decide)) | (rw [add_block]; exact Kd.own_blk (Kd.R_ne HO427.out BK422.out (by decide))) | (show (Addr.add _ _).block ≠ _; rw [add_block]; exact Kd.own_blk (Kd.R_ne HO427.out BK422.out (by decide))) | (dsimp only; exact Kd.own_blk (Kd.R_ne HO427.out BK422.out (by decide)))) _).trans (((cell_far (p := ⟨gb422, _, none⟩) (by first | exact Kd.own_blk (Kd.R_ne HO427.out BK422.out (by decide)) | (rw [add_block]; exact Kd.own_blk (Kd.R_ne HO427.out BK422.out (by decide))) | (show (Addr.add _ _).block ≠ _; rw [add_block]; exact Kd.own_blk (Kd.R_ne HO427.out BK422.out (by decide))) | (dsimp only; exact Kd.own_blk (Kd.R_ne HO427.out BK422.out (by decide)))) _).trans (hHeld.2.2.1)))), ((cell_far (p := ⟨gb422, _, none⟩) (by first | exact Kd.own_blk (Kd.R_ne HO427.out BK422.out (by decide)) | (rw [add_block]; exact Kd.own_blk (Kd.R_ne HO427.out BK422.out (by decide))) | (show (Addr.add _ _).block ≠ _; rw [add_block]; exact Kd.own_blk (Kd.R_ne HO427.out BK422.out (by decide))) | (dsimp only; exact Kd.own_blk (Kd.R_ne HO427.out BK422.out (by decide)))) _).trans (((cell_far (p := ⟨gb422, _, none⟩) (by first | exact Kd.own_blk (Kd.R_ne HO427.out BK422.out (by decide)) | (rw [add_block]; exact Kd.own_blk (Kd.R_ne HO427.out BK422.out (by decide))) | (show (Addr.add _ _).block ≠ _; rw [add_block]; exact Kd.own_blk (Kd.R_ne HO427.out BK422.out (by decide))) | (dsimp only; exact Kd.own_blk (Kd.R_ne HO427.out BK422.out (by decide)))) _).trans (hHeld.2.2.2.1)))), ((cell_far (p := ⟨gb422, _, none⟩) (by first | exact Kd.own_blk (Kd.R_ne HO427.out BK422.out (by decide)) | (rw [add_block]; exact Kd.own_blk (Kd.R_ne HO427.out BK422.out (by decide))) | (show (Addr.add _ _).block ≠ _; rw [add_block]; exact Kd.own_blk (Kd.R_ne HO427.out BK422.out (by decide))) | (dsimp only; exact Kd.own_blk (Kd.R_ne HO427.out BK422.out (by decide)))) _).trans (((cell_far (p := ⟨gb422, _, none⟩) (by first | exact Kd.own_blk (Kd.R_ne HO427.out BK422.out (by decide)) | (rw [add_block]; exact Kd.own_blk (Kd.R_ne HO427.out BK422.out (by decide))) | (show (Addr.add _ _).block ≠ _; rw [add_block]; exact Kd.own_blk (Kd.R_ne HO427.out BK422.out (by decide))) | (dsimp only; exact Kd.own_blk (Kd.R_ne HO427.out BK422.out (by decide)))) _).trans (hHeld.2.2.2.2.1)))), ((cell_far (p := ⟨gb422, _, none⟩) (by first | exact Kd.own_blk (Kd.R_ne HO427.out BK422.out (by decide)) | (rw [add_block]; exact Kd.own_blk (Kd.R_ne HO427.out BK422.out (by decide))) | (show (Addr.add _ _).block ≠ _; rw [add_block]; exact Kd.own_blk (Kd.R_ne HO427.out BK422.out (by decide))) | (dsimp only; exact Kd.own_blk (Kd.R_ne HO427.out BK422.out (by decide)))) _).trans (((cell_far (p := ⟨gb422, _, none⟩) (by first | exact Kd.own_blk (Kd.R_ne HO427.out BK422.out (by decide)) | (rw [add_block]; exact Kd.own_blk (Kd.R_ne HO427.out BK422.out (by decide))) | (show (Addr.add _ _).block ≠ _; rw [add_block]; exact Kd.own_blk (Kd.R_ne HO427.out BK422.out (by decide))) | (dsimp only; exact Kd.own_blk (Kd.R_ne HO427.out BK422.out (by decide)))) _).trans (hHeld.2.2.2.2.2))))⟩ (fun hHeld => ?_)
     clear hK K
     refine zP 14 (some 3) rfl rfl ?_
     refine zP 15 (some 4) rfl rfl ?_
     refine zP 16 (some 5) rfl rfl ?_
     refine zP 17 (some 6) rfl rfl ?_
     refine done_ (done_of HT_.out (by kernel_rfl)) ?_
     try go_wp2
     refine bodyPost_ret (results_list (rs := [.cell 2 25, .tmp 3, .tmp 4, .tmp 5, .tmp 6]) rfl (by simp) (.cell gb422 25 #[.int .i64 t423, .string t424] (0, 0) _ rfl (zk0 BK422.out) Try.underlying25 rfl (by kernel_rfl) (.tmp (.tmp (.tmp (.tmp .nil)))))) rfl ?_
     exact ⟨zE, zG2 GE422.out GE428.out⟩
    rw [if_neg c6] at H
    exact absurd H (by simp)
   rw [if_neg c5] at H
   exact absurd H (by simp)
  rw [if_neg c4] at H
  exact absurd H (by simp)
 rw [if_neg c3] at H
 exact absurd H (by simp)
end Go.Proofs.Ytckkfjdkaimmhaa.PX
