/- FnExactQuadsOf returns true for all arguments and leaves them as they were. No condition. -/
import Derived.Test.YtgnghhelalablaaProg
import Derived.Test.YtgnghhelalablaaRows
import Derived.WalkKit
import Derived.ProofKit
import Derived.OpenShut
import Derived.ShutString
import Derived.ChangeOld
import Derived.Below
import Derived.SizedLaws
import Derived.Lib.SmallJoins
import Derived.ChangeSame
import Derived.Test.YtgnghhelalablaaV1
import Derived.Test.YtgnghhelalablaaBrqijwy1
import Derived.Test.YtgnghhelalablaaBrqijwy2
import Derived.Test.YtgnghhelalablaaBrqijwy3
set_option linter.unusedVariables false
set_option linter.unusedSimpArgs false
namespace Go.Proofs.Ytgnghhelalablaa.PX
open Go.RowKit Go.Proofs.Ytgnghhelalablaa.G Go.Proofs.YtgnghhelalablaaW.PrintWords Go.Proofs.YtgnghhelalablaaW.PrintLast Go.Proofs.YtgnghhelalablaaW.PrintMore
attribute [local go_sem] max2_int min2_int max_two min_two max_three min_three max_four min_four   -- for this text's walks alone
set_option linter.unusedVariables false
set_option linter.unusedSimpArgs false
/-! ### laws_FnExactQuadsOf: function 6 -/
def laws_FnExactQuadsOf.f (k : Nat) (a0_0 : Int) (a0_1 : ByteArray) : Option (Bool) := (laws_szSigns.f a0_0 a0_1 1048576).bind fun t1 => (if t1 < 0 then (some true) else ((laws_toSigns.f a0_0 a0_1).bind fun bt2 => ((spec_QuadsOf.f k bt2.1 bt2.2).bind fun t3 => ((laws_toSigns.f a0_0 a0_1).bind fun bt4 => ((impl_QuadsOf.f k bt4.1 bt4.2).bind fun t5 => ((laws_eqIntSS.f k t5 t3).bind fun t6 => (if t6 = true then ((laws_markIntSS.f k t5 1).bind fun bt7 => ((laws_heldIntSS.f k bt7.2 1).bind fun t8 => (if t8 < 0 then (some false) else (if t8 = bt7.1 then ((laws_toSigns.f a0_0 a0_1).bind fun bt9 => ((impl_QuadsOf.f k bt9.1 bt9.2).bind fun t10 => ((laws_eqIntSS.f k t10 t3).bind fun t11 => (if t11 = true then ((laws_heldIntSS.f k bt7.2 1).bind fun t12 => (if t12 < 0 then (some false) else (if t12 = bt7.1 then (some true) else (some false)))) else (some false))))) else (some false))))) else (some false))))))))
set_option maxHeartbeats 8000000 in
set_option maxRecDepth 100000 in
theorem laws_FnExactQuadsOf.calls (k : Nat) (a0_0 : Int) (a0_1 : ByteArray) (r : Bool) (w : World) (h : laws_FnExactQuadsOf.f k a0_0 a0_1 = some r) (hr_ : r = true) :
    Calls Try.prog 6 #[.agg #[.int .i64 a0_0, .string a0_1]] w fun e w' => e = .returned (.bool r) ∧ Below w.heap.size w w' := by
  subst hr_
  have hu23 := Try.underlying23
  have hu27 := Try.underlying27
  have HB := Aside0.mk (Below.refl w.heap.size w)
  unfold laws_FnExactQuadsOf.f at h
  obtain ⟨t1, A_, hn_⟩ := Option.bind_eq_some_iff.mp h
  clear h
  have h := hn_
  clear hn_
  have A1 := Aside0.mk A_
  clear A_
  by_cases c1 : t1 < 0
  · have c1b := decide_eq_true c1
    clear c1 h
    go_enter Try.func6, Try.ntmps6
    go_wp2_with (first | ((with_reducible refine gate_dst (N := 1) rfl ?_); refine box_event ?hg (N := 1) ?hd (cs := #[.int .i64 a0_0, .string a0_1]) (t := 23) ?hr ?_; (case hd => rfl); (case hg => rfl); (case hr => first | (go_simp; done) | (go_simp; rfl)); intro gb1 hg W hbox hb; have n0_ := Aside0.mk (below_step HB.out hb); have n1_ := Aside0.mk hbox; clear HB; have HB := n0_; have BK := n1_; clear n0_ n1_; clear hb hbox hg; have hcz0_0 : W.cell? ⟨gb1, 0, none⟩ = some (.int .i64 a0_0) := (blk_cell BK.out 0).trans rfl; have hcz0_1 : W.cell? ⟨gb1, 1, none⟩ = some (.string a0_1) := (blk_cell BK.out 1).trans rfl; have hfz0_0 := blk_frozen BK.out 0; have hfz0_1 := blk_frozen BK.out 1) | ((with_reducible refine gate_callee (f := 15) rfl ?_); refine goesL_ (some 11) rfl rfl Try.func15 (by kernel_rfl) rfl #[.agg #[.int .i64 a0_0, .string a0_1], .int .i64 1048576] rfl (by (try simp only [List.map_toArray, List.map_cons, List.map_nil]); first | done | rfl) ?_; (with_reducible refine (laws_szSigns.calls a0_0 a0_1 1048576 t1 _ A1.out).mono ?_); rintro e W1 ⟨rfl, hb⟩; refine ⟨_, rfl, ?_⟩; have n0_ := Aside0.mk (blk_below (g := gb1) (o := .cells #[.int .i64 a0_0, .string a0_1] 23 (0, 0)) BK.out hb); have n1_ := Aside0.mk (below_step HB.out hb); clear BK HB; have BK := n0_; have HB := n1_; clear n0_ n1_; (try clear hb); have hcz1_0 : W1.cell? ⟨gb1, 0, none⟩ = some (.int .i64 a0_0) := (blk_cell BK.out 0).trans rfl; have hcz1_1 : W1.cell? ⟨gb1, 1, none⟩ = some (.string a0_1) := (blk_cell BK.out 1).trans rfl; have hfz1_0 := blk_frozen BK.out 0; have hfz1_1 := blk_frozen BK.out 1))
    go_ret
    exact ⟨rfl, HB.out⟩
  rw [if_neg c1] at h
  have c1b := decide_eq_false c1
  clear c1
  obtain ⟨⟨t2a, t2b⟩, A_, hn_⟩ := Option.bind_eq_some_iff.mp h
  clear h
  have h := hn_
  clear hn_
  (try dsimp only at A_ h)
  have A2 := Aside0.mk A_
  clear A_
  obtain ⟨t3, A_, hn_⟩ := Option.bind_eq_some_iff.mp h
  clear h
  have h := hn_
  clear hn_
  (try dsimp only at A_ h)
  have A3 := Aside0.mk A_
  clear A_
  obtain ⟨⟨t4a, t4b⟩, A_, hn_⟩ := Option.bind_eq_some_iff.mp h
  clear h
  have h := hn_
  clear hn_
  (try dsimp only at A_ h)
  have A4 := Aside0.mk A_
  clear A_
  obtain ⟨t5, A_, hn_⟩ := Option.bind_eq_some_iff.mp h
  clear h
  have h := hn_
  clear hn_
  (try dsimp only at A_ h)
  have A5 := Aside0.mk A_
  clear A_
  obtain ⟨t6, A_, hn_⟩ := Option.bind_eq_some_iff.mp h
  clear h
  have h := hn_
  clear hn_
  (try dsimp only at A_ h)
  have A6 := Aside0.mk A_
  clear A_
  cases t6 with
  | false => rw [if_neg (by decide)] at h; cases h
  | true =>
  rw [if_pos rfl] at h
  obtain ⟨⟨t7a, t7b⟩, A_, hn_⟩ := Option.bind_eq_some_iff.mp h
  clear h
  have h := hn_
  clear hn_
  (try dsimp only at A_ h)
  have A7 := Aside0.mk A_
  clear A_
  obtain ⟨t8, A_, hn_⟩ := Option.bind_eq_some_iff.mp h
  clear h
  have h := hn_
  clear hn_
  (try dsimp only at A_ h)
  have A8 := Aside0.mk A_
  clear A_
  by_cases c8 : t8 < 0
  · rw [if_pos c8] at h; cases h
  rw [if_neg c8] at h
  have c8b := decide_eq_false c8
  clear c8
  by_cases e8 : t8 = t7a
  case neg => rw [if_neg e8] at h; cases h
  rw [if_pos e8] at h
  subst e8
  obtain ⟨⟨t9a, t9b⟩, A_, hn_⟩ := Option.bind_eq_some_iff.mp h
  clear h
  have h := hn_
  clear hn_
  (try dsimp only at A_ h)
  have A9 := Aside0.mk A_
  clear A_
  obtain ⟨t10, A_, hn_⟩ := Option.bind_eq_some_iff.mp h
  clear h
  have h := hn_
  clear hn_
  (try dsimp only at A_ h)
  have A10 := Aside0.mk A_
  clear A_
  obtain ⟨t11, A_, hn_⟩ := Option.bind_eq_some_iff.mp h
  clear h
  have h := hn_
  clear hn_
  (try dsimp only at A_ h)
  have A11 := Aside0.mk A_
  clear A_
  cases t11 with
  | false => rw [if_neg (by decide)] at h; cases h
  | true =>
  rw [if_pos rfl] at h
  obtain ⟨t12, A_, hn_⟩ := Option.bind_eq_some_iff.mp h
  clear h
  have h := hn_
  clear hn_
  (try dsimp only at A_ h)
  have A12 := Aside0.mk A_
  clear A_
  by_cases c12 : t12 < 0
  · rw [if_pos c12] at h; cases h
  rw [if_neg c12] at h
  have c12b := decide_eq_false c12
  clear c12
  by_cases e12 : t12 = t8
  case neg => rw [if_neg e12] at h; cases h
  subst e12
  clear h
  go_enter Try.func6, Try.ntmps6
  go_wp2_with (first | ((with_reducible refine gate_dst (N := 1) rfl ?_); refine box_event ?hg (N := 1) ?hd (cs := #[.int .i64 a0_0, .string a0_1]) (t := 23) ?hr ?_; (case hd => rfl); (case hg => rfl); (case hr => first | (go_simp; done) | (go_simp; rfl)); intro gb1 hg W hbox hb; have n0_ := Aside0.mk (below_step HB.out hb); have n1_ := Aside0.mk hbox; clear HB; have HB := n0_; have BK := n1_; clear n0_ n1_; clear hb hbox hg; have hcz0_0 : W.cell? ⟨gb1, 0, none⟩ = some (.int .i64 a0_0) := (blk_cell BK.out 0).trans rfl; have hcz0_1 : W.cell? ⟨gb1, 1, none⟩ = some (.string a0_1) := (blk_cell BK.out 1).trans rfl; have hfz0_0 := blk_frozen BK.out 0; have hfz0_1 := blk_frozen BK.out 1) | ((with_reducible refine gate_callee (f := 15) rfl ?_); refine goesL_ (some 11) rfl rfl Try.func15 (by kernel_rfl) rfl #[.agg #[.int .i64 a0_0, .string a0_1], .int .i64 1048576] rfl (by (try simp only [List.map_toArray, List.map_cons, List.map_nil]); first | done | rfl) ?_; (with_reducible refine (laws_szSigns.calls a0_0 a0_1 1048576 t1 _ A1.out).mono ?_); rintro e W1 ⟨rfl, hb⟩; refine ⟨_, rfl, ?_⟩; have n0_ := Aside0.mk (blk_below (g := gb1) (o := .cells #[.int .i64 a0_0, .string a0_1] 23 (0, 0)) BK.out hb); have n1_ := Aside0.mk (below_step HB.out hb); clear BK HB; have BK := n0_; have HB := n1_; clear n0_ n1_; (try clear hb); have hcz1_0 : W1.cell? ⟨gb1, 0, none⟩ = some (.int .i64 a0_0) := (blk_cell BK.out 0).trans rfl; have hcz1_1 : W1.cell? ⟨gb1, 1, none⟩ = some (.string a0_1) := (blk_cell BK.out 1).trans rfl; have hfz1_0 := blk_frozen BK.out 0; have hfz1_1 := blk_frozen BK.out 1) | ((with_reducible refine gate_callee (f := 17) rfl ?_); refine goesL_ (some 15) rfl rfl Try.func17 (by kernel_rfl) rfl #[.agg #[.int .i64 a0_0, .string a0_1]] rfl (by (try simp only [List.map_toArray, List.map_cons, List.map_nil]); first | done | rfl) ?_; (with_reducible refine (laws_toSigns.calls a0_0 a0_1 t2a t2b _ A2.out).mono ?_); rintro e W2 ⟨rfl, hb⟩; refine ⟨_, rfl, ?_⟩; have n0_ := Aside0.mk (blk_below (g := gb1) (o := .cells #[.int .i64 a0_0, .string a0_1] 23 (0, 0)) BK.out hb); have n1_ := Aside0.mk (below_step HB.out hb); clear BK HB; have BK := n0_; have HB := n1_; clear n0_ n1_; (try clear hb); have hcz2_0 : W2.cell? ⟨gb1, 0, none⟩ = some (.int .i64 a0_0) := (blk_cell BK.out 0).trans rfl; have hcz2_1 : W2.cell? ⟨gb1, 1, none⟩ = some (.string a0_1) := (blk_cell BK.out 1).trans rfl; have hfz2_0 := blk_frozen BK.out 0; have hfz2_1 := blk_frozen BK.out 1) | ((with_reducible refine gate_callee (f := 23) rfl ?_); refine goesL_ (some 16) rfl rfl Try.func23 (by kernel_rfl) rfl #[.agg #[.int .i64 t2a, .string t2b]] rfl (by (try simp only [List.map_toArray, List.map_cons, List.map_nil]); first | done | rfl) ?_; (with_reducible refine (spec_QuadsOf.calls k t2a t2b t3 _ A3.out).mono ?_); rintro e W3 ⟨v3, rfl, ho0, hb⟩; refine ⟨_, rfl, ?_⟩; have n0_ := Aside0.mk (Kd.S_lower ho0 (below_size HB.out)); have n1_ := Aside0.mk (blk_below (g := gb1) (o := .cells #[.int .i64 a0_0, .string a0_1] 23 (0, 0)) BK.out hb); have n2_ := Aside0.mk (below_step HB.out hb); clear BK HB; have HX := n0_; have BK := n1_; have HB := n2_; clear n0_ n1_ n2_; (try clear hb); clear ho0; have hcz3_0 : W3.cell? ⟨gb1, 0, none⟩ = some (.int .i64 a0_0) := (blk_cell BK.out 0).trans rfl; have hcz3_1 : W3.cell? ⟨gb1, 1, none⟩ = some (.string a0_1) := (blk_cell BK.out 1).trans rfl; have hfz3_0 := blk_frozen BK.out 0; have hfz3_1 := blk_frozen BK.out 1) | ((with_reducible refine gate_callee (f := 17) rfl ?_); refine goesL_ (some 18) rfl rfl Try.func17 (by kernel_rfl) rfl #[.agg #[.int .i64 a0_0, .string a0_1]] rfl (by (try simp only [List.map_toArray, List.map_cons, List.map_nil]); first | done | rfl) ?_; (with_reducible refine (laws_toSigns.calls a0_0 a0_1 t4a t4b _ A4.out).mono ?_); rintro e W4 ⟨rfl, hb⟩; refine ⟨_, rfl, ?_⟩; have n0_ := Aside0.mk (blk_below (g := gb1) (o := .cells #[.int .i64 a0_0, .string a0_1] 23 (0, 0)) BK.out hb); have n1_ := Aside0.mk (Kd.S_below HX.out hb); have n2_ := Aside0.mk (below_step HB.out hb); clear BK HX HB; have BK := n0_; have HX := n1_; have HB := n2_; clear n0_ n1_ n2_; (try clear hb); have hcz4_0 : W4.cell? ⟨gb1, 0, none⟩ = some (.int .i64 a0_0) := (blk_cell BK.out 0).trans rfl; have hcz4_1 : W4.cell? ⟨gb1, 1, none⟩ = some (.string a0_1) := (blk_cell BK.out 1).trans rfl; have hfz4_0 := blk_frozen BK.out 0; have hfz4_1 := blk_frozen BK.out 1) | ((with_reducible refine gate_callee (f := 24) rfl ?_); refine goesL_ (some 19) rfl rfl Try.func24 (by kernel_rfl) rfl #[.agg #[.int .i64 t4a, .string t4b]] rfl (by (try simp only [List.map_toArray, List.map_cons, List.map_nil]); first | done | rfl) ?_; (with_reducible refine (impl_QuadsOf.calls k t4a t4b t5 _ A5.out).mono ?_); rintro e W5 ⟨v5, rfl, ho0, hb⟩; refine ⟨_, rfl, ?_⟩; have n0_ := Aside0.mk (blk_lt BK.out); have n1_ := Aside0.mk (Kd.S_lower (Kd.S_mono (ok' := fun k_ => W4.heap.size ≤ k_) (Kd.S_bound ho0) (fun k_ hk_ => hk_.2.1)) (below_size HB.out)); have n2_ := Aside0.mk (hb.size); have n3_ := Aside0.mk (Kd.S_below (Kd.S_mono (ok' := fun k_ => k_ < W4.heap.size) (Kd.S_bound HX.out) (fun k_ hk_ => hk_.2.2.1)) hb); have n4_ := Aside0.mk (blk_below (g := gb1) (o := .cells #[.int .i64 a0_0, .string a0_1] 23 (0, 0)) BK.out hb); have n5_ := Aside0.mk (below_step HB.out hb); clear HX BK HB; have HG := n0_; have HY := n1_; have HS := n2_; have HX := n3_; have BK := n4_; have HB := n5_; clear n0_ n1_ n2_ n3_ n4_ n5_; (try clear hb); clear ho0; obtain ⟨AY, cY, eY⟩ := Kd.S_slice HY.out; subst eY; obtain ⟨AX, cX, eX⟩ := Kd.S_slice HX.out; subst eX; have hcz5_0 : W5.cell? ⟨gb1, 0, none⟩ = some (.int .i64 a0_0) := (blk_cell BK.out 0).trans rfl; have hcz5_1 : W5.cell? ⟨gb1, 1, none⟩ = some (.string a0_1) := (blk_cell BK.out 1).trans rfl; have hfz5_0 := blk_frozen BK.out 0; have hfz5_1 := blk_frozen BK.out 1) | ((with_reducible refine gate_callee (f := 25) rfl ?_); refine goesL_ (some 22) rfl rfl Try.func25 (by kernel_rfl) rfl #[.slice AY t5.length cY, .slice AX t3.length cX] rfl (by (try simp only [List.map_toArray, List.map_cons, List.map_nil]); first | done | rfl) ?_; (with_reducible refine (laws_eqIntSS.calls k _ _ t5 _ _ t3 true _ ?side1 ?side2 ?side3 ?side4 A6.out).mono ?_); (case side1 => exact (Kd.S_reads' HY.out).2.2); (case side2 => exact (Kd.S_reads' HY.out).2.1); (case side3 => exact (Kd.S_reads' HX.out).2.2); (case side4 => exact (Kd.S_reads' HX.out).2.1); rintro e W6 ⟨rfl, hd_⟩; refine ⟨_, rfl, ?_⟩; have hb := hd_.below; clear hd_; have n0_ := Aside0.mk (blk_below (g := gb1) (o := .cells #[.int .i64 a0_0, .string a0_1] 23 (0, 0)) BK.out hb); have n1_ := Aside0.mk (Kd.S_below HX.out hb); have n2_ := Aside0.mk (Kd.S_below HY.out hb); have n3_ := Aside0.mk (Nat.le_trans HS.out hb.size); have n4_ := Aside0.mk (below_step HB.out hb); clear BK HX HY HS HB; have BK := n0_; have HX := n1_; have HY := n2_; have HS := n3_; have HB := n4_; clear n0_ n1_ n2_ n3_ n4_; (try clear hb); have hcz6_0 : W6.cell? ⟨gb1, 0, none⟩ = some (.int .i64 a0_0) := (blk_cell BK.out 0).trans rfl; have hcz6_1 : W6.cell? ⟨gb1, 1, none⟩ = some (.string a0_1) := (blk_cell BK.out 1).trans rfl; have hfz6_0 := blk_frozen BK.out 0; have hfz6_1 := blk_frozen BK.out 1) | ((with_reducible refine gate_callee (f := 26) rfl ?_); refine goesL_ (some 26) rfl rfl Try.func26 (by kernel_rfl) rfl #[.slice AY t5.length cY, .int .i64 1] rfl (by (try simp only [List.map_toArray, List.map_cons, List.map_nil]); first | done | rfl) ?_; (with_reducible refine (laws_markIntSS.calls k (fun k_ => W4.heap.size ≤ k_) (.slice AY t5.length cY) t5 1 _ t7b w _ HB.out HY.out A7.out).mono ?_); rintro e W7 ⟨rfl, hy0, hb, hkp⟩; refine ⟨_, rfl, ?_⟩; have n0_ := Aside0.mk (blk_kept BK.out hkp (fun hs_ => absurd HG.out (Nat.not_lt.2 hs_))); have n1_ := Aside0.mk (Kd.S_step HX.out (fun k_ hk_ hlt_ => hkp.2 k_ hlt_ (fun hs_ => absurd hk_ (Nat.not_lt.2 hs_)))); have n2_ := Aside0.mk (Kd.S_mono (ok' := fun k_ => W4.heap.size ≤ k_) hy0 (fun k_ hk_ => hk_.elim id (fun h_ => Nat.le_trans HS.out h_))); have n3_ := Aside0.mk (Nat.le_trans HS.out hkp.1); have n4_ := Aside0.mk (hb); clear BK HX HY HS HB; have BK := n0_; have HX := n1_; have HY := n2_; have HS := n3_; have HB := n4_; clear n0_ n1_ n2_ n3_ n4_; (try clear hb); clear hkp hy0; have hcz7_0 : W7.cell? ⟨gb1, 0, none⟩ = some (.int .i64 a0_0) := (blk_cell BK.out 0).trans rfl; have hcz7_1 : W7.cell? ⟨gb1, 1, none⟩ = some (.string a0_1) := (blk_cell BK.out 1).trans rfl; have hfz7_0 := blk_frozen BK.out 0; have hfz7_1 := blk_frozen BK.out 1) | ((with_reducible refine gate_callee (f := 27) rfl ?_); refine goesL_ (some 29) rfl rfl Try.func27 (by kernel_rfl) rfl #[.slice AY t7b.length cY, .int .i64 1] rfl (by (try simp only [List.map_toArray, List.map_cons, List.map_nil]); first | done | (rw [show t7b.length = t5.length from (Kd.S_reads' HY.out).1.symm] <;> rfl) | rfl) ?_; (with_reducible refine (laws_heldIntSS.calls k _ _ t7b 1 _ _ ?side1 ?side2 A8.out).mono ?_); (case side1 => exact (Kd.S_reads' HY.out).2.2); (case side2 => rw [show t7b.length = t5.length from (Kd.S_reads' HY.out).1.symm]; exact (Kd.S_reads' HY.out).2.1); rintro e W8 ⟨rfl, hd_⟩; refine ⟨_, rfl, ?_⟩; have hb := hd_.below; clear hd_; have n0_ := Aside0.mk (blk_below (g := gb1) (o := .cells #[.int .i64 a0_0, .string a0_1] 23 (0, 0)) BK.out hb); have n1_ := Aside0.mk (Kd.S_below HX.out hb); have n2_ := Aside0.mk (Kd.S_below HY.out hb); have n3_ := Aside0.mk (below_step HB.out hb); clear BK HX HY HB; have BK := n0_; have HX := n1_; have HY := n2_; have HB := n3_; clear n0_ n1_ n2_ n3_; (try clear hb); have hcz8_0 : W8.cell? ⟨gb1, 0, none⟩ = some (.int .i64 a0_0) := (blk_cell BK.out 0).trans rfl; have hcz8_1 : W8.cell? ⟨gb1, 1, none⟩ = some (.string a0_1) := (blk_cell BK.out 1).trans rfl; have hfz8_0 := blk_frozen BK.out 0; have hfz8_1 := blk_frozen BK.out 1) | ((with_reducible refine gate_callee (f := 17) rfl ?_); refine goesL_ (some 36) rfl rfl Try.func17 (by kernel_rfl) rfl #[.agg #[.int .i64 a0_0, .string a0_1]] rfl (by (try simp only [List.map_toArray, List.map_cons, List.map_nil]); first | done | rfl) ?_; (with_reducible refine (laws_toSigns.calls a0_0 a0_1 t9a t9b _ A9.out).mono ?_); rintro e W9 ⟨rfl, hb⟩; refine ⟨_, rfl, ?_⟩; have n0_ := Aside0.mk (blk_below (g := gb1) (o := .cells #[.int .i64 a0_0, .string a0_1] 23 (0, 0)) BK.out hb); have n1_ := Aside0.mk (Kd.S_below HX.out hb); have n2_ := Aside0.mk (Kd.S_below HY.out hb); have n3_ := Aside0.mk (below_step HB.out hb); clear BK HX HY HB; have BK := n0_; have HX := n1_; have HY := n2_; have HB := n3_; clear n0_ n1_ n2_ n3_; (try clear hb); have hcz9_0 : W9.cell? ⟨gb1, 0, none⟩ = some (.int .i64 a0_0) := (blk_cell BK.out 0).trans rfl; have hcz9_1 : W9.cell? ⟨gb1, 1, none⟩ = some (.string a0_1) := (blk_cell BK.out 1).trans rfl; have hfz9_0 := blk_frozen BK.out 0; have hfz9_1 := blk_frozen BK.out 1) | ((with_reducible refine gate_callee (f := 24) rfl ?_); refine goesL_ (some 37) rfl rfl Try.func24 (by kernel_rfl) rfl #[.agg #[.int .i64 t9a, .string t9b]] rfl (by (try simp only [List.map_toArray, List.map_cons, List.map_nil]); first | done | rfl) ?_; (with_reducible refine (impl_QuadsOf.calls k t9a t9b t10 _ A10.out).mono ?_); rintro e W10 ⟨v10, rfl, ho0, hb⟩; refine ⟨_, rfl, ?_⟩; have n0_ := Aside0.mk (Kd.S_lower ho0 (below_size HB.out)); have n1_ := Aside0.mk (blk_below (g := gb1) (o := .cells #[.int .i64 a0_0, .string a0_1] 23 (0, 0)) BK.out hb); have n2_ := Aside0.mk (Kd.S_below HX.out hb); have n3_ := Aside0.mk (Kd.S_below HY.out hb); have n4_ := Aside0.mk (below_step HB.out hb); clear BK HX HY HB; have HZ := n0_; have BK := n1_; have HX := n2_; have HY := n3_; have HB := n4_; clear n0_ n1_ n2_ n3_ n4_; (try clear hb); clear ho0; obtain ⟨AZ, cZ, eZ⟩ := Kd.S_slice HZ.out; subst eZ; have hcz10_0 : W10.cell? ⟨gb1, 0, none⟩ = some (.int .i64 a0_0) := (blk_cell BK.out 0).trans rfl; have hcz10_1 : W10.cell? ⟨gb1, 1, none⟩ = some (.string a0_1) := (blk_cell BK.out 1).trans rfl; have hfz10_0 := blk_frozen BK.out 0; have hfz10_1 := blk_frozen BK.out 1) | ((with_reducible refine gate_callee (f := 25) rfl ?_); refine goesL_ (some 40) rfl rfl Try.func25 (by kernel_rfl) rfl #[.slice AZ t10.length cZ, .slice AX t3.length cX] rfl (by (try simp only [List.map_toArray, List.map_cons, List.map_nil]); first | done | rfl) ?_; (with_reducible refine (laws_eqIntSS.calls k _ _ t10 _ _ t3 true _ ?side1 ?side2 ?side3 ?side4 A11.out).mono ?_); (case side1 => exact (Kd.S_reads' HZ.out).2.2); (case side2 => exact (Kd.S_reads' HZ.out).2.1); (case side3 => exact (Kd.S_reads' HX.out).2.2); (case side4 => exact (Kd.S_reads' HX.out).2.1); rintro e W11 ⟨rfl, hd_⟩; refine ⟨_, rfl, ?_⟩; have hb := hd_.below; clear hd_; have n0_ := Aside0.mk (blk_below (g := gb1) (o := .cells #[.int .i64 a0_0, .string a0_1] 23 (0, 0)) BK.out hb); have n1_ := Aside0.mk (Kd.S_below HX.out hb); have n2_ := Aside0.mk (Kd.S_below HY.out hb); have n3_ := Aside0.mk (below_step HB.out hb); clear BK HX HY HB; have BK := n0_; have HX := n1_; have HY := n2_; have HB := n3_; clear n0_ n1_ n2_ n3_; (try clear hb); have hcz11_0 : W11.cell? ⟨gb1, 0, none⟩ = some (.int .i64 a0_0) := (blk_cell BK.out 0).trans rfl; have hcz11_1 : W11.cell? ⟨gb1, 1, none⟩ = some (.string a0_1) := (blk_cell BK.out 1).trans rfl; have hfz11_0 := blk_frozen BK.out 0; have hfz11_1 := blk_frozen BK.out 1) | ((with_reducible refine gate_callee (f := 27) rfl ?_); refine goesL_ (some 44) rfl rfl Try.func27 (by kernel_rfl) rfl #[.slice AY t7b.length cY, .int .i64 1] rfl (by (try simp only [List.map_toArray, List.map_cons, List.map_nil]); first | done | (rw [show t7b.length = t5.length from (Kd.S_reads' HY.out).1.symm] <;> rfl) | rfl) ?_; (with_reducible refine (laws_heldIntSS.calls k _ _ t7b 1 _ _ ?side1 ?side2 A12.out).mono ?_); (case side1 => exact (Kd.S_reads' HY.out).2.2); (case side2 => rw [show t7b.length = t5.length from (Kd.S_reads' HY.out).1.symm]; exact (Kd.S_reads' HY.out).2.1); rintro e W12 ⟨rfl, hd_⟩; refine ⟨_, rfl, ?_⟩; have hb := hd_.below; clear hd_; have n0_ := Aside0.mk (blk_below (g := gb1) (o := .cells #[.int .i64 a0_0, .string a0_1] 23 (0, 0)) BK.out hb); have n1_ := Aside0.mk (Kd.S_below HX.out hb); have n2_ := Aside0.mk (Kd.S_below HY.out hb); have n3_ := Aside0.mk (below_step HB.out hb); clear BK HX HY HB; have BK := n0_; have HX := n1_; have HY := n2_; have HB := n3_; clear n0_ n1_ n2_ n3_; (try clear hb); have hcz12_0 : W12.cell? ⟨gb1, 0, none⟩ = some (.int .i64 a0_0) := (blk_cell BK.out 0).trans rfl; have hcz12_1 : W12.cell? ⟨gb1, 1, none⟩ = some (.string a0_1) := (blk_cell BK.out 1).trans rfl; have hfz12_0 := blk_frozen BK.out 0; have hfz12_1 := blk_frozen BK.out 1))
  trace_state
  go_ret
  exact ⟨rfl, HB.out⟩
end Go.Proofs.Ytgnghhelalablaa.PX
namespace Go.Proofs.Ytgnghhelalablaa.M
open Go.RowKit Go.Proofs.YtgnghhelalablaaW.PrintWords Go.Proofs.Ytgnghhelalablaa.PX
theorem rd_nat {l : List Int} {i : Nat} (h : i < l.length) : rd l (i : Int) = l[i] := by
  unfold rd
  rw [Int.toNat_natCast, List.getD_eq_getElem?_getD, List.getElem?_eq_getElem h]
  rfl
theorem eqIntS_loop (l : List Int) (hl : l.length ≤ 1000000000) (d : Nat) : ∀ i : Nat, i + d = l.length → Ev (fun k => laws_eqIntS.l0 k l l (i : Int)) true := by
  induction d with
  | zero =>
    intro i hi
    refine ev_step ?_
    simp only [laws_eqIntS.l0]
    exact ev_neg (by omega) (Ev.now _)
  | succ d ih =>
    intro i hi
    refine ev_step ?_
    simp only [laws_eqIntS.l0]
    refine ev_pos (by omega) (ev_pos (by omega) (ev_pos (by omega) (ev_pos (by first | trivial | rfl) ?_)))
    rw [wrap_id (by omega) (by omega)]
    exact ih (i + 1) (by omega)
theorem eqIntS_self (l : List Int) (hl : l.length ≤ 1000000000) : Ev (fun k => laws_eqIntS.f k l l) true := by
  unfold laws_eqIntS.f
  exact ev_pos rfl (eqIntS_loop l hl l.length 0 (by omega))
/-- The marks 1, 2, .. -/
def marks (n : Nat) : List Int := (List.range n).map fun (i : Nat) => (1 : Int) + (i : Int)
theorem marks_length (n : Nat) : (marks n).length = n := by simp [marks]
theorem marks_succ (n : Nat) : marks (n + 1) = marks n ++ [(1 : Int) + (n : Int)] := by simp [marks, List.range_succ]
theorem mark_loop (d : Nat) : ∀ (i : Nat) (suf : List Int), suf.length = d → i + d ≤ 1000000000 → Ev (fun k => laws_markIntS.l0 k (marks i ++ suf) ((1 : Int) + (i : Int)) (i : Int)) ((1 : Int) + ((i + d : Nat) : Int), marks (i + d)) := by
  induction d with
  | zero =>
    intro i suf hs hb
    obtain rfl : suf = [] := List.eq_nil_of_length_eq_zero hs
    refine ev_step ?_
    simp only [laws_markIntS.l0, List.length_append, marks_length, List.length_nil]
    refine ev_neg (by omega) (ev_cast (Ev.now _) ?_)
    rw [List.append_nil]
    rfl
  | succ d ih =>
    intro i suf hs hb
    cases suf with
    | nil => cases hs
    | cons y ys =>
      rw [List.length_cons] at hs
      refine ev_step ?_
      simp only [laws_markIntS.l0, List.length_append, marks_length, List.length_cons]
      refine ev_pos (by omega) (ev_pos (by omega) ?_)
      rw [wrap_id (x := (i : Int) + 1) (by omega) (by omega), wrap_id (x := (1 : Int) + (i : Int) + 1) (by omega) (by omega)]
      have e : (marks i ++ y :: ys).set (i : Int).toNat ((1 : Int) + (i : Int)) = marks (i + 1) ++ ys := by
        rw [Int.toNat_natCast, List.set_append_right _ _ (by rw [marks_length]; omega), marks_length, Nat.sub_self, List.set_cons_zero, marks_succ, List.append_assoc]
        rfl
      rw [e, show i + (d + 1) = (i + 1) + d by omega, show (1 : Int) + (i : Int) + 1 = (1 : Int) + ((i + 1 : Nat) : Int) by omega]
      exact ih (i + 1) ys (by omega) (by omega)
theorem mark_ev (l : List Int) (hl : l.length ≤ 1000000000) : Ev (fun k => laws_markIntS.f k l 1) ((1 : Int) + (l.length : Int), marks l.length) := by
  unfold laws_markIntS.f
  have := mark_loop l.length 0 l rfl (by omega)
  rw [Nat.zero_add] at this
  exact this
theorem held_loop (n : Nat) (hn : n ≤ 1000000000) (d : Nat) : ∀ i : Nat, i + d = n → Ev (fun k => laws_heldIntS.l0 k (marks n) ((1 : Int) + (i : Int)) (i : Int)) ((1 : Int) + (n : Int)) := by
  induction d with
  | zero =>
    intro i hi
    refine ev_step ?_
    simp only [laws_heldIntS.l0, marks_length]
    refine ev_neg (by omega) (ev_cast (Ev.now _) ?_)
    omega
  | succ d ih =>
    intro i hi
    refine ev_step ?_
    simp only [laws_heldIntS.l0, marks_length]
    refine ev_pos (by omega) (ev_pos (by omega) (ev_pos ?_ ?_))
    · rw [rd_nat (by rw [marks_length]; omega)]
      simp [marks]
    · rw [wrap_id (x := (i : Int) + 1) (by omega) (by omega), wrap_id (x := (1 : Int) + (i : Int) + 1) (by omega) (by omega), show (1 : Int) + (i : Int) + 1 = (1 : Int) + ((i + 1 : Nat) : Int) by omega]
      exact ih (i + 1) (by omega)
theorem held_ev (n : Nat) (hn : n ≤ 1000000000) : Ev (fun k => laws_heldIntS.f k (marks n) 1) ((1 : Int) + (n : Int)) := by
  unfold laws_heldIntS.f
  exact held_loop n hn n 0 (by omega)
end Go.Proofs.Ytgnghhelalablaa.M
namespace Go.Proofs.Ytgnghhelalablaa.M
open Go.RowKit Go.Proofs.YtgnghhelalablaaW.PrintWords Go.Proofs.Ytgnghhelalablaa.PX Go.Proofs.Ytgnghhelalablaa.G
def smallSS (L : List (List Int)) : Prop := L.length ≤ 10000 ∧ ∀ r ∈ L, r.length ≤ 10000
theorem rdL_nat {l : List (List Int)} {i : Nat} (h : i < l.length) : rd_L4 l (i : Int) = l[i] := by
  unfold rd_L4
  rw [Int.toNat_natCast, List.getD_eq_getElem?_getD, List.getElem?_eq_getElem h]
  rfl
theorem eqSS_loop (l : List (List Int)) (hl : smallSS l) (d : Nat) : ∀ i : Nat, i + d = l.length → Ev (fun k => laws_eqIntSS.l0 k l l (i : Int)) true := by
  have hl1 := hl.1
  induction d with
  | zero =>
    intro i hi
    refine ev_step ?_
    simp only [laws_eqIntSS.l0]
    exact ev_neg (by omega) (Ev.now _)
  | succ d ih =>
    intro i hi
    refine ev_step ?_
    simp only [laws_eqIntSS.l0]
    have hlt : i < l.length := by omega
    refine ev_pos (by omega) (ev_pos (by omega) (ev_pos (by omega) ?_))
    rw [rdL_nat hlt, wrap_id (x := (i : Int) + 1) (by omega) (by omega)]
    refine Ev.bind (eqIntS_self _ (Nat.le_trans (hl.2 _ (List.getElem_mem hlt)) (by omega))) (ev_pos rfl ?_)
    exact ih (i + 1) (by omega)
theorem eqSS_self (l : List (List Int)) (hl : smallSS l) : Ev (fun k => laws_eqIntSS.f k l l) true := by
  unfold laws_eqIntSS.f
  exact ev_pos rfl (eqSS_loop l hl l.length 0 (by omega))
def marksF (a : Int) (n : Nat) : List Int := (List.range n).map fun (i : Nat) => a + (i : Int)
theorem marksF_length (a : Int) (n : Nat) : (marksF a n).length = n := by simp [marksF]
theorem marksF_succ (a : Int) (n : Nat) : marksF a (n + 1) = marksF a n ++ [a + (n : Int)] := by simp [marksF, List.range_succ]
theorem markF_loop (a : Int) (ha : 0 ≤ a) (d : Nat) : ∀ (i : Nat) (suf : List Int), suf.length = d → i + d ≤ 1000000000 → a + ((i + d : Nat) : Int) ≤ 4000000000 → Ev (fun k => laws_markIntS.l0 k (marksF a i ++ suf) (a + (i : Int)) (i : Int)) (a + ((i + d : Nat) : Int), marksF a (i + d)) := by
  induction d with
  | zero =>
    intro i suf hs hb hc
    obtain rfl : suf = [] := List.eq_nil_of_length_eq_zero hs
    refine ev_step ?_
    simp only [laws_markIntS.l0, List.length_append, marksF_length, List.length_nil]
    refine ev_neg (by omega) (ev_cast (Ev.now _) ?_)
    rw [List.append_nil]
    rfl
  | succ d ih =>
    intro i suf hs hb hc
    cases suf with
    | nil => cases hs
    | cons y ys =>
      rw [List.length_cons] at hs
      refine ev_step ?_
      simp only [laws_markIntS.l0, List.length_append, marksF_length, List.length_cons]
      refine ev_pos (by omega) (ev_pos (by omega) ?_)
      rw [wrap_id (x := (i : Int) + 1) (by omega) (by omega), wrap_id (x := a + (i : Int) + 1) (by omega) (by omega)]
      have e : (marksF a i ++ y :: ys).set (i : Int).toNat (a + (i : Int)) = marksF a (i + 1) ++ ys := by
        rw [Int.toNat_natCast, List.set_append_right _ _ (by rw [marksF_length]; omega), marksF_length, Nat.sub_self, List.set_cons_zero, marksF_succ, List.append_assoc]
        rfl
      rw [e, show i + (d + 1) = (i + 1) + d by omega, show a + (i : Int) + 1 = a + ((i + 1 : Nat) : Int) by omega]
      exact ih (i + 1) ys (by omega) (by omega) (by omega)
theorem markF_ev (a : Int) (ha : 0 ≤ a) (l : List Int) (hl : l.length ≤ 1000000000) (hc : a + (l.length : Int) ≤ 4000000000) : Ev (fun k => laws_markIntS.f k l a) (a + (l.length : Int), marksF a l.length) := by
  unfold laws_markIntS.f
  have := markF_loop a ha l.length 0 l rfl (by omega) (by omega)
  rw [Nat.zero_add] at this
  refine ev_cast (Ev.congr (fun k => ?_) this) rfl
  show _ = laws_markIntS.l0 k l (a + ((0 : Nat) : Int)) 0
  rw [show a + ((0 : Nat) : Int) = a by omega]
theorem heldF_loop (a : Int) (ha : 0 ≤ a) (n : Nat) (hn : n ≤ 1000000000) (hc : a + (n : Int) ≤ 4000000000) (d : Nat) : ∀ i : Nat, i + d = n → Ev (fun k => laws_heldIntS.l0 k (marksF a n) (a + (i : Int)) (i : Int)) (a + (n : Int)) := by
  induction d with
  | zero =>
    intro i hi
    refine ev_step ?_
    simp only [laws_heldIntS.l0, marksF_length]
    refine ev_neg (by omega) (ev_cast (Ev.now _) ?_)
    omega
  | succ d ih =>
    intro i hi
    refine ev_step ?_
    simp only [laws_heldIntS.l0, marksF_length]
    refine ev_pos (by omega) (ev_pos (by omega) (ev_pos ?_ ?_))
    · rw [rd_nat (by rw [marksF_length]; omega)]
      simp [marksF]
    · rw [wrap_id (x := (i : Int) + 1) (by omega) (by omega), wrap_id (x := a + (i : Int) + 1) (by omega) (by omega), show a + (i : Int) + 1 = a + ((i + 1 : Nat) : Int) by omega]
      exact ih (i + 1) (by omega)
theorem heldF_ev (a : Int) (ha : 0 ≤ a) (n : Nat) (hn : n ≤ 1000000000) (hc : a + (n : Int) ≤ 4000000000) : Ev (fun k => laws_heldIntS.f k (marksF a n) a) (a + (n : Int)) := by
  unfold laws_heldIntS.f
  refine ev_cast (Ev.congr (fun k => ?_) (heldF_loop a ha n hn hc n 0 (by omega))) rfl
  show _ = laws_heldIntS.l0 k (marksF a n) (a + ((0 : Nat) : Int)) 0
  rw [show a + ((0 : Nat) : Int) = a by omega]
def markedSS : Int → List (List Int) → List (List Int)
  | _, [] => []
  | a, r :: rs => marksF a r.length :: markedSS (a + (r.length : Int)) rs
def endSS : Int → List (List Int) → Int
  | a, [] => a
  | a, r :: rs => endSS (a + (r.length : Int)) rs
theorem endSS_ge (L : List (List Int)) : ∀ a, a ≤ endSS a L := by
  induction L with
  | nil => intro a; exact Int.le_refl _
  | cons r rs ih => intro a; have := ih (a + (r.length : Int)); unfold endSS; omega
theorem endSS_le (L : List (List Int)) (h : ∀ r ∈ L, r.length ≤ 10000) : ∀ a, endSS a L ≤ a + 10000 * (L.length : Int) := by
  induction L with
  | nil => intro a; unfold endSS; simp
  | cons r rs ih =>
    intro a
    have h1 := ih (fun x hx => h x (List.mem_cons_of_mem _ hx)) (a + (r.length : Int))
    have h2 := h r List.mem_cons_self
    unfold endSS
    rw [List.length_cons]
    omega
theorem markSS_loop (rest : List (List Int)) (h : ∀ r ∈ rest, r.length ≤ 10000) : ∀ (dn : List (List Int)) (a : Int), 0 ≤ a → dn.length + rest.length ≤ 10000 → endSS a rest ≤ 1000000000 →
    Ev (fun k => laws_markIntSS.l0 k (dn ++ rest) a (dn.length : Int)) (endSS a rest, dn ++ markedSS a rest) := by
  induction rest with
  | nil =>
    intro dn a ha hn he
    refine ev_step ?_
    simp only [laws_markIntSS.l0, List.append_nil]
    refine ev_neg (by omega) (ev_cast (Ev.now _) ?_)
    unfold endSS markedSS
    rw [List.append_nil]
  | cons r rs ih =>
    intro dn a ha hn he
    rw [List.length_cons] at hn
    have hr := h r List.mem_cons_self
    have hge := endSS_ge rs (a + (r.length : Int))
    have he' : endSS (a + (r.length : Int)) rs ≤ 1000000000 := he
    refine ev_step ?_
    simp only [laws_markIntSS.l0, List.length_append, List.length_cons]
    refine ev_pos (by omega) (ev_pos (by omega) ?_)
    have e1 : (dn ++ r :: rs).getD ((dn.length : Int)).toNat [] = r := by
      rw [Int.toNat_natCast, List.getD_eq_getElem?_getD, List.getElem?_append_right (Nat.le_refl _), Nat.sub_self]
      rfl
    have e2 : ∀ y, (dn ++ r :: rs).set ((dn.length : Int)).toNat y = (dn ++ [y]) ++ rs := by
      intro y
      rw [Int.toNat_natCast, List.set_append_right _ _ (Nat.le_refl _), Nat.sub_self, List.set_cons_zero, List.append_assoc]
      rfl
    rw [e1]
    refine Ev.bind (markF_ev a ha r (by omega) (by omega)) ?_
    dsimp only
    rw [e2, wrap_id (x := (dn.length : Int) + 1) (by omega) (by omega)]
    have := ih (fun x hx => h x (List.mem_cons_of_mem _ hx)) (dn ++ [marksF a r.length]) (a + (r.length : Int)) (by omega) (by rw [List.length_append, List.length_singleton]; omega) he'
    rw [List.length_append, List.length_singleton] at this
    refine ev_cast this ?_
    rw [List.append_assoc]
    rfl
theorem markSS_ev (L : List (List Int)) (hl : smallSS L) : Ev (fun k => laws_markIntSS.f k L 1) (endSS 1 L, markedSS 1 L) := by
  unfold laws_markIntSS.f
  have h1 := hl.1
  have h2 := endSS_le L hl.2 1
  exact markSS_loop L hl.2 [] 1 (by omega) (by simp only [List.length_nil]; omega) (by omega)
theorem heldSS_loop (rest : List (List Int)) (h : ∀ r ∈ rest, r.length ≤ 10000) : ∀ (dn : List (List Int)) (a : Int), 0 ≤ a → dn.length + rest.length ≤ 10000 → endSS a rest ≤ 1000000000 →
    Ev (fun k => laws_heldIntSS.l0 k (dn ++ markedSS a rest) a (dn.length : Int)) (endSS a rest) := by
  induction rest with
  | nil =>
    intro dn a ha hn he
    refine ev_step ?_
    simp only [laws_heldIntSS.l0, markedSS, List.append_nil]
    exact ev_neg (by omega) (Ev.now _)
  | cons r rs ih =>
    intro dn a ha hn he
    rw [List.length_cons] at hn
    have hr := h r List.mem_cons_self
    have hge := endSS_ge rs (a + (r.length : Int))
    have he' : endSS (a + (r.length : Int)) rs ≤ 1000000000 := he
    refine ev_step ?_
    simp only [laws_heldIntSS.l0, markedSS, List.length_append, List.length_cons]
    refine ev_pos (by omega) (ev_pos (by omega) ?_)
    have e1 : rd_L4 (dn ++ marksF a r.length :: markedSS (a + (r.length : Int)) rs) (dn.length : Int) = marksF a r.length := by
      unfold rd_L4
      rw [Int.toNat_natCast, List.getD_eq_getElem?_getD, List.getElem?_append_right (Nat.le_refl _), Nat.sub_self]
      rfl
    rw [e1]
    refine Ev.bind (heldF_ev a ha r.length (by omega) (by omega)) (ev_neg (by omega) ?_)
    rw [wrap_id (x := (dn.length : Int) + 1) (by omega) (by omega)]
    have := ih (fun x hx => h x (List.mem_cons_of_mem _ hx)) (dn ++ [marksF a r.length]) (a + (r.length : Int)) (by omega) (by rw [List.length_append, List.length_singleton]; omega) he'
    rw [List.length_append, List.length_singleton, List.append_assoc] at this
    exact this
theorem heldSS_ev (L : List (List Int)) (hl : smallSS L) : Ev (fun k => laws_heldIntSS.f k (markedSS 1 L) 1) (endSS 1 L) := by
  unfold laws_heldIntSS.f
  have h1 := hl.1
  have h2 := endSS_le L hl.2 1
  exact heldSS_loop L hl.2 [] 1 (by omega) (by simp only [List.length_nil]; omega) (by omega)
end Go.Proofs.Ytgnghhelalablaa.M
namespace Go.Proofs.Ytgnghhelalablaa.PX
open Go.RowKit Go.Proofs.Ytgnghhelalablaa.G Go.Proofs.YtgnghhelalablaaW.PrintWords Go.Proofs.YtgnghhelalablaaW.PrintLast Go.Proofs.YtgnghhelalablaaW.PrintMore
attribute [local go_sem] max2_int min2_int max_two min_two max_three min_three max_four min_four   -- for this text's walks alone
set_option linter.unusedVariables false
set_option linter.unusedSimpArgs false
/-! ### impl_isElement: function 68 -/
def impl_isElement.f (a0 : Int) (a1 : Int) : Option (Bool) := if a1 ≥ 0 then (some (decide (a1 < a0))) else (some false)
set_option maxHeartbeats 8000000 in
set_option maxRecDepth 100000 in
theorem impl_isElement.calls (a0 : Int) (a1 : Int) (r : Bool) (w : World) (h : impl_isElement.f a0 a1 = some r) :
  Calls Try.prog 68 #[.int .i64 a0, .int .i64 a1] w fun e w' => e = .returned (.bool r) ∧ Drawn0 w w' := by
 have H : (if a1 ≥ 0 then (some (decide (a1 < a0))) else (some false)) = some r := h
 clear h
 by_cases c3 : a1 ≥ 0
 ·rw [if_pos c3] at H
  have c3b0 : decide (0 ≤ a1) = true := decide_eq_true c3
  clear c3
  obtain rfl := Option.some.inj H
  go_enter Try.func68, Try.ntmps68
  go_wp2
  go_ret
  exact ⟨by first | rfl | (simp; done) | (simp [*]; done), by repeat (first | exact Drawn0.refl _ | apply Drawn0.step)⟩
 ·rw [if_neg c3] at H
  have c3b0 : decide (0 ≤ a1) = false := decide_eq_false c3
  clear c3
  obtain rfl := Option.some.inj H
  go_enter Try.func68, Try.ntmps68
  go_wp2
  go_ret
  exact ⟨by first | rfl | (simp; done) | (simp [*]; done), by repeat (first | exact Drawn0.refl _ | apply Drawn0.step)⟩
/-! ### slices_Index_int_int: function 94 -/
def slices_Index_int_int.l0 : Nat → List Int → Int → Int → Int → Option (Int)
 | 0, _, _, _, _ => none
 | k + 1, x0, x1, x7, x8 => if x8 < x7 then (if 0 ≤ x8 then (if x8 < (x0.length : Int) then (if x1 = (rd x0 x8) then (some x8) else (slices_Index_int_int.l0 k x0 x1 x7 (wrap64 (x8 + 1)))) else (none)) else (none)) else (some (-1))
def slices_Index_int_int.f (k : Nat) (l0 : List Int) (a1 : Int) : Option (Int) := slices_Index_int_int.l0 k l0 a1 (l0.length : Int) 0
theorem slices_Index_int_int.mono_l : ∀ k, (∀ y0 y1 y2 y3, LeO (slices_Index_int_int.l0 k y0 y1 y2 y3) (slices_Index_int_int.l0 (k + 1) y0 y1 y2 y3))
 | 0 => fun _ _ _ _ r h => by simp [slices_Index_int_int.l0] at h
 | k + 1 => by
  have ih0 := slices_Index_int_int.mono_l k
  ·intro y0 y1 y2 y3
   unfold slices_Index_int_int.l0
   repeat' first
   | (with_reducible exact ih0 _ _ _ _)
   | (with_reducible exact LeO.refl _)
   | (with_reducible exact LeO.none _)
   | (with_reducible refine LeO.ite ?_ ?_)
   | (with_reducible refine LeO.bind ?_ (fun _ => ?_))
   | exact ih0 _ _ _ _
   | exact LeO.none _
   | refine LeO.ite ?_ ?_
   | refine LeO.bind ?_ (fun _ => ?_)
theorem slices_Index_int_int.mono : ∀ a0 a1 k, LeO (slices_Index_int_int.f k a0 a1) (slices_Index_int_int.f (k + 1) a0 a1) := by
 intro a0 a1 k
 have ih0 := slices_Index_int_int.mono_l k
 unfold slices_Index_int_int.f
 repeat' first
   | (with_reducible exact ih0 _ _ _ _)
   | (with_reducible exact LeO.refl _)
   | (with_reducible exact LeO.none _)
   | (with_reducible refine LeO.ite ?_ ?_)
   | (with_reducible refine LeO.bind ?_ (fun _ => ?_))
   | exact ih0 _ _ _ _
   | exact LeO.none _
   | refine LeO.ite ?_ ?_
   | refine LeO.bind ?_ (fun _ => ?_)
set_option maxHeartbeats 8000000 in
set_option maxRecDepth 100000 in
theorem slices_Index_int_int.calls (k : Nat) (A0 : Option Addr) (c0 : Nat) (l0 : List Int) (a1 : Int) (r : Int) (w : World) (hr0 : Kd.C (Kd.int .i64) w A0 l0.length l0) (hc0 : l0.length ≤ c0) (h : slices_Index_int_int.f k l0 a1 = some r) :
  Calls Try.prog 94 #[.slice A0 l0.length c0, .int .i64 a1] w fun e w' => e = .returned (.int .i64 r) ∧ Drawn0 w w' := by
 have HR0 := Aside0.mk hr0
 have HC0 := Aside0.mk hc0
 clear hr0 hc0
 have H : (slices_Index_int_int.l0 k l0 a1 (l0.length : Int) 0) = some r := h
 clear h
 have H' := Aside0.mk H
 clear H
 go_enter Try.func94, Try.ntmps94
 go_wp2
 go_loopg [8] k (fun kq v8 w' => ∃ (x8_1 : Int), v8 = .int .i64 x8_1 ∧ Aside0 (slices_Index_int_int.l0 kq l0 a1 (l0.length : Int) x8_1 = some r) ∧ Aside0 (kq ≤ k) ∧ Drawn0 w w')
 case atStart => exact ⟨(0), zF, H', ⟨Nat.le_refl _⟩, by repeat (first | exact Drawn0.refl _ | apply Drawn0.step)⟩
 case round =>
  clear H'
  try clear p2
  obtain ⟨x8_1, rfl, HA, HK1, ⟨m1, rfl⟩⟩ := hrel
  cases gk with
  | zero => exact absurd HA.out (by simp [slices_Index_int_int.l0])
  | succ k1 =>
   have H := HA.out
   clear HA
   simp only [slices_Index_int_int.l0] at H
   by_cases c3 : x8_1 < (l0.length : Int)
   ·rw [if_pos c3] at H
    have c3b0 : decide (x8_1 < (l0.length : Int)) = true := decide_eq_true c3
    clear c3
    by_cases c4 : 0 ≤ x8_1
    ·rw [if_pos c4] at H
     have c4b0 : decide (0 ≤ x8_1) = true := decide_eq_true c4
     clear c4
     by_cases c5 : x8_1 < (l0.length : Int)
     ·rw [if_pos c5] at H
      have c5b0 : decide (x8_1 < (l0.length : Int)) = true := decide_eq_true c5
      clear c5
      by_cases c6 : a1 = (rd l0 x8_1)
      ·rw [if_pos c6] at H
       have c6b0 : (a1 == (rd l0 x8_1)) = true := beq_iff_eq.mpr c6
       have c6b1 : (a1 != (rd l0 x8_1)) = false := bne_eq_false_iff_eq.mpr c6
       clear c6
       obtain rfl := Option.some.inj H
       have p263 : 0 ≤ (x8_1 : Int) := zA
       have q263 : x8_1 < (l0.length : Int) := zA
       obtain ⟨ad263, e263, hx263_0⟩ := Kd.at_int HR0.out x8_1 p263 q263
       cases e263
       replace p263 := eq_true p263
       replace q263 := eq_true q263
       go_wp2
       go_ret
       exact ⟨by first | rfl | (simp; done) | (simp [*]; done), by repeat (first | exact Drawn0.refl _ | apply Drawn0.step)⟩
      ·rw [if_neg c6] at H
       have c6b0 : (a1 == (rd l0 x8_1)) = false := beq_eq_false_iff_ne.mpr c6
       have c6b1 : (a1 != (rd l0 x8_1)) = true := bne_iff_ne.mpr c6
       have H' := Aside0.mk H
       clear H
       have p263 : 0 ≤ (x8_1 : Int) := zA
       have q263 : x8_1 < (l0.length : Int) := zA
       obtain ⟨ad263, e263, hx263_0⟩ := Kd.at_int HR0.out x8_1 p263 q263
       cases e263
       replace p263 := eq_true p263
       replace q263 := eq_true q263
       go_wp2
       go_roundg k1
       case measure => have := HK1.out; omega
       case rel => exact ⟨(wrap64 (x8_1 + 1)), zF, H', ⟨by have := HK1.out; omega⟩, by repeat (first | exact Drawn0.refl _ | apply Drawn0.step)⟩
     ·rw [if_neg c5] at H
      exact absurd H (by simp)
    ·rw [if_neg c4] at H
     exact absurd H (by simp)
   ·rw [if_neg c3] at H
    have c3b0 : decide (x8_1 < (l0.length : Int)) = false := decide_eq_false c3
    clear c3
    obtain rfl := Option.some.inj H
    go_wp2
    go_ret
    exact ⟨by first | rfl | (simp; done) | (simp [*]; done), by repeat (first | exact Drawn0.refl _ | apply Drawn0.step)⟩
/-! ### slices_Contains_int_int: function 81 -/
def slices_Contains_int_int.f (k : Nat) (l0 : List Int) (a1 : Int) : Option (Bool) := (slices_Index_int_int.f k l0 a1).bind fun t264 => (some (decide (t264 ≥ 0)))
theorem slices_Contains_int_int.mono : ∀ a0 a1 k, LeO (slices_Contains_int_int.f k a0 a1) (slices_Contains_int_int.f (k + 1) a0 a1) := by
 intro a0 a1 k
 unfold slices_Contains_int_int.f
 repeat' first
   | (with_reducible exact slices_Index_int_int.mono _ _ _)
   | (with_reducible exact LeO.refl _)
   | (with_reducible exact LeO.none _)
   | (with_reducible refine LeO.ite ?_ ?_)
   | (with_reducible refine LeO.bind ?_ (fun _ => ?_))
   | exact slices_Index_int_int.mono _ _ _
   | exact LeO.none _
   | refine LeO.ite ?_ ?_
   | refine LeO.bind ?_ (fun _ => ?_)
set_option maxHeartbeats 8000000 in
set_option maxRecDepth 100000 in
theorem slices_Contains_int_int.calls (k : Nat) (A0 : Option Addr) (c0 : Nat) (l0 : List Int) (a1 : Int) (r : Bool) (w : World) (hr0 : Kd.C (Kd.int .i64) w A0 l0.length l0) (hc0 : l0.length ≤ c0) (h : slices_Contains_int_int.f k l0 a1 = some r) :
  Calls Try.prog 81 #[.slice A0 l0.length c0, .int .i64 a1] w fun e w' => e = .returned (.bool r) ∧ Drawn0 w w' := by
 have HR0 := Aside0.mk hr0
 have HC0 := Aside0.mk hc0
 clear hr0 hc0
 have H : ((slices_Index_int_int.f k l0 a1).bind fun t264 => (some (decide (t264 ≥ 0)))) = some r := h
 clear h
 replace H := Option.bind_eq_some_iff.mp H
 obtain ⟨t264, A30, H⟩ := H
 replace H : (some (decide (t264 ≥ 0))) = some r := H
 have A3 := Aside0.mk A30
 clear A30
 obtain rfl := Option.some.inj H
 go_enter Try.func81, Try.ntmps81
 go_wp2_with (first | ((with_reducible refine gate_callee (f := 94) rfl ?_); refine goesL_ (some 7) rfl rfl Try.func94 (by kernel_rfl) rfl #[.slice A0 l0.length c0, .int .i64 a1] rfl zM ?_; (with_reducible refine (slices_Index_int_int.calls k _ _ l0 a1 t264 _ ?side1 ?side2 A3.out).mono ?_); (case side1 => repeat (first | exact HR0.out | (with_reducible refine Kd.C_alloc ?_ _) | (with_reducible refine Kd.C_drewN ?_ _) | (with_reducible refine Kd.C_drew ?_))); (case side2 => exact HC0.out); rintro e w' ⟨rfl, ⟨nd, rfl⟩⟩; refine ⟨_, rfl, ?_⟩))
 go_ret
 exact ⟨by first | rfl | (simp; done) | (simp [*]; done), by repeat (first | exact Drawn0.refl _ | apply Drawn0.step)⟩
/-! ### impl_areDifferent: function 48 -/
def impl_areDifferent.l0 : Nat → Int → List Int → List Int → Int → Int → Option (Bool)
 | 0, _, _, _, _, _ => none
 | k + 1, x0, x1, x7, x8, x9 => if x9 < x8 then (if 0 ≤ x9 then (if x9 < (x7.length : Int) then ((impl_isElement.f x0 (rd x7 x9)).bind fun t266 => (if t266 = true then (if x9 ≤ (x1.length : Int) then ((slices_Contains_int_int.f k (x1.take (x9 : Int).toNat) (rd x7 x9)).bind fun t268 => (if t268 = true then (some false) else (impl_areDifferent.l0 k x0 x1 x7 x8 (wrap64 (x9 + 1))))) else (none)) else (some false))) else (none)) else (none)) else (some true)
def impl_areDifferent.f (k : Nat) (a0 : Int) (l1 : List Int) : Option (Bool) := impl_areDifferent.l0 k a0 l1 l1 (l1.length : Int) 0
theorem impl_areDifferent.mono_l : ∀ k, (∀ y0 y1 y2 y3 y4, LeO (impl_areDifferent.l0 k y0 y1 y2 y3 y4) (impl_areDifferent.l0 (k + 1) y0 y1 y2 y3 y4))
 | 0 => fun _ _ _ _ _ r h => by simp [impl_areDifferent.l0] at h
 | k + 1 => by
  have ih0 := impl_areDifferent.mono_l k
  ·intro y0 y1 y2 y3 y4
   unfold impl_areDifferent.l0
   repeat' first
   | (with_reducible exact ih0 _ _ _ _ _)
   | (with_reducible exact slices_Contains_int_int.mono _ _ _)
   | (with_reducible exact LeO.refl _)
   | (with_reducible exact LeO.none _)
   | (with_reducible refine LeO.ite ?_ ?_)
   | (with_reducible refine LeO.bind ?_ (fun _ => ?_))
   | exact ih0 _ _ _ _ _
   | exact slices_Contains_int_int.mono _ _ _
   | exact LeO.none _
   | refine LeO.ite ?_ ?_
   | refine LeO.bind ?_ (fun _ => ?_)
theorem impl_areDifferent.mono : ∀ a0 a1 k, LeO (impl_areDifferent.f k a0 a1) (impl_areDifferent.f (k + 1) a0 a1) := by
 intro a0 a1 k
 have ih0 := impl_areDifferent.mono_l k
 unfold impl_areDifferent.f
 repeat' first
   | (with_reducible exact ih0 _ _ _ _ _)
   | (with_reducible exact slices_Contains_int_int.mono _ _ _)
   | (with_reducible exact LeO.refl _)
   | (with_reducible exact LeO.none _)
   | (with_reducible refine LeO.ite ?_ ?_)
   | (with_reducible refine LeO.bind ?_ (fun _ => ?_))
   | exact ih0 _ _ _ _ _
   | exact slices_Contains_int_int.mono _ _ _
   | exact LeO.none _
   | refine LeO.ite ?_ ?_
   | refine LeO.bind ?_ (fun _ => ?_)
set_option maxHeartbeats 8000000 in
set_option maxRecDepth 100000 in
theorem impl_areDifferent.calls (k : Nat) (a0 : Int) (A1 : Option Addr) (c1 : Nat) (l1 : List Int) (r : Bool) (w : World) (hr1 : Kd.C (Kd.int .i64) w A1 l1.length l1) (hc1 : l1.length ≤ c1) (h : impl_areDifferent.f k a0 l1 = some r) :
  Calls Try.prog 48 #[.int .i64 a0, .slice A1 l1.length c1] w fun e w' => e = .returned (.bool r) ∧ Drawn0 w w' := by
 have HR1 := Aside0.mk hr1
 have HC1 := Aside0.mk hc1
 clear hr1 hc1
 have H : (impl_areDifferent.l0 k a0 l1 l1 (l1.length : Int) 0) = some r := h
 clear h
 have H' := Aside0.mk H
 clear H
 go_enter Try.func48, Try.ntmps48
 go_wp2
 go_loopg [9] k (fun kq v9 w' => ∃ (x9_1 : Int), v9 = .int .i64 x9_1 ∧ Aside0 (impl_areDifferent.l0 kq a0 l1 l1 (l1.length : Int) x9_1 = some r) ∧ Aside0 (kq ≤ k) ∧ Drawn0 w w')
 case atStart => exact ⟨(0), zF, H', ⟨Nat.le_refl _⟩, by repeat (first | exact Drawn0.refl _ | apply Drawn0.step)⟩
 case round =>
  clear H'
  try clear c1
  try clear p2
  obtain ⟨x9_1, rfl, HA, HK1, ⟨m1, rfl⟩⟩ := hrel
  cases gk with
  | zero => exact absurd HA.out (by simp [impl_areDifferent.l0])
  | succ k1 =>
   have H := HA.out
   clear HA
   simp only [impl_areDifferent.l0] at H
   by_cases c3 : x9_1 < (l1.length : Int)
   ·rw [if_pos c3] at H
    have c3b0 : decide (x9_1 < (l1.length : Int)) = true := decide_eq_true c3
    clear c3
    by_cases c4 : 0 ≤ x9_1
    ·rw [if_pos c4] at H
     have c4b0 : decide (0 ≤ x9_1) = true := decide_eq_true c4
     clear c4
     by_cases c5 : x9_1 < (l1.length : Int)
     ·rw [if_pos c5] at H
      have c5b0 : decide (x9_1 < (l1.length : Int)) = true := decide_eq_true c5
      clear c5
      replace H := Option.bind_eq_some_iff.mp H
      obtain ⟨t266, A60, H⟩ := H
      replace H : (if t266 = true then (if x9_1 ≤ (l1.length : Int) then ((slices_Contains_int_int.f k1 (l1.take (x9_1 : Int).toNat) (rd l1 x9_1)).bind fun t268 => (if t268 = true then (some false) else (impl_areDifferent.l0 k1 a0 l1 l1 (l1.length : Int) (wrap64 (x9_1 + 1))))) else (none)) else (some false)) = some r := H
      have A6 := Aside0.mk A60
      clear A60
      by_cases c7 : t266 = true
      ·subst c7
       have H1 : (if x9_1 ≤ (l1.length : Int) then ((slices_Contains_int_int.f k1 (l1.take (x9_1 : Int).toNat) (rd l1 x9_1)).bind fun t268 => (if t268 = true then (some false) else (impl_areDifferent.l0 k1 a0 l1 l1 (l1.length : Int) (wrap64 (x9_1 + 1))))) else (none)) = some r := by rw [if_pos rfl] at H; exact H
       clear H
       have H := H1
       clear H1
       have c8b0 := eq_true (zA : 0 ≤ x9_1)
       by_cases c9 : x9_1 ≤ (l1.length : Int)
       ·rw [if_pos c9] at H
        have c9b0 := eq_true c9
        have c9b1 : decide (x9_1 ≤ (l1.length : Int)) = true := decide_eq_true c9
        clear c9
        replace H := Option.bind_eq_some_iff.mp H
        obtain ⟨t268, A100, H⟩ := H
        replace H : (if t268 = true then (some false) else (impl_areDifferent.l0 k1 a0 l1 l1 (l1.length : Int) (wrap64 (x9_1 + 1)))) = some r := H
        have A10 := Aside0.mk A100
        clear A100
        by_cases c11 : t268 = true
        ·subst c11
         have H1 : (some false) = some r := by rw [if_pos rfl] at H; exact H
         clear H
         have H := H1
         clear H1
         obtain rfl := Option.some.inj H
         have p265 : 0 ≤ (x9_1 : Int) := zA
         have q265 : x9_1 < (l1.length : Int) := zA
         obtain ⟨ad265, e265, hx265_0⟩ := Kd.at_int HR1.out x9_1 p265 q265
         cases e265
         replace p265 := eq_true p265
         replace q265 := eq_true q265
         go_wp2_with (first | ((with_reducible refine gate_callee (f := 68) rfl ?_); refine goesL_ (some 16) rfl rfl Try.func68 (by kernel_rfl) rfl #[.int .i64 a0, .int .i64 (rd l1 x9_1)] rfl zM ?_; (with_reducible refine (impl_isElement.calls a0 (rd l1 x9_1) true _ A6.out).mono ?_); rintro e w' ⟨rfl, ⟨nd, rfl⟩⟩; refine ⟨_, rfl, ?_⟩; obtain ⟨i012, hi012, _, hsz12, _⟩ := info_parts info3; obtain ⟨hcut12, hA12, hC12⟩ := print_take_of (P := Try.prog) (Value.int .i64) 0 45 3 .i64 Try.underlying45 hi012 hsz12 (some ad265) c1 l1 x9_1 (zA) (zA) HC1.out; have HR267 := Aside0.mk (Kd.C_of_reads (h1 := fun _ => rfl) (hA12 _ (Kd.reads_of_C HR1.out))); have HC267 := Aside0.mk hC12; clear hA12 hC12 hi012 hsz12) | (go_at_call 81; have hq_ : (x9_1 : Int) < (l1.length : Int) := zA; refine calls_of_args (args' := #[.slice _ (l1.take (x9_1 : Int).toNat).length _, .int .i64 (rd l1 x9_1)]) (by rw [List.length_take, Nat.min_eq_left (by omega)]) ?_; clear hq_; (with_reducible refine (slices_Contains_int_int.calls k1 _ _ (l1.take (x9_1 : Int).toNat) (rd l1 x9_1) true _ ?side1 ?side2 A10.out).mono ?_); (case side1 => repeat (first | exact HR267.out | (with_reducible refine Kd.C_alloc ?_ _) | (with_reducible refine Kd.C_drewN ?_ _) | (with_reducible refine Kd.C_drew ?_))); (case side2 => exact HC267.out); rintro e w' ⟨rfl, ⟨nd, rfl⟩⟩))
         go_ret
         exact ⟨by first | rfl | (simp; done) | (simp [*]; done), by repeat (first | exact Drawn0.refl _ | apply Drawn0.step)⟩
        ·replace c11 := Bool.eq_false_iff.mpr c11
         subst c11
         have H1 : (impl_areDifferent.l0 k1 a0 l1 l1 (l1.length : Int) (wrap64 (x9_1 + 1))) = some r := by rw [if_neg (show ¬ (false = true) by decide)] at H; exact H
         clear H
         have H := H1
         clear H1
         have H' := Aside0.mk H
         clear H
         have p265 : 0 ≤ (x9_1 : Int) := zA
         have q265 : x9_1 < (l1.length : Int) := zA
         obtain ⟨ad265, e265, hx265_0⟩ := Kd.at_int HR1.out x9_1 p265 q265
         cases e265
         replace p265 := eq_true p265
         replace q265 := eq_true q265
         go_wp2_with (first | ((with_reducible refine gate_callee (f := 68) rfl ?_); refine goesL_ (some 16) rfl rfl Try.func68 (by kernel_rfl) rfl #[.int .i64 a0, .int .i64 (rd l1 x9_1)] rfl zM ?_; (with_reducible refine (impl_isElement.calls a0 (rd l1 x9_1) true _ A6.out).mono ?_); rintro e w' ⟨rfl, ⟨nd, rfl⟩⟩; refine ⟨_, rfl, ?_⟩; obtain ⟨i013, hi013, _, hsz13, _⟩ := info_parts info3; obtain ⟨hcut13, hA13, hC13⟩ := print_take_of (P := Try.prog) (Value.int .i64) 0 45 3 .i64 Try.underlying45 hi013 hsz13 (some ad265) c1 l1 x9_1 (zA) (zA) HC1.out; have HR267 := Aside0.mk (Kd.C_of_reads (h1 := fun _ => rfl) (hA13 _ (Kd.reads_of_C HR1.out))); have HC267 := Aside0.mk hC13; clear hA13 hC13 hi013 hsz13) | (go_at_call 81; have hq_ : (x9_1 : Int) < (l1.length : Int) := zA; refine calls_of_args (args' := #[.slice _ (l1.take (x9_1 : Int).toNat).length _, .int .i64 (rd l1 x9_1)]) (by rw [List.length_take, Nat.min_eq_left (by omega)]) ?_; clear hq_; (with_reducible refine (slices_Contains_int_int.calls k1 _ _ (l1.take (x9_1 : Int).toNat) (rd l1 x9_1) false _ ?side1 ?side2 A10.out).mono ?_); (case side1 => repeat (first | exact HR267.out | (with_reducible refine Kd.C_alloc ?_ _) | (with_reducible refine Kd.C_drewN ?_ _) | (with_reducible refine Kd.C_drew ?_))); (case side2 => exact HC267.out); rintro e w' ⟨rfl, ⟨nd, rfl⟩⟩))
         go_roundg k1
         case measure => have := HK1.out; omega
         case rel => exact ⟨(wrap64 (x9_1 + 1)), zF, H', ⟨by have := HK1.out; omega⟩, by repeat (first | exact Drawn0.refl _ | apply Drawn0.step)⟩
       ·rw [if_neg c9] at H
        exact absurd H (by simp)
      ·replace c7 := Bool.eq_false_iff.mpr c7
       subst c7
       have H1 : (some false) = some r := by rw [if_neg (show ¬ (false = true) by decide)] at H; exact H
       clear H
       have H := H1
       clear H1
       obtain rfl := Option.some.inj H
       have p265 : 0 ≤ (x9_1 : Int) := zA
       have q265 : x9_1 < (l1.length : Int) := zA
       obtain ⟨ad265, e265, hx265_0⟩ := Kd.at_int HR1.out x9_1 p265 q265
       cases e265
       replace p265 := eq_true p265
       replace q265 := eq_true q265
       go_wp2_with (first | ((with_reducible refine gate_callee (f := 68) rfl ?_); refine goesL_ (some 16) rfl rfl Try.func68 (by kernel_rfl) rfl #[.int .i64 a0, .int .i64 (rd l1 x9_1)] rfl zM ?_; (with_reducible refine (impl_isElement.calls a0 (rd l1 x9_1) false _ A6.out).mono ?_); rintro e w' ⟨rfl, ⟨nd, rfl⟩⟩; refine ⟨_, rfl, ?_⟩))
       go_ret
       exact ⟨by first | rfl | (simp; done) | (simp [*]; done), by repeat (first | exact Drawn0.refl _ | apply Drawn0.step)⟩
     ·rw [if_neg c5] at H
      exact absurd H (by simp)
    ·rw [if_neg c4] at H
     exact absurd H (by simp)
   ·rw [if_neg c3] at H
    have c3b0 : decide (x9_1 < (l1.length : Int)) = false := decide_eq_false c3
    clear c3
    obtain rfl := Option.some.inj H
    go_wp2
    go_ret
    exact ⟨by first | rfl | (simp; done) | (simp [*]; done), by repeat (first | exact Drawn0.refl _ | apply Drawn0.step)⟩
end Go.Proofs.Ytgnghhelalablaa.PX
namespace Go.Proofs.Ytgnghhelalablaa.M
open Go.RowKit Go.Proofs.YtgnghhelalablaaW.PrintWords Go.Proofs.Ytgnghhelalablaa.PX
def inR (n a : Int) : Bool := decide (0 ≤ a) && decide (a < n)
theorem isElement_f (n a : Int) : impl_isElement.f n a = some (inR n a) := by
  unfold impl_isElement.f inR
  by_cases h : a ≥ 0
  · rw [if_pos h, decide_eq_true (show (0 : Int) ≤ a from h), Bool.true_and]
  · rw [if_neg h, decide_eq_false (show ¬ (0 : Int) ≤ a from h), Bool.false_and]
theorem index_loop (l : List Int) (a : Int) (hl : l.length ≤ 9223372036854775807) (d : Nat) : ∀ i : Nat, i + d = l.length →
    ∃ r, Ev (fun k => slices_Index_int_int.l0 k l a (l.length : Int) (i : Int)) r ∧ decide (r ≥ 0) = (l.drop i).contains a := by
  induction d with
  | zero =>
    intro i hi
    refine ⟨-1, ev_step ?_, ?_⟩
    · simp only [slices_Index_int_int.l0]
      exact ev_neg (by omega) (Ev.now _)
    · rw [List.drop_of_length_le (by omega)]; rfl
  | succ d ih =>
    intro i hi
    have hlt : i < l.length := by omega
    have hr : rd l (i : Int) = l[i] := by
      unfold rd
      rw [Int.toNat_natCast, List.getD_eq_getElem?_getD, List.getElem?_eq_getElem hlt]; rfl
    rw [List.drop_eq_getElem_cons hlt]
    by_cases h : a = l[i]
    · refine ⟨i, ev_step ?_, ?_⟩
      · simp only [slices_Index_int_int.l0, hr]
        exact ev_pos (by omega) (ev_pos (by omega) (ev_pos (by omega) (ev_pos h (Ev.now _))))
      · subst h
        rw [List.contains_cons, beq_self_eq_true, Bool.true_or]
        exact decide_eq_true (by omega)
    · obtain ⟨r, h1, h2⟩ := ih (i + 1) (by omega)
      refine ⟨r, ev_step ?_, ?_⟩
      · simp only [slices_Index_int_int.l0, hr]
        refine ev_pos (by omega) (ev_pos (by omega) (ev_pos (by omega) (ev_neg h ?_)))
        rw [wrap_id (by omega) (by omega)]
        exact h1
      · rw [h2, List.contains_cons, beq_eq_false_iff_ne.2 h, Bool.false_or]
theorem contains_ev (l : List Int) (a : Int) (hl : l.length ≤ 9223372036854775807) : Ev (fun k => slices_Contains_int_int.f k l a) (l.contains a) := by
  obtain ⟨r, h1, h2⟩ := index_loop l a hl l.length 0 (by omega)
  unfold slices_Contains_int_int.f
  refine Ev.bind h1 ?_
  rw [h2, List.drop_zero]
  exact Ev.now _
/-- Are all of a list elements, and no two equal? -/
def areD (n : Int) (l : List Int) : Bool := (List.range l.length).all fun i => inR n (l.getD i 0) && !((l.take i).contains (l.getD i 0))
theorem diff_loop (n : Int) (l : List Int) (hl : l.length ≤ 9223372036854775807) (d : Nat) : ∀ i : Nat, i + d = l.length →
    Ev (fun k => impl_areDifferent.l0 k n l l (l.length : Int) (i : Int)) ((List.range' i d).all fun i => inR n (l.getD i 0) && !((l.take i).contains (l.getD i 0))) := by
  induction d with
  | zero =>
    intro i hi
    refine ev_step ?_
    simp only [impl_areDifferent.l0]
    exact ev_neg (by omega) (Ev.now _)
  | succ d ih =>
    intro i hi
    have hr : rd l (i : Int) = l.getD i 0 := by unfold rd; rw [Int.toNat_natCast]
    rw [List.range'_succ, List.all_cons]
    refine ev_step ?_
    simp only [impl_areDifferent.l0, hr, Int.toNat_natCast]
    refine ev_pos (by omega) (ev_pos (by omega) (ev_pos (by omega) (ev_call (isElement_f n _) ?_)))
    cases h1 : inR n (l.getD i 0) with
    | false => exact ev_neg (by simp) (Ev.now _)
    | true =>
      refine ev_pos (by trivial) (ev_pos (by omega) (Ev.bind (contains_ev _ _ (by rw [List.length_take]; omega)) ?_))
      cases h2 : (l.take i).contains (l.getD i 0) with
      | true => exact ev_pos (by trivial) (Ev.now _)
      | false =>
        refine ev_neg (by simp) ?_
        rw [wrap_id (by omega) (by omega)]
        simp only [Bool.not_false, Bool.and_self, Bool.true_and]
        exact ih (i + 1) (by omega)
theorem different_ev (n : Int) (l : List Int) (hl : l.length ≤ 9223372036854775807) : Ev (fun k => impl_areDifferent.f k n l) (areD n l) := by
  unfold impl_areDifferent.f areD
  rw [List.range_eq_range']
  exact diff_loop n l hl l.length 0 (by omega)
theorem areD_3 (n a b c : Int) : areD n [a, b, c] = true ↔ (0 ≤ a ∧ a < n) ∧ (0 ≤ b ∧ b < n) ∧ (0 ≤ c ∧ c < n) ∧ a ≠ b ∧ b ≠ c ∧ a ≠ c := by
  have e : areD n [a, b, c] = ((inR n a && !(([] : List Int).contains a)) && ((inR n b && !([a].contains b)) && ((inR n c && !([a, b].contains c)) && true))) := rfl
  rw [e]
  simp only [inR, Bool.and_eq_true, decide_eq_true_eq, List.contains_cons, List.contains_nil, Bool.not_eq_true', Bool.or_eq_false_iff, beq_eq_false_iff_ne, ne_eq, and_true, Bool.or_false]
  constructor <;> intro h <;> omega
end Go.Proofs.Ytgnghhelalablaa.M
namespace Go.Proofs.Ytgnghhelalablaa.M
open Go.RowKit Go.Proofs.YtgnghhelalablaaW.PrintWords Go.Proofs.Ytgnghhelalablaa.PX Go.Proofs.Ytgnghhelalablaa.G
theorem areD_4 (n a b c d : Int) : areD n [a, b, c, d] = true ↔ ((0 ≤ a ∧ a < n) ∧ (0 ≤ b ∧ b < n) ∧ (0 ≤ c ∧ c < n) ∧ (0 ≤ d ∧ d < n)) ∧ a ≠ b ∧ a ≠ c ∧ a ≠ d ∧ b ≠ c ∧ b ≠ d ∧ c ≠ d := by
  have e : areD n [a, b, c, d] = ((inR n a && !(([] : List Int).contains a)) && ((inR n b && !([a].contains b)) && ((inR n c && !([a, b].contains c)) && ((inR n d && !([a, b, c].contains d)) && true)))) := rfl
  rw [e]
  simp only [inR, Bool.and_eq_true, decide_eq_true_eq, List.contains_cons, List.contains_nil, Bool.not_eq_true', Bool.or_eq_false_iff, beq_eq_false_iff_ne, ne_eq, and_true, Bool.or_false]
  constructor <;> intro h <;> omega
def sB (x : Int) : UInt8 := if x > 0 then 43 else 45
/-- The circuit's text out of the four signs. -/
def circT (A B C D : Int) : ByteArray := ⟨#[43, sB (-A * B), sB (A * C), sB (-A * D)]⟩
def pm : List Int := [1, -1]
def circChk : Bool := pm.all fun A => pm.all fun B => pm.all fun C => pm.all fun D => decide (impl_chi_circuit.l0 20 ([] : List Int) [A, wrap64 (-B), C, wrap64 (-D)] 4 0 = some (circT A B C D))
theorem circChk_ok : circChk = true := by decide +kernel
theorem pm_mem {x : Int} (h : x = 1 ∨ x = -1) : x ∈ pm := by rcases h with h | h <;> rw [h] <;> decide
theorem circ_loop {A B C D : Int} (hA : A = 1 ∨ A = -1) (hB : B = 1 ∨ B = -1) (hC : C = 1 ∨ C = -1) (hD : D = 1 ∨ D = -1) : Ev (fun k => impl_chi_circuit.l0 k ([] : List Int) [A, wrap64 (-B), C, wrap64 (-D)] 4 0) (circT A B C D) := by
  have h := circChk_ok
  have h := List.all_eq_true.1 h A (pm_mem hA)
  have h := List.all_eq_true.1 h B (pm_mem hB)
  have h := List.all_eq_true.1 h C (pm_mem hC)
  have h := List.all_eq_true.1 h D (pm_mem hD)
  exact Ev.of (fun k => impl_chi_circuit.mono_l k _ _ _ _) (of_decide_eq_true h)
/-- What CircuitOf answers. -/
def circ (n : Int) (t : ByteArray) (a b c d : Int) : ByteArray := if areOk n t = true ∧ areD n [a, b, c, d] = true then circT (chi n.toNat t b.toNat c.toNat d.toNat) (chi n.toNat t a.toNat c.toNat d.toNat) (chi n.toNat t a.toNat b.toNat d.toNat) (chi n.toNat t a.toNat b.toNat c.toNat) else ⟨#[]⟩
/-- circuit, of a good table. -/
theorem chi_circuit_ev {n : Nat} {t : ByteArray} (h : areOk n t = true) {a b c d : Nat} (ha : a < n) (hb : b < n) (hc : c < n) (hd : d < n) (e1 : a ≠ b) (e2 : a ≠ c) (e3 : a ≠ d) (e4 : b ≠ c) (e5 : b ≠ d) (e6 : c ≠ d) :
    Ev (fun k => impl_chi_circuit.f k (tblL n t) (a : Int) (b : Int) (c : Int) (d : Int)) (circT (chi n t b c d) (chi n t a c d) (chi n t a b d) (chi n t a b c)) := by
  obtain ⟨⟨h0, h1⟩, _, _⟩ := (areOk_iff _ _).1 h
  have h0 : 3 ≤ n := by omega
  have h1 : n ≤ 7 := by omega
  unfold impl_chi_circuit.f
  refine ev_pos (by omega) (ev_pos (by omega) (ev_pos (by omega) (ev_pos (by omega) (ev_pos (by omega) (ev_pos (by omega) (ev_pos (by omega) (ev_pos (by omega) ?_)))))))
  rw [tbl_rd n t b c d (by omega) (by omega) (by omega), tbl_rd n t a c d (by omega) (by omega) (by omega), tbl_rd n t a b d (by omega) (by omega) (by omega), tbl_rd n t a b c (by omega) (by omega) (by omega)]
  exact ev_call rfl (circ_loop (chi_pm t h0 h1 hb hc hd e4 e6 e5) (chi_pm t h0 h1 ha hc hd e2 e6 e3) (chi_pm t h0 h1 ha hb hd e1 e5 e3) (chi_pm t h0 h1 ha hb hc e1 e4 e2))
theorem byte_f {x : Int} : ∃ v : ByteArray, spec_l3Byte.f x = some v ∧ v = ⟨#[sB x]⟩ := by
  unfold spec_l3Byte.f sB
  split
  · exact ⟨_, rfl, rfl⟩
  · exact ⟨_, rfl, rfl⟩
theorem l3Byte_ev (x : Int) : spec_l3Byte.f x = some ⟨#[sB x]⟩ := by
  obtain ⟨v, h, e⟩ := byte_f (x := x)
  rw [h, e]
theorem spec_circ4 {n : Nat} {t : ByteArray} (h : areOk n t = true) {a b c d : Nat} (ha : a < n) (hb : b < n) (hc : c < n) (hd : d < n) (e1 : a ≠ b) (e2 : a ≠ c) (e3 : a ≠ d) (e4 : b ≠ c) (e5 : b ≠ d) (e6 : c ≠ d) :
    Ev (fun k => spec_l4Circuit.f k (n : Int) t (a : Int) (b : Int) (c : Int) (d : Int)) (circT (chi n t b c d) (chi n t a c d) (chi n t a b d) (chi n t a b c)) := by
  obtain ⟨⟨h0, h1⟩, _, _⟩ := (areOk_iff _ _).1 h
  have h0 : 3 ≤ n := by omega
  have h1 : n ≤ 7 := by omega
  unfold spec_l4Circuit.f
  refine Ev.bind (l3At_ev h hb hc hd e4 e6 e5) (Ev.bind (l3At_ev h ha hc hd e2 e6 e3) (ev_call (l3Byte_ev _) (ev_pos (by show (1 : Nat) + 1 ≤ 9223372036854775807; omega) ?_)))
  refine Ev.bind (l3At_ev h ha hb hd e1 e5 e3) (ev_call (l3Byte_ev _) (ev_pos (by show (1 : Nat) + 1 + 1 ≤ 9223372036854775807; omega) ?_))
  refine Ev.bind (l3At_ev h ha hb hc e1 e4 e2) (ev_call (l3Byte_ev _) (ev_pos (by show (1 : Nat) + 1 + 1 + 1 ≤ 9223372036854775807; omega) (ev_cast (Ev.now _) ?_)))
  rcases chi_pm t h0 h1 hb hc hd e4 e6 e5 with A | A <;> rcases chi_pm t h0 h1 ha hc hd e2 e6 e3 with B | B <;> rcases chi_pm t h0 h1 ha hb hd e1 e5 e3 with C | C <;> rcases chi_pm t h0 h1 ha hb hc e1 e4 e2 with D | D <;> rw [A, B, C, D] <;> decide +kernel
end Go.Proofs.Ytgnghhelalablaa.M
namespace Go.Proofs.Ytgnghhelalablaa.M
open Go.RowKit Go.Proofs.YtgnghhelalablaaW.PrintWords
section
variable {σ τ ρ α β : Type}
/-- A piece of code: it ends with an answer, or goes on with a state. -/
def Goes (z : Except ρ σ) (K : σ → Nat → Option ρ) (g : Nat → Option ρ) : Prop :=
  match z with
  | .error v => Ev g v
  | .ok s => ∀ r, Ev (K s) r → Ev g r
variable {z : Except ρ σ} {K : σ → Nat → Option ρ}
theorem Goes.ok (s : σ) : Goes (.ok s) K (K s) := fun _ h => h
theorem Goes.error {g : Nat → Option ρ} {v : ρ} (h : Ev g v) : Goes (.error v) K g := h
theorem Goes.ret (v : ρ) : Goes (.error v) K (fun _ => some v) := Ev.now v
theorem Goes.map {g g' : Nat → Option ρ} (hg : ∀ r, Ev g' r → Ev g r) (h : Goes z K g') : Goes z K g := by
  cases z with
  | error v => exact hg _ h
  | ok s => exact fun r hr => hg _ (h r hr)
theorem Goes.step {g : Nat → Option ρ} (h : Goes z K (fun k => g (k + 1))) : Goes z K g := Goes.map (fun _ => ev_step) h
theorem Goes.pos {c : Prop} [Decidable c] {a b : Nat → Option ρ} (hc : c) (h : Goes z K a) : Goes z K (fun k => if c then a k else b k) := Goes.map (fun _ => ev_pos hc) h
theorem Goes.neg {c : Prop} [Decidable c] {a b : Nat → Option ρ} (hc : ¬ c) (h : Goes z K b) : Goes z K (fun k => if c then a k else b k) := Goes.map (fun _ => ev_neg hc) h
theorem Goes.call {x : Option α} {a : α} {f : Nat → α → Option ρ} (hx : x = some a) (h : Goes z K (fun k => f k a)) : Goes z K (fun k => x.bind (f k)) := Goes.map (fun _ => ev_call hx) h
theorem Goes.ev {x : Nat → Option α} {a : α} {f : Nat → α → Option ρ} (hx : Ev x a) (h : Goes z K (fun k => f k a)) : Goes z K (fun k => (x k).bind (f k)) := Goes.map (fun _ => Ev.bind hx) h
theorem Goes.bind {y : Except ρ τ} {f : τ → Except ρ σ} {K' : τ → Nat → Option ρ} {g : Nat → Option ρ} (h : Goes y K' g) (h' : ∀ s, Goes (f s) K (K' s)) : Goes (y >>= f) K g := by
  cases y with
  | error v => exact h
  | ok s => exact Goes.map (h ·) (h' s)
theorem Goes.cast {z' : Except ρ σ} {g : Nat → Option ρ} (h : Goes z K g) (e : z = z') : Goes z' K g := e ▸ h
theorem Goes.onK {K' : σ → Nat → Option ρ} {g : Nat → Option ρ} (h : Goes z K g) (hk : ∀ s r, Ev (K' s) r → Ev (K s) r) : Goes z K' g := by
  cases z with
  | error v => exact h
  | ok s => exact fun r hr => h r (hk _ _ hr)
/-- The answer of a piece: its own, or what follows it. -/
theorem Goes.out {g : Nat → Option ρ} {r : ρ} (h : Goes z K g) (he : ∀ v, z = .error v → v = r) (ho : ∀ s, z = .ok s → Ev (K s) r) : Ev g r := by
  cases z with
  | error v => exact he v rfl ▸ h
  | ok s => exact h r (ho s rfl)
/-- A loop that counts up to n. -/
theorem loop_up {lo n : Nat} {L : Int → σ → Nat → Option ρ} (dec : σ → Nat → Except ρ σ) (hf : ∀ s, Goes (.ok s) K (L (n : Int) s))
    (hb : ∀ i, lo ≤ i → i < n → ∀ s, Goes (dec s i) (fun s => L ((i + 1 : Nat) : Int) s) (L (i : Int) s)) (hlo : lo ≤ n) (s : σ) : Goes ((List.range' lo (n - lo)).foldlM dec s) K (L (lo : Int) s) := by
  have key : ∀ d i, lo ≤ i → i + d = n → ∀ s, Goes ((List.range' i d).foldlM dec s) K (L (i : Int) s) := by
    intro d
    induction d with
    | zero =>
      intro i _ hi s
      obtain rfl : i = n := by omega
      exact hf s
    | succ d ih =>
      intro i hl hi s
      rw [List.range'_succ, List.foldlM_cons]
      exact Goes.bind (hb i hl (by omega) s) (fun s => ih (i + 1) (by omega) (by omega) s)
  exact key (n - lo) lo (Nat.le_refl _) (by omega) s
/-- The same with a fact on the state that each round keeps. -/
theorem loop_up' {lo n : Nat} {L : Int → σ → Nat → Option ρ} (I : Nat → σ → Prop) (dec : σ → Nat → Except ρ σ) (hf : ∀ s, I n s → Goes (.ok s) K (L (n : Int) s))
    (hb : ∀ i, lo ≤ i → i < n → ∀ s, I i s → Goes (dec s i) (fun s => L ((i + 1 : Nat) : Int) s) (L (i : Int) s)) (hi : ∀ i, lo ≤ i → i < n → ∀ s, I i s → ∀ s', dec s i = .ok s' → I (i + 1) s') (hlo : lo ≤ n) (s : σ) (hs : I lo s) :
    Goes ((List.range' lo (n - lo)).foldlM dec s) K (L (lo : Int) s) := by
  have key : ∀ d i, lo ≤ i → i + d = n → ∀ s, I i s → Goes ((List.range' i d).foldlM dec s) K (L (i : Int) s) := by
    intro d
    induction d with
    | zero =>
      intro i _ hid s hs
      obtain rfl : i = n := by omega
      exact hf s hs
    | succ d ih =>
      intro i hl hid s hs
      rw [List.range'_succ, List.foldlM_cons]
      have h := hb i hl (by omega) s hs
      have h' := hi i hl (by omega) s hs
      cases hd : dec s i with
      | error v => rw [hd] at h; exact h
      | ok s' =>
        rw [hd] at h
        exact Goes.map (h ·) (ih (i + 1) (by omega) (by omega) s' (h' s' hd))
  exact key (n - lo) lo (Nat.le_refl _) (by omega) s hs
theorem foldlM_flatMap (f : α → List β) (g : σ → β → Except ρ σ) (l : List α) : ∀ s, (l.flatMap f).foldlM g s = l.foldlM (fun s a => (f a).foldlM g s) s := by
  induction l with
  | nil => intro s; rfl
  | cons x l ih =>
    intro s
    rw [List.flatMap_cons, List.foldlM_append, List.foldlM_cons]
    congr 1
    funext s
    exact ih s
theorem foldlM_mapx (f : α → β) (g : σ → β → Except ρ σ) (l : List α) : ∀ s, (l.map f).foldlM g s = l.foldlM (fun s a => g s (f a)) s := by
  induction l with
  | nil => intro s; rfl
  | cons x l ih =>
    intro s
    rw [List.map_cons, List.foldlM_cons, List.foldlM_cons]
    congr 1
    funext s
    exact ih s
theorem foldlM_ok (g : σ → α → σ) (l : List α) : ∀ s, (l.foldlM (fun s a => (.ok (g s a) : Except ρ σ)) s) = .ok (l.foldl g s) := by
  induction l with
  | nil => intro s; rfl
  | cons x l ih => intro s; exact ih (g s x)
theorem foldlM_find (c : α → Bool) (v : α → ρ) (l : List α) : l.foldlM (fun (_ : Unit) a => if c a then (.error (v a) : Except ρ Unit) else .ok ()) () = match l.find? c with | some a => .error (v a) | none => .ok () := by
  induction l with
  | nil => rfl
  | cons x l ih =>
    rw [List.foldlM_cons, List.find?_cons]
    cases hx : c x with
    | true => rfl
    | false => exact ih
theorem foldlM_any (c : α → Bool) (v : ρ) (l : List α) : l.foldlM (fun (_ : Unit) a => if c a then (.error v : Except ρ Unit) else .ok ()) () = if l.any c then .error v else .ok () := by
  rw [foldlM_find c (fun _ => v) l]
  cases h : l.find? c with
  | none =>
    have : l.any c = false := by simpa using h
    rw [this]; rfl
  | some a =>
    have : l.any c = true := List.any_eq_true.2 ⟨a, List.mem_of_find?_eq_some h, List.find?_some h⟩
    rw [this]; rfl
end
/-- A loop over a list's places, as a fold over the list. -/
theorem foldlM_index {σ ρ α : Type} (d : α) (f : σ → α → Except ρ σ) (l : List α) (s : σ) : (List.range' 0 (l.length - 0)).foldlM (fun s i => f s (l.getD i d)) s = l.foldlM f s := by
  have key : ∀ (l' pre : List α) (s : σ), pre ++ l' = l → (List.range' pre.length l'.length).foldlM (fun s i => f s (l.getD i d)) s = l'.foldlM f s := by
    intro l'
    induction l' with
    | nil => intro pre s _; rfl
    | cons x l' ih =>
      intro pre s h
      have hx : l.getD pre.length d = x := by
        rw [← h, List.getD_eq_getElem?_getD, List.getElem?_append_right (Nat.le_refl _), Nat.sub_self]
        rfl
      rw [List.length_cons, List.range'_succ, List.foldlM_cons, List.foldlM_cons, hx]
      congr 1
      funext s
      have := ih (pre ++ [x]) s (by rw [← h, List.append_assoc]; rfl)
      rw [List.length_append] at this
      exact this
  rw [Nat.sub_zero]
  exact key l [] s rfl
theorem foldl_filter {α β : Type} (c : α → Bool) (f : α → β) (l : List α) : ∀ s : List β, l.foldl (fun s a => if c a then s ++ [f a] else s) s = s ++ (l.filter c).map f := by
  induction l with
  | nil => intro s; simp
  | cons x l ih =>
    intro s
    rw [List.foldl_cons, ih, List.filter_cons]
    split
    · rw [List.map_cons, List.append_assoc]; rfl
    · rfl
/-- The ascending twos, threes and fours below n. -/
def upFrom (n a : Nat) : List Nat := List.range' (a + 1) (n - (a + 1))
def pairsL (n : Nat) : List (Nat × Nat) := (List.range' 0 n).flatMap fun a => (upFrom n a).map fun b => (a, b)
def tripsL (n : Nat) : List (Nat × Nat × Nat) := (List.range' 0 n).flatMap fun a => (upFrom n a).flatMap fun b => (upFrom n b).map fun c => (a, b, c)
def quadsL (n : Nat) : List (Nat × Nat × Nat × Nat) := (List.range' 0 n).flatMap fun a => (upFrom n a).flatMap fun b => (upFrom n b).flatMap fun c => (upFrom n c).map fun d => (a, b, c, d)
theorem mem_upFrom {n a b : Nat} (h : b ∈ upFrom n a) : a < b ∧ b < n := by
  simp only [upFrom, List.mem_range'_1] at h
  omega
theorem mem_pairs {n a b : Nat} (h : (a, b) ∈ pairsL n) : a < b ∧ b < n := by
  simp only [pairsL, List.mem_flatMap, List.mem_map, Prod.mk.injEq] at h
  obtain ⟨x, _, y, hy, rfl, rfl⟩ := h
  exact mem_upFrom hy
theorem mem_trips {n a b c : Nat} (h : (a, b, c) ∈ tripsL n) : a < b ∧ b < c ∧ c < n := by
  simp only [tripsL, List.mem_flatMap, List.mem_map, Prod.mk.injEq] at h
  obtain ⟨x, _, y, hy, z, hz, rfl, rfl, rfl⟩ := h
  have := mem_upFrom hy
  have := mem_upFrom hz
  omega
theorem mem_quads {n a b c d : Nat} (h : (a, b, c, d) ∈ quadsL n) : a < b ∧ b < c ∧ c < d ∧ d < n := by
  simp only [quadsL, List.mem_flatMap, List.mem_map, Prod.mk.injEq] at h
  obtain ⟨x, _, y, hy, z, hz, u, hu, rfl, rfl, rfl, rfl⟩ := h
  have := mem_upFrom hy
  have := mem_upFrom hz
  have := mem_upFrom hu
  omega
theorem pairs_mem {n a b : Nat} (h1 : a < b) (h2 : b < n) : (a, b) ∈ pairsL n := by
  simp only [pairsL, List.mem_flatMap, List.mem_map, Prod.mk.injEq, upFrom, List.mem_range'_1]
  exact ⟨a, by omega, b, by omega, rfl, rfl⟩
theorem trips_mem {n a b c : Nat} (h1 : a < b) (h2 : b < c) (h3 : c < n) : (a, b, c) ∈ tripsL n := by
  simp only [tripsL, List.mem_flatMap, List.mem_map, Prod.mk.injEq, upFrom, List.mem_range'_1]
  exact ⟨a, by omega, b, by omega, c, by omega, rfl, rfl, rfl⟩
theorem quads_mem {n a b c d : Nat} (h1 : a < b) (h2 : b < c) (h3 : c < d) (h4 : d < n) : (a, b, c, d) ∈ quadsL n := by
  simp only [quadsL, List.mem_flatMap, List.mem_map, Prod.mk.injEq, upFrom, List.mem_range'_1]
  exact ⟨a, by omega, b, by omega, c, by omega, d, by omega, rfl, rfl, rfl, rfl⟩
section
variable {σ ρ : Type} {n : Nat} {K : σ → Nat → Option ρ}
/-- Two, three, four loops in each other, over ascending numbers. -/
theorem loops2 {L0 : Int → σ → Nat → Option ρ} {L1 : Int → Int → σ → Nat → Option ρ} (dec : σ → Nat × Nat → Except ρ σ)
    (e0 : ∀ s, Goes (.ok s) K (L0 (n : Int) s)) (s0 : ∀ a, a < n → ∀ s, Goes (.ok s) (fun s => L1 (a : Int) ((a + 1 : Nat) : Int) s) (L0 (a : Int) s))
    (e1 : ∀ a, a < n → ∀ s, Goes (.ok s) (fun s => L0 ((a + 1 : Nat) : Int) s) (L1 (a : Int) (n : Int) s))
    (hb : ∀ a b, a < b → b < n → ∀ s, Goes (dec s (a, b)) (fun s => L1 (a : Int) ((b + 1 : Nat) : Int) s) (L1 (a : Int) (b : Int) s)) (s : σ) : Goes ((pairsL n).foldlM dec s) K (L0 0 s) := by
  have h := loop_up (K := K) (L := L0) (lo := 0) (n := n) (fun s a => (upFrom n a).foldlM (fun s b => dec s (a, b)) s) e0 (fun a _ ha s => ?_) (by omega) s
  · refine Goes.cast h ?_
    rw [pairsL, foldlM_flatMap]
    simp only [foldlM_mapx, Nat.sub_zero]
  · exact Goes.map (fun _ => s0 a ha s _) (loop_up (K := fun s => L0 ((a + 1 : Nat) : Int) s) (L := L1 (a : Int)) (fun s b => dec s (a, b)) (e1 a ha) (fun b hl hb' s => hb a b (by omega) hb' s) (by omega) s)
theorem loops3 {L0 : Int → σ → Nat → Option ρ} {L1 : Int → Int → σ → Nat → Option ρ} {L2 : Int → Int → Int → σ → Nat → Option ρ} (dec : σ → Nat × Nat × Nat → Except ρ σ)
    (e0 : ∀ s, Goes (.ok s) K (L0 (n : Int) s)) (s0 : ∀ a, a < n → ∀ s, Goes (.ok s) (fun s => L1 (a : Int) ((a + 1 : Nat) : Int) s) (L0 (a : Int) s))
    (e1 : ∀ a, a < n → ∀ s, Goes (.ok s) (fun s => L0 ((a + 1 : Nat) : Int) s) (L1 (a : Int) (n : Int) s)) (s1 : ∀ a b, a < b → b < n → ∀ s, Goes (.ok s) (fun s => L2 (a : Int) (b : Int) ((b + 1 : Nat) : Int) s) (L1 (a : Int) (b : Int) s))
    (e2 : ∀ a b, a < b → b < n → ∀ s, Goes (.ok s) (fun s => L1 (a : Int) ((b + 1 : Nat) : Int) s) (L2 (a : Int) (b : Int) (n : Int) s))
    (hb : ∀ a b c, a < b → b < c → c < n → ∀ s, Goes (dec s (a, b, c)) (fun s => L2 (a : Int) (b : Int) ((c + 1 : Nat) : Int) s) (L2 (a : Int) (b : Int) (c : Int) s)) (s : σ) : Goes ((tripsL n).foldlM dec s) K (L0 0 s) := by
  refine Goes.cast (loops2 (n := n) (K := K) (L0 := L0) (L1 := L1) (fun s p => (upFrom n p.2).foldlM (fun s c => dec s (p.1, p.2, c)) s) e0 s0 e1 (fun a b hab hb' s => ?_) s) ?_
  · exact Goes.map (fun _ => s1 a b hab hb' s _) (loop_up (K := fun s => L1 (a : Int) ((b + 1 : Nat) : Int) s) (L := L2 (a : Int) (b : Int)) (fun s c => dec s (a, b, c)) (e2 a b hab hb') (fun c hl hc s => hb a b c hab (by omega) hc s) (by omega) s)
  · simp only [pairsL, tripsL, foldlM_flatMap, foldlM_mapx]
theorem loops4 {L0 : Int → σ → Nat → Option ρ} {L1 : Int → Int → σ → Nat → Option ρ} {L2 : Int → Int → Int → σ → Nat → Option ρ} {L3 : Int → Int → Int → Int → σ → Nat → Option ρ} (dec : σ → Nat × Nat × Nat × Nat → Except ρ σ)
    (e0 : ∀ s, Goes (.ok s) K (L0 (n : Int) s)) (s0 : ∀ a, a < n → ∀ s, Goes (.ok s) (fun s => L1 (a : Int) ((a + 1 : Nat) : Int) s) (L0 (a : Int) s))
    (e1 : ∀ a, a < n → ∀ s, Goes (.ok s) (fun s => L0 ((a + 1 : Nat) : Int) s) (L1 (a : Int) (n : Int) s)) (s1 : ∀ a b, a < b → b < n → ∀ s, Goes (.ok s) (fun s => L2 (a : Int) (b : Int) ((b + 1 : Nat) : Int) s) (L1 (a : Int) (b : Int) s))
    (e2 : ∀ a b, a < b → b < n → ∀ s, Goes (.ok s) (fun s => L1 (a : Int) ((b + 1 : Nat) : Int) s) (L2 (a : Int) (b : Int) (n : Int) s)) (s2 : ∀ a b c, a < b → b < c → c < n → ∀ s, Goes (.ok s) (fun s => L3 (a : Int) (b : Int) (c : Int) ((c + 1 : Nat) : Int) s) (L2 (a : Int) (b : Int) (c : Int) s))
    (e3 : ∀ a b c, a < b → b < c → c < n → ∀ s, Goes (.ok s) (fun s => L2 (a : Int) (b : Int) ((c + 1 : Nat) : Int) s) (L3 (a : Int) (b : Int) (c : Int) (n : Int) s))
    (hb : ∀ a b c d, a < b → b < c → c < d → d < n → ∀ s, Goes (dec s (a, b, c, d)) (fun s => L3 (a : Int) (b : Int) (c : Int) ((d + 1 : Nat) : Int) s) (L3 (a : Int) (b : Int) (c : Int) (d : Int) s)) (s : σ) : Goes ((quadsL n).foldlM dec s) K (L0 0 s) := by
  refine Goes.cast (loops3 (n := n) (K := K) (L0 := L0) (L1 := L1) (L2 := L2) (fun s p => (upFrom n p.2.2).foldlM (fun s d => dec s (p.1, p.2.1, p.2.2, d)) s) e0 s0 e1 s1 e2 (fun a b c hab hbc hc s => ?_) s) ?_
  · exact Goes.map (fun _ => s2 a b c hab hbc hc s _) (loop_up (lo := c + 1) (n := n) (K := fun s => L2 (a : Int) (b : Int) ((c + 1 : Nat) : Int) s) (L := L3 (a : Int) (b : Int) (c : Int)) (fun s d => dec s (a, b, c, d)) (e3 a b c hab hbc hc) (fun d hl hd s => hb a b c d hab hbc (by omega) hd s) (by omega) s)
  · simp only [tripsL, quadsL, foldlM_flatMap, foldlM_mapx]
/-- A fold whose rounds make a measure grow by one at most. -/
theorem fold_len {α : Type} (len : σ → Nat) {dec : σ → α → Except ρ σ} (hl : ∀ s x s', dec s x = .ok s' → len s' ≤ len s + 1) (l : List α) : ∀ s s', l.foldlM dec s = .ok s' → len s' ≤ len s + l.length := by
  induction l with
  | nil => intro s s' h; cases h; exact Nat.le_refl _
  | cons x l ih =>
    intro s s' h
    rw [List.foldlM_cons] at h
    cases hd : dec s x with
    | error v => rw [hd] at h; cases h
    | ok s1 =>
      rw [hd] at h
      have h1 := hl _ _ _ hd
      have h2 := ih s1 s' h
      rw [List.length_cons]
      omega
theorem upFrom_length (n a : Nat) : (upFrom n a).length = n - (a + 1) := List.length_range' ..
/-- The same loops, where a measure of the state is bounded: each round makes it grow by one at most. -/
theorem loops2B {L0 : Int → σ → Nat → Option ρ} {L1 : Int → Int → σ → Nat → Option ρ} (hn : n ≤ 7) (len : σ → Nat) (B : Nat) (dec : σ → Nat × Nat → Except ρ σ) (hl : ∀ s x s', dec s x = .ok s' → len s' ≤ len s + 1)
    (e0 : ∀ s, Goes (.ok s) K (L0 (n : Int) s)) (s0 : ∀ a, a < n → ∀ s, Goes (.ok s) (fun s => L1 (a : Int) ((a + 1 : Nat) : Int) s) (L0 (a : Int) s))
    (e1 : ∀ a, a < n → ∀ s, Goes (.ok s) (fun s => L0 ((a + 1 : Nat) : Int) s) (L1 (a : Int) (n : Int) s))
    (hb : ∀ a b, a < b → b < n → ∀ s, len s ≤ B + 49 → Goes (dec s (a, b)) (fun s => L1 (a : Int) ((b + 1 : Nat) : Int) s) (L1 (a : Int) (b : Int) s)) (s : σ) (hs : len s ≤ B) : Goes ((pairsL n).foldlM dec s) K (L0 0 s) := by
  have h := loop_up' (K := K) (L := L0) (lo := 0) (n := n) (fun a s => len s ≤ B + 7 * a) (fun s a => (upFrom n a).foldlM (fun s b => dec s (a, b)) s) (fun s _ => e0 s) (fun a _ ha s hs => ?_) (fun a _ ha s hs s' e => ?_) (by omega) s (by omega)
  · refine Goes.cast h ?_
    rw [pairsL, foldlM_flatMap]
    simp only [foldlM_mapx, Nat.sub_zero]
  · exact Goes.map (fun _ => s0 a ha s _) (loop_up' (lo := a + 1) (n := n) (K := fun s => L0 ((a + 1 : Nat) : Int) s) (L := L1 (a : Int)) (fun b s => len s ≤ B + 7 * a + b) (fun s b => dec s (a, b)) (fun s _ => e1 a ha s)
      (fun b hlo hb' s hs => hb a b (by omega) hb' s (by omega)) (fun b hlo hb' s hs s' e => by have := hl _ _ _ e; omega) (by omega) s (by omega))
  · have := fold_len len (fun s x s' => hl s (a, x) s') _ _ _ e
    rw [upFrom_length] at this
    omega
theorem loops3B {L0 : Int → σ → Nat → Option ρ} {L1 : Int → Int → σ → Nat → Option ρ} {L2 : Int → Int → Int → σ → Nat → Option ρ} (hn : n ≤ 7) (len : σ → Nat) (B : Nat) (dec : σ → Nat × Nat × Nat → Except ρ σ) (hl : ∀ s x s', dec s x = .ok s' → len s' ≤ len s + 1)
    (e0 : ∀ s, Goes (.ok s) K (L0 (n : Int) s)) (s0 : ∀ a, a < n → ∀ s, Goes (.ok s) (fun s => L1 (a : Int) ((a + 1 : Nat) : Int) s) (L0 (a : Int) s))
    (e1 : ∀ a, a < n → ∀ s, Goes (.ok s) (fun s => L0 ((a + 1 : Nat) : Int) s) (L1 (a : Int) (n : Int) s)) (s1 : ∀ a b, a < b → b < n → ∀ s, Goes (.ok s) (fun s => L2 (a : Int) (b : Int) ((b + 1 : Nat) : Int) s) (L1 (a : Int) (b : Int) s))
    (e2 : ∀ a b, a < b → b < n → ∀ s, Goes (.ok s) (fun s => L1 (a : Int) ((b + 1 : Nat) : Int) s) (L2 (a : Int) (b : Int) (n : Int) s))
    (hb : ∀ a b c, a < b → b < c → c < n → ∀ s, len s ≤ B + 343 → Goes (dec s (a, b, c)) (fun s => L2 (a : Int) (b : Int) ((c + 1 : Nat) : Int) s) (L2 (a : Int) (b : Int) (c : Int) s)) (s : σ) (hs : len s ≤ B) : Goes ((tripsL n).foldlM dec s) K (L0 0 s) := by
  have h := loop_up' (K := K) (L := L0) (lo := 0) (n := n) (fun a s => len s ≤ B + 49 * a) (fun s a => (upFrom n a).foldlM (fun s b => (upFrom n b).foldlM (fun s c => dec s (a, b, c)) s) s) (fun s _ => e0 s) (fun a _ ha s hs => ?_) (fun a _ ha s hs s' e => ?_) (by omega) s (by omega)
  · refine Goes.cast h ?_
    rw [tripsL, foldlM_flatMap]
    simp only [foldlM_mapx, foldlM_flatMap, Nat.sub_zero]
  · refine Goes.map (fun _ => s0 a ha s _) (loop_up' (lo := a + 1) (n := n) (K := fun s => L0 ((a + 1 : Nat) : Int) s) (L := L1 (a : Int)) (fun b s => len s ≤ B + 49 * a + 7 * b) (fun s b => (upFrom n b).foldlM (fun s c => dec s (a, b, c)) s) (fun s _ => e1 a ha s)
      (fun b hlo hb' s hs => ?_) (fun b hlo hb' s hs s' e => ?_) (by omega) s (by omega))
    · exact Goes.map (fun _ => s1 a b (by omega) hb' s _) (loop_up' (lo := b + 1) (n := n) (K := fun s => L1 (a : Int) ((b + 1 : Nat) : Int) s) (L := L2 (a : Int) (b : Int)) (fun c s => len s ≤ B + 49 * a + 7 * b + c) (fun s c => dec s (a, b, c)) (fun s _ => e2 a b (by omega) hb' s)
        (fun c hl' hc s hs => hb a b c (by omega) (by omega) hc s (by omega)) (fun c hl' hc s hs s' e => by have := hl _ _ _ e; omega) (by omega) s (by omega))
    · have := fold_len len (fun s x s' => hl s (a, b, x) s') _ _ _ e
      rw [upFrom_length] at this
      omega
  · have key : ∀ (l : List Nat), ∀ s s', l.foldlM (fun s b => (upFrom n b).foldlM (fun s c => dec s (a, b, c)) s) s = .ok s' → len s' ≤ len s + 7 * l.length := by
      intro l
      induction l with
      | nil => intro s s' h; cases h; exact Nat.le_refl _
      | cons x l ih =>
        intro s s' h
        rw [List.foldlM_cons] at h
        cases hd : (upFrom n x).foldlM (fun s c => dec s (a, x, c)) s with
        | error v => rw [hd] at h; cases h
        | ok s1 =>
          rw [hd] at h
          have h1 := fold_len len (fun s y s' => hl s (a, x, y) s') _ _ _ hd
          have h2 := ih s1 s' h
          rw [upFrom_length] at h1
          rw [List.length_cons]
          omega
    have := key _ _ _ e
    rw [upFrom_length] at this
    omega
theorem fold_len2 {n : Nat} (hn : n ≤ 7) {α : Type} (len : σ → Nat) (w : Nat) {dec : σ → α → Except ρ σ} (hl : ∀ s x s', dec s x = .ok s' → len s' ≤ len s + w) (l : List α) : ∀ s s', l.foldlM dec s = .ok s' → len s' ≤ len s + w * l.length := by
  induction l with
  | nil => intro s s' h; cases h; exact Nat.le_refl _
  | cons x l ih =>
    intro s s' h
    rw [List.foldlM_cons] at h
    cases hd : dec s x with
    | error v => rw [hd] at h; cases h
    | ok s1 =>
      rw [hd] at h
      have h1 := hl _ _ _ hd
      have h2 := ih s1 s' h
      rw [List.length_cons, Nat.mul_succ]
      omega
set_option maxRecDepth 8000 in
theorem loops4B {L0 : Int → σ → Nat → Option ρ} {L1 : Int → Int → σ → Nat → Option ρ} {L2 : Int → Int → Int → σ → Nat → Option ρ} {L3 : Int → Int → Int → Int → σ → Nat → Option ρ} (hn : n ≤ 7) (len : σ → Nat) (B : Nat) (dec : σ → Nat × Nat × Nat × Nat → Except ρ σ) (hl : ∀ s x s', dec s x = .ok s' → len s' ≤ len s + 1)
    (e0 : ∀ s, Goes (.ok s) K (L0 (n : Int) s)) (s0 : ∀ a, a < n → ∀ s, Goes (.ok s) (fun s => L1 (a : Int) ((a + 1 : Nat) : Int) s) (L0 (a : Int) s))
    (e1 : ∀ a, a < n → ∀ s, Goes (.ok s) (fun s => L0 ((a + 1 : Nat) : Int) s) (L1 (a : Int) (n : Int) s)) (s1 : ∀ a b, a < b → b < n → ∀ s, Goes (.ok s) (fun s => L2 (a : Int) (b : Int) ((b + 1 : Nat) : Int) s) (L1 (a : Int) (b : Int) s))
    (e2 : ∀ a b, a < b → b < n → ∀ s, Goes (.ok s) (fun s => L1 (a : Int) ((b + 1 : Nat) : Int) s) (L2 (a : Int) (b : Int) (n : Int) s)) (s2 : ∀ a b c, a < b → b < c → c < n → ∀ s, Goes (.ok s) (fun s => L3 (a : Int) (b : Int) (c : Int) ((c + 1 : Nat) : Int) s) (L2 (a : Int) (b : Int) (c : Int) s))
    (e3 : ∀ a b c, a < b → b < c → c < n → ∀ s, Goes (.ok s) (fun s => L2 (a : Int) (b : Int) ((c + 1 : Nat) : Int) s) (L3 (a : Int) (b : Int) (c : Int) (n : Int) s))
    (hb : ∀ a b c d, a < b → b < c → c < d → d < n → ∀ s, len s ≤ B + 2401 → Goes (dec s (a, b, c, d)) (fun s => L3 (a : Int) (b : Int) (c : Int) ((d + 1 : Nat) : Int) s) (L3 (a : Int) (b : Int) (c : Int) (d : Int) s)) (s : σ) (hs : len s ≤ B) : Goes ((quadsL n).foldlM dec s) K (L0 0 s) := by
  have f3 : ∀ a b c : Nat, ∀ s s', (upFrom n c).foldlM (fun s d => dec s (a, b, c, d)) s = .ok s' → len s' ≤ len s + 7 := fun a b c s s' h => by
    have := fold_len len (fun s x s' => hl s (a, b, c, x) s') _ _ _ h
    rw [upFrom_length] at this
    omega
  have f2 : ∀ a b : Nat, ∀ s s', (upFrom n b).foldlM (fun s c => (upFrom n c).foldlM (fun s d => dec s (a, b, c, d)) s) s = .ok s' → len s' ≤ len s + 49 := fun a b s s' h => by
    have := fold_len2 hn len 7 (fun s x s' => f3 a b x s s') _ _ _ h
    rw [upFrom_length] at this
    omega
  have f1 : ∀ a : Nat, ∀ s s', (upFrom n a).foldlM (fun s b => (upFrom n b).foldlM (fun s c => (upFrom n c).foldlM (fun s d => dec s (a, b, c, d)) s) s) s = .ok s' → len s' ≤ len s + 343 := fun a s s' h => by
    have := fold_len2 hn len 49 (fun s x s' => f2 a x s s') _ _ _ h
    rw [upFrom_length] at this
    omega
  have h := loop_up' (K := K) (L := L0) (lo := 0) (n := n) (fun a s => len s ≤ B + 343 * a) (fun s a => (upFrom n a).foldlM (fun s b => (upFrom n b).foldlM (fun s c => (upFrom n c).foldlM (fun s d => dec s (a, b, c, d)) s) s) s) (fun s _ => e0 s) (fun a _ ha s hs => ?_) (fun a _ ha s hs s' e => by have := f1 a _ _ e; omega) (by omega) s (by omega)
  · refine Goes.cast h ?_
    rw [quadsL, foldlM_flatMap]
    simp only [foldlM_mapx, foldlM_flatMap, Nat.sub_zero]
  · refine Goes.map (fun _ => s0 a ha s _) (loop_up' (lo := a + 1) (n := n) (K := fun s => L0 ((a + 1 : Nat) : Int) s) (L := L1 (a : Int)) (fun b s => len s ≤ B + 343 * a + 49 * b) (fun s b => (upFrom n b).foldlM (fun s c => (upFrom n c).foldlM (fun s d => dec s (a, b, c, d)) s) s) (fun s _ => e1 a ha s)
      (fun b hlo hb' s hs => ?_) (fun b hlo hb' s hs s' e => by have := f2 a b _ _ e; omega) (by omega) s (by omega))
    refine Goes.map (fun _ => s1 a b (by omega) hb' s _) (loop_up' (lo := b + 1) (n := n) (K := fun s => L1 (a : Int) ((b + 1 : Nat) : Int) s) (L := L2 (a : Int) (b : Int)) (fun c s => len s ≤ B + 343 * a + 49 * b + 7 * c) (fun s c => (upFrom n c).foldlM (fun s d => dec s (a, b, c, d)) s) (fun s _ => e2 a b (by omega) hb' s)
      (fun c hl' hc s hs => ?_) (fun c hl' hc s hs s' e => by have := f3 a b c _ _ e; omega) (by omega) s (by omega))
    exact Goes.map (fun _ => s2 a b c (by omega) (by omega) hc s _) (loop_up' (lo := c + 1) (n := n) (K := fun s => L2 (a : Int) (b : Int) ((c + 1 : Nat) : Int) s) (L := L3 (a : Int) (b : Int) (c : Int)) (fun d s => len s ≤ B + 343 * a + 49 * b + 7 * c + d) (fun s d => dec s (a, b, c, d)) (fun s _ => e3 a b c (by omega) (by omega) hc s)
      (fun d hd' hd s hs => hb a b c d (by omega) (by omega) (by omega) hd s (by omega)) (fun d hd' hd s hs s' e => by have := hl _ _ _ e; omega) (by omega) s (by omega))
theorem foldlM_okL {α : Type} (g : σ → α → σ) (len : σ → Nat) (hg : ∀ s a, len (g s a) ≤ len s + 1) : ∀ s x s', (fun s a => (.ok (g s a) : Except ρ σ)) s x = .ok s' → len s' ≤ len s + 1 := by
  intro s x s' h
  cases h
  exact hg s x
end
end Go.Proofs.Ytgnghhelalablaa.M
namespace Go.Proofs.Ytgnghhelalablaa.M
open Go.RowKit Go.Proofs.YtgnghhelalablaaW.PrintWords Go.Proofs.Ytgnghhelalablaa.PX Go.Proofs.Ytgnghhelalablaa.G
/-- Is the circuit of four elements all +? -/
def allPlus (n : Nat) (t : ByteArray) (q : Nat × Nat × Nat × Nat) : Bool := decide ((circT (chi n t q.2.1 q.2.2.1 q.2.2.2) (chi n t q.1 q.2.2.1 q.2.2.2) (chi n t q.1 q.2.1 q.2.2.2) (chi n t q.1 q.2.1 q.2.2.1)).toList = ([43, 43, 43, 43] : List UInt8))
def acyc (n : Nat) (t : ByteArray) : Bool := !((quadsL n).any (allPlus n t))
theorem quadQ_L {n : Nat} (h0 : 3 ≤ n) (h1 : n ≤ 7) : quadQ n = quadsL n ∧ (quadsL n).length ≤ 35 := by
  refine five (p := fun n => quadQ n = quadsL n ∧ (quadsL n).length ≤ 35) h0 h1 ?_ ?_ ?_ ?_ ?_ <;> decide +kernel
theorem spec_acyc {n : Nat} {t : ByteArray} (h : areOk n t = true) : Ev (fun k => spec_l4Acyclic.f k (n : Int) t) (acyc n t) := by
  obtain ⟨⟨h0, h1⟩, _, _⟩ := (areOk_iff _ _).1 h
  have h0 : 3 ≤ n := by omega
  have h1 : n ≤ 7 := by omega
  unfold spec_l4Acyclic.f
  have key := loops4 (σ := Unit) (ρ := Bool) (n := n) (K := fun _ _ => some true) (L0 := fun a _ k => spec_l4Acyclic.l0 k a (n : Int) t) (L1 := fun a b _ k => spec_l4Acyclic.l1 k a b (n : Int) t) (L2 := fun a b c _ k => spec_l4Acyclic.l2 k a b c (n : Int) t)
    (L3 := fun a b c d _ k => spec_l4Acyclic.l3 k a b c d (n : Int) t) (fun _ q => if allPlus n t q then .error false else .ok ()) (fun u => ?_) (fun a ha u => ?_) (fun a ha u => ?_) (fun a b hab hb u => ?_) (fun a b hab hb u => ?_) (fun a b c hab hbc hc u => ?_) (fun a b c hab hbc hc u => ?_) (fun a b c d hab hbc hcd hd u => ?_) ()
  · rw [foldlM_any] at key
    unfold acyc
    cases hq : (quadsL n).any (allPlus n t) with
    | true => rw [hq] at key; exact key
    | false => rw [hq] at key; exact key _ (Ev.now _)
  · refine Goes.step ?_
    simp only [spec_l4Acyclic.l0]
    exact Goes.neg (by omega) (Goes.ok (K := fun _ _ => some true) u)
  · refine Goes.step ?_
    simp only [spec_l4Acyclic.l0]
    refine Goes.pos (by omega) ?_
    rw [wrap_id (by omega) (by omega)]
    exact Goes.ok (K := fun _ k => spec_l4Acyclic.l1 k (a : Int) ((a + 1 : Nat) : Int) (n : Int) t) u
  · refine Goes.step ?_
    simp only [spec_l4Acyclic.l1]
    refine Goes.neg (by omega) ?_
    rw [wrap_id (by omega) (by omega)]
    exact Goes.ok (K := fun _ k => spec_l4Acyclic.l0 k ((a + 1 : Nat) : Int) (n : Int) t) u
  · refine Goes.step ?_
    simp only [spec_l4Acyclic.l1]
    refine Goes.pos (by omega) ?_
    rw [wrap_id (by omega) (by omega)]
    exact Goes.ok (K := fun _ k => spec_l4Acyclic.l2 k (a : Int) (b : Int) ((b + 1 : Nat) : Int) (n : Int) t) u
  · refine Goes.step ?_
    simp only [spec_l4Acyclic.l2]
    refine Goes.neg (by omega) ?_
    rw [wrap_id (by omega) (by omega)]
    exact Goes.ok (K := fun _ k => spec_l4Acyclic.l1 k (a : Int) ((b + 1 : Nat) : Int) (n : Int) t) u
  · refine Goes.step ?_
    simp only [spec_l4Acyclic.l2]
    refine Goes.pos (by omega) ?_
    rw [wrap_id (by omega) (by omega)]
    exact Goes.ok (K := fun _ k => spec_l4Acyclic.l3 k (a : Int) (b : Int) (c : Int) ((c + 1 : Nat) : Int) (n : Int) t) u
  · refine Goes.step ?_
    simp only [spec_l4Acyclic.l3]
    refine Goes.neg (by omega) ?_
    rw [wrap_id (by omega) (by omega)]
    exact Goes.ok (K := fun _ k => spec_l4Acyclic.l2 k (a : Int) (b : Int) ((c + 1 : Nat) : Int) (n : Int) t) u
  · refine Goes.step ?_
    simp only [spec_l4Acyclic.l3]
    refine Goes.pos (by omega) (Goes.ev (spec_circ4 h (by omega) (by omega) (by omega) hd (by omega) (by omega) (by omega) (by omega) (by omega) (by omega)) ?_)
    rw [wrap_id (by omega) (by omega)]
    by_cases g : allPlus n t (a, b, c, d) = true
    · rw [if_pos g]
      exact Goes.pos (of_decide_eq_true g) (Goes.ret _)
    · rw [if_neg g]
      exact Goes.neg (fun e => g (decide_eq_true e)) (Goes.ok (K := fun _ k => spec_l4Acyclic.l3 k (a : Int) (b : Int) (c : Int) ((d + 1 : Nat) : Int) (n : Int) t) u)
theorem impl_acyc {n : Nat} {t : ByteArray} (h : areOk n t = true) : Ev (fun k => impl_chi_isAcyclic.f k (tblL n t)) (acyc n t) := by
  obtain ⟨⟨h0, h1⟩, _, _⟩ := (areOk_iff _ _).1 h
  have h0 : 3 ≤ n := by omega
  have h1 : n ≤ 7 := by omega
  obtain ⟨hq, hq35⟩ := quadQ_L h0 h1
  unfold impl_chi_isAcyclic.f
  rw [tbl_n]
  refine Ev.bind (quads_ev h0 h1) ?_
  rw [hq]
  have hl : ((quadsL n).map toS4).length = (quadsL n).length := List.length_map ..
  have key := loop_up (σ := Unit) (ρ := Bool) (lo := 0) (n := (quadsL n).length) (K := fun _ _ => some true) (L := fun i _ k => impl_chi_isAcyclic.l0 k (tblL n t) ((quadsL n).map toS4) (((quadsL n).map toS4).length : Int) i)
    (fun _ i => if allPlus n t ((quadsL n).getD i (0, 0, 0, 0)) then .error false else .ok ()) (fun u => ?_) (fun i _ hi u => ?_) (by omega) ()
  · rw [foldlM_index (0, 0, 0, 0) (fun _ q => if allPlus n t q then (.error false : Except Bool Unit) else .ok ()), foldlM_any] at key
    unfold acyc
    cases hq : (quadsL n).any (allPlus n t) with
    | true => rw [hq] at key; exact key
    | false => rw [hq] at key; exact key _ (Ev.now _)
  · refine Goes.step ?_
    simp only [impl_chi_isAcyclic.l0]
    exact Goes.neg (by omega) (Goes.ok (K := fun _ _ => some true) u)
  · have hg : (quadsL n).getD i (0, 0, 0, 0) = (quadsL n)[i] := by rw [List.getD_eq_getElem?_getD, List.getElem?_eq_getElem hi]; rfl
    have hm := List.getElem_mem hi
    rw [hg]
    refine Goes.step ?_
    simp only [impl_chi_isAcyclic.l0, rd_toS4 hi]
    generalize (quadsL n)[i] = q at *
    obtain ⟨a, b, c, d⟩ := q
    obtain ⟨hab, hbc, hcd, hd⟩ := mem_quads hm
    simp only [toS4]
    refine Goes.pos (by omega) (Goes.pos (by omega) (Goes.pos (by omega) (Goes.ev (chi_circuit_ev h (by omega) (by omega) (by omega) hd (by omega) (by omega) (by omega) (by omega) (by omega) (by omega)) ?_)))
    rw [wrap_id (by omega) (by omega)]
    by_cases g : allPlus n t (a, b, c, d) = true
    · rw [if_pos g]
      exact Goes.pos (of_decide_eq_true g) (Goes.ret _)
    · rw [if_neg g]
      exact Goes.neg (fun e => g (decide_eq_true e)) (Goes.ok (K := fun _ k => impl_chi_isAcyclic.l0 k (tblL n t) ((quadsL n).map toS4) (((quadsL n).map toS4).length : Int) ((i + 1 : Nat) : Int)) u)
end Go.Proofs.Ytgnghhelalablaa.M
namespace Go.Proofs.Ytgnghhelalablaa.M
open Go.RowKit Go.Proofs.YtgnghhelalablaaW.PrintWords Go.Proofs.Ytgnghhelalablaa.PX Go.Proofs.Ytgnghhelalablaa.G
theorem impl_mat (n : Int) (t : ByteArray) (hs : t.size ≤ 9223372036854775807) : impl_IsMatroid.f n t = some (matOk n t) := if_pos hs
theorem spec_mat (n : Int) (t : ByteArray) (hs : t.size ≤ 9223372036854775807) : Ev (fun k => spec_IsMatroid.f k n t) (matOk n t) := by
  unfold spec_IsMatroid.f matOk
  refine Ev.bind (spec_are n t hs) ?_
  cases h : areOk n t with
  | true =>
    refine ev_pos (by trivial) (Ev.bind (spec_break n t hs) (ev_cast (Ev.now _) ?_))
    cases brkA n t with
    | nil => rfl
    | cons x l => rw [Bool.true_and, List.isEmpty_cons, List.length_cons]; exact beq_eq_false_iff_ne.2 (by omega)
  | false => exact ev_neg (by decide) (Ev.now _)
theorem mat_are {n : Int} {t : ByteArray} (h : matOk n t = true) : areOk n t = true := by
  unfold matOk at h
  rw [Bool.and_eq_true] at h
  exact h.1
end Go.Proofs.Ytgnghhelalablaa.M
namespace Go.Proofs.Ytgnghhelalablaa.M
open Go.RowKit Go.Proofs.YtgnghhelalablaaW.PrintWords Go.Proofs.Ytgnghhelalablaa.PX Go.Proofs.Ytgnghhelalablaa.G
def acyOk (n : Int) (t : ByteArray) : Bool := matOk n t && acyc n.toNat t
theorem impl_isA (n : Int) (t : ByteArray) (hs : t.size ≤ 9223372036854775807) : Ev (fun k => impl_IsAcyclic.f k n t) (acyOk n t) := by
  unfold impl_IsAcyclic.f acyOk
  refine ev_call (impl_mat n t hs) ?_
  cases h : matOk n t with
  | false => exact ev_neg (by decide) (Ev.now _)
  | true =>
    have ha := mat_are h
    obtain ⟨⟨h0, h1⟩, _, _⟩ := (areOk_iff _ _).1 ha
    obtain ⟨N, rfl⟩ : ∃ N : Nat, n = (N : Int) := Int.eq_ofNat_of_zero_le (by omega)
    exact ev_pos (by trivial) (Ev.bind (tableOf_ev ha) (ev_pos (tblL_length _ _) (Ev.bind (impl_acyc ha) (Ev.now _))))
theorem spec_isA (n : Int) (t : ByteArray) (hs : t.size ≤ 9223372036854775807) : Ev (fun k => spec_IsAcyclic.f k n t) (acyOk n t) := by
  unfold spec_IsAcyclic.f acyOk
  refine Ev.bind (spec_mat n t hs) ?_
  cases h : matOk n t with
  | false => exact ev_neg (by decide) (Ev.now _)
  | true =>
    have ha := mat_are h
    obtain ⟨⟨h0, h1⟩, _, _⟩ := (areOk_iff _ _).1 ha
    obtain ⟨N, rfl⟩ : ∃ N : Nat, n = (N : Int) := Int.eq_ofNat_of_zero_le (by omega)
    exact ev_pos (by trivial) (Ev.bind (spec_acyc ha) (Ev.now _))
end Go.Proofs.Ytgnghhelalablaa.M
namespace Go.Proofs.Ytgnghhelalablaa.M
open Go.RowKit Go.Proofs.YtgnghhelalablaaW.PrintWords Go.Proofs.Ytgnghhelalablaa.PX Go.Proofs.YtgnghhelalablaaW.PrintMore
/-- Is a bit set? As the program reckons it. -/
def bitQ (set i : Int) : Int := Go.bits .and .i64 (shr .i64 set i) 1
def mask3 (a b c : Int) : Int := Go.bits .or .i64 (Go.bits .or .i64 (shl .i64 1 a) (shl .i64 1 b)) (shl .i64 1 c)
/-- A set without an element. -/
def remN (set i : Nat) : Nat := if set.testBit i then set - 2 ^ i else set
def bitChk : Bool := (List.range 8).all fun k => decide (IntKind.u64.wrap (k : Int) = (k : Int)) && decide (shl .i64 1 (k : Int) = ((2 ^ k : Nat) : Int)) && decide (2 ^ k ≤ 128) &&
  ((List.range 128).all fun s => decide (bitQ (s : Int) (k : Int) = if s.testBit k then 1 else 0))
theorem bitChk_ok : bitChk = true := by decide +kernel
theorem bit_facts {k : Nat} (hk : k ≤ 7) : IntKind.u64.wrap (k : Int) = (k : Int) ∧ shl .i64 1 (k : Int) = ((2 ^ k : Nat) : Int) ∧ 2 ^ k ≤ 128 ∧ ∀ s : Nat, s < 128 → bitQ (s : Int) (k : Int) = if s.testBit k then 1 else 0 := by
  have h := List.all_eq_true.1 bitChk_ok k (List.mem_range.2 (by omega))
  simp only [Bool.and_eq_true, decide_eq_true_eq, List.all_eq_true, List.mem_range] at h
  exact ⟨h.1.1.1, h.1.1.2, h.1.2, h.2⟩
theorem u64_id {k : Nat} (hk : k ≤ 7) : IntKind.u64.wrap (k : Int) = (k : Int) := (bit_facts hk).1
theorem shl_id {k : Nat} (hk : k ≤ 7) : shl .i64 1 (k : Int) = ((2 ^ k : Nat) : Int) := (bit_facts hk).2.1
theorem pow_128 {k : Nat} (hk : k ≤ 7) : 2 ^ k ≤ 128 := (bit_facts hk).2.2.1
theorem bitQ_eq {s k : Nat} (hs : s < 128) (hk : k ≤ 7) : bitQ (s : Int) (k : Int) = if s.testBit k then 1 else 0 := (bit_facts hk).2.2.2 s hs
def setChk : Bool := (List.range 128).all fun s => ((List.range 7).all fun i => decide (Go.bits .andNot .i64 (s : Int) (shl .i64 1 (i : Int)) = (remN s i : Int)) && decide (remN s i < 128) && ((List.range 7).all fun a => (remN s i).testBit a == (s.testBit a && decide (a ≠ i)))) &&
  ((tripsL 7).all fun q => (decide (Go.bits .and .i64 (s : Int) (mask3 q.1 q.2.1 q.2.2) = mask3 q.1 q.2.1 q.2.2)) == (s.testBit q.1 && s.testBit q.2.1 && s.testBit q.2.2)) &&
  ((List.range 7).all fun i => !decide (s < 2 ^ i) || (decide (Go.bits .or .i64 (s : Int) (shl .i64 1 (i : Int)) = ((s + 2 ^ i : Nat) : Int)) && ((List.range 7).all fun j => (s + 2 ^ i).testBit j == (s.testBit j || decide (j = i)))))
theorem setChk_ok : setChk = true := by decide +kernel
theorem set_facts {s : Nat} (hs : s < 128) : (∀ i : Nat, i < 7 → Go.bits .andNot .i64 (s : Int) (shl .i64 1 (i : Int)) = (remN s i : Int) ∧ remN s i < 128 ∧ ∀ a : Nat, a < 7 → (remN s i).testBit a = (s.testBit a && decide (a ≠ i))) ∧
    (∀ a b c : Nat, a < b → b < c → c < 7 → (Go.bits .and .i64 (s : Int) (mask3 a b c) = mask3 a b c ↔ (s.testBit a = true ∧ s.testBit b = true ∧ s.testBit c = true))) ∧
    (∀ i : Nat, i < 7 → s < 2 ^ i → Go.bits .or .i64 (s : Int) (shl .i64 1 (i : Int)) = ((s + 2 ^ i : Nat) : Int) ∧ ∀ j : Nat, j < 7 → (s + 2 ^ i).testBit j = (s.testBit j || decide (j = i))) := by
  have h := List.all_eq_true.1 setChk_ok s (List.mem_range.2 hs)
  simp only [Bool.and_eq_true] at h
  obtain ⟨⟨h1, h2⟩, h3⟩ := h
  refine ⟨fun i hi => ?_, fun a b c hab hbc hc => ?_, fun i hi hlt => ?_⟩
  · have h := List.all_eq_true.1 h1 i (List.mem_range.2 hi)
    simp only [Bool.and_eq_true, decide_eq_true_eq, List.all_eq_true, List.mem_range, beq_iff_eq] at h
    exact ⟨h.1.1, h.1.2, h.2⟩
  · have h := List.all_eq_true.1 h2 (a, b, c) (trips_mem hab hbc hc)
    have h := beq_iff_eq.1 h
    rw [← decide_eq_true_iff (p := Go.bits .and .i64 (s : Int) (mask3 a b c) = mask3 a b c), h, Bool.and_eq_true, Bool.and_eq_true, and_assoc]
  · have h := List.all_eq_true.1 h3 i (List.mem_range.2 hi)
    rw [decide_eq_true hlt] at h
    simp only [Bool.not_true, Bool.false_or, Bool.and_eq_true, decide_eq_true_eq, List.all_eq_true, List.mem_range, beq_iff_eq] at h
    exact h
/-- The set of the elements below n that satisfy a test. -/
def sumN (c : Nat → Bool) : Nat → Nat
  | 0 => 0
  | i + 1 => if c i then sumN c i + 2 ^ i else sumN c i
theorem sumN_lt (c : Nat → Bool) (i : Nat) : sumN c i < 2 ^ i := by
  induction i with
  | zero => exact Nat.one_pos
  | succ i ih =>
    rw [sumN, Nat.pow_succ]
    split <;> omega
theorem sumN_lt7 (c : Nat → Bool) {i : Nat} (hi : i ≤ 7) : sumN c i < 128 := Nat.lt_of_lt_of_le (sumN_lt c i) (pow_128 hi)
theorem sumN_bit (c : Nat → Bool) {i j : Nat} (hi : i ≤ 7) (hj : j < i) : (sumN c i).testBit j = c j := by
  have key : ∀ i, i ≤ 7 → ∀ j, j < 7 → (sumN c i).testBit j = (decide (j < i) && c j) := by
    intro i
    induction i with
    | zero => intro _ j _; simp [sumN]
    | succ i ih =>
      intro hi j hj
      rw [sumN]
      have := ih (by omega) j hj
      by_cases g : c i = true
      · rw [if_pos g, ((set_facts (sumN_lt7 c (i := i) (by omega))).2.2 i (by omega) (sumN_lt c i)).2 j hj, this]
        by_cases e : j = i
        · subst e; simp [g]
        · rw [decide_eq_false e, Bool.or_false]
          congr 1
          exact decide_eq_decide.2 (by omega)
      · rw [if_neg g, this]
        by_cases e : j = i
        · subst e; simp [g]
        · congr 1
          exact decide_eq_decide.2 (by omega)
  rw [key i hi j (by omega), decide_eq_true hj, Bool.true_and]
/-- All of n elements. -/
theorem full_sum {n : Nat} (hn : n ≤ 7) : sumN (fun _ => true) n = 2 ^ n - 1 := by
  induction n with
  | zero => rfl
  | succ n ih =>
    rw [sumN, if_pos rfl, ih (by omega), Nat.pow_succ]
    have : 0 < 2 ^ n := Nat.pow_pos (by omega)
    omega
theorem full_bit {n j : Nat} (hn : n ≤ 7) (hj : j < n) : (2 ^ n - 1).testBit j = true := by
  rw [← full_sum hn, sumN_bit _ hn hj]
theorem full_lt {n : Nat} (hn : n ≤ 7) : 2 ^ n - 1 < 128 := by
  have := pow_128 hn
  have : 0 < 2 ^ n := Nat.pow_pos (by omega)
  omega
/-- The one element of a set, -1 where there is none or more than one. -/
def onlyV (s : Nat) : Int := match (List.range 7).find? (fun i => s == 2 ^ i) with | some i => (i : Int) | none => -1
def onlyChk : Bool := (List.range 128).all fun s => decide (impl_single.f 20 (s : Int) = some (onlyV s)) && decide (spec_l5Only.f 20 (s : Int) = some (onlyV s))
theorem onlyChk_ok : onlyChk = true := by decide +kernel
theorem single_ev {s : Nat} (hs : s < 128) : Ev (fun k => impl_single.f k (s : Int)) (onlyV s) := by
  have h := List.all_eq_true.1 onlyChk_ok s (List.mem_range.2 hs)
  simp only [Bool.and_eq_true, decide_eq_true_eq] at h
  exact Ev.of (impl_single.mono _) h.1
theorem only_ev {s : Nat} (hs : s < 128) : Ev (fun k => spec_l5Only.f k (s : Int)) (onlyV s) := by
  have h := List.all_eq_true.1 onlyChk_ok s (List.mem_range.2 hs)
  simp only [Bool.and_eq_true, decide_eq_true_eq] at h
  exact Ev.of (spec_l5Only.mono _) h.2
/-- How many elements a set has. -/
def popN (s : Nat) : Nat := ((List.range 7).filter fun i => s.testBit i).length
end Go.Proofs.Ytgnghhelalablaa.M
namespace Go.Proofs.Ytgnghhelalablaa.M
open Go.RowKit Go.Proofs.YtgnghhelalablaaW.PrintWords Go.Proofs.Ytgnghhelalablaa.PX Go.Proofs.Ytgnghhelalablaa.G Go.Proofs.YtgnghhelalablaaW.PrintMore
/-- Both sets of four elements, by which of the last three lie with the first. -/
def splitN (p q r : Bool) (a b c d : Nat) : Nat × Nat :=
  (2 ^ a + (if p then 2 ^ b else 0) + (if q then 2 ^ c else 0) + (if r then 2 ^ d else 0), (if p then 0 else 2 ^ b) + (if q then 0 else 2 ^ c) + (if r then 0 else 2 ^ d))
def twos : List Bool := [true, false]
def dist4 (a b c d : Nat) : Bool := decide (a ≠ b) && decide (a ≠ c) && decide (a ≠ d) && decide (b ≠ c) && decide (b ≠ d) && decide (c ≠ d)
/-- The sums that or makes of different elements' bits. -/
def orS (l : List Nat) : Int := l.foldl (fun (s : Int) (k : Nat) => Go.bits .or .i64 s (shl .i64 1 (k : Int))) 0
def adS (l : List Nat) : Int := l.foldl (fun (s : Int) (k : Nat) => wrap64 (s + shl .i64 1 (k : Int))) 0
def sumL (l : List Nat) : Nat := l.foldl (fun s k => s + 2 ^ k) 0
def okL (l : List Nat) : Bool := decide (orS l = (sumL l : Int)) && decide (adS l = (sumL l : Int)) && decide (sumL l < 128)
def orChk : Bool := (List.range 7).all fun a => (List.range 7).all fun b => (List.range 7).all fun c => (List.range 7).all fun d => !dist4 a b c d || (okL [a, b, c, d] && okL [a, b, c] && okL [a, b] && okL [a] && okL [])
theorem orChk_ok : orChk = true := by decide +kernel
theorem ok_all {a b c d : Nat} (ha : a < 7) (hb : b < 7) (hc : c < 7) (hd : d < 7) (h : dist4 a b c d = true) : okL [a, b, c, d] = true ∧ okL [a, b, c] = true ∧ okL [a, b] = true ∧ okL [a] = true ∧ okL [] = true := by
  have g := List.all_eq_true.1 orChk_ok a (List.mem_range.2 ha)
  have g := List.all_eq_true.1 g b (List.mem_range.2 hb)
  have g := List.all_eq_true.1 g c (List.mem_range.2 hc)
  have g := List.all_eq_true.1 g d (List.mem_range.2 hd)
  rw [h] at g
  simp only [Bool.not_true, Bool.false_or, Bool.and_eq_true] at g
  exact ⟨g.1.1.1.1, g.1.1.1.2, g.1.1.2, g.1.2, g.2⟩
theorem ok_facts {l : List Nat} (h : okL l = true) : orS l = (sumL l : Int) ∧ adS l = (sumL l : Int) ∧ sumL l < 128 := by
  simp only [okL, Bool.and_eq_true, decide_eq_true_eq] at h
  exact ⟨h.1.1, h.1.2, h.2⟩
def pick (x : Bool) (b : Bool) (k : Nat) : List Nat := if b = x then [k] else []
/-- The elements whose mark is x. -/
def side (x p q r : Bool) (a b c d : Nat) : List Nat := pick x true a ++ pick x p b ++ pick x q c ++ pick x r d
theorem side_ok {a b c d : Nat} (ha : a < 7) (hb : b < 7) (hc : c < 7) (hd : d < 7) (h : dist4 a b c d = true) (x p q r : Bool) : okL (side x p q r a b c d) = true := by
  have h' : ∀ x y z w : Nat, x < 7 → y < 7 → z < 7 → w < 7 → dist4 x y z w = true → okL [x, y, z, w] = true ∧ okL [x, y, z] = true ∧ okL [x, y] = true ∧ okL [x] = true ∧ okL [] = true := fun _ _ _ _ h1 h2 h3 h4 => ok_all h1 h2 h3 h4
  have e : ∀ x y z w : Nat, dist4 x y z w = true ↔ (x ≠ y ∧ x ≠ z ∧ x ≠ w ∧ y ≠ z ∧ y ≠ w ∧ z ≠ w) := fun x y z w => by
    simp only [dist4, Bool.and_eq_true, decide_eq_true_eq]
    constructor <;> intro h <;> omega
  have h1 := h' a b c d ha hb hc hd h
  rw [e] at h
  have h2 := h' b c d a hb hc hd ha ((e _ _ _ _).2 (by omega))
  have h3 := h' a c d b ha hc hd hb ((e _ _ _ _).2 (by omega))
  have h4 := h' a b d c ha hb hd hc ((e _ _ _ _).2 (by omega))
  have h5 := h' b d a c hb hd ha hc ((e _ _ _ _).2 (by omega))
  have h6 := h' c d a b hc hd ha hb ((e _ _ _ _).2 (by omega))
  have h7 := h' a d b c ha hd hb hc ((e _ _ _ _).2 (by omega))
  have h8 := h' d a b c hd ha hb hc ((e _ _ _ _).2 (by omega))
  cases x <;> cases p <;> cases q <;> cases r <;> simp only [side, pick, List.append_nil, List.nil_append, List.cons_append, reduceCtorEq, if_true, if_false] <;> first | with_reducible exact h1.1 | with_reducible exact h1.2.1 | with_reducible exact h1.2.2.1 | with_reducible exact h1.2.2.2.1 | with_reducible exact h1.2.2.2.2 | with_reducible exact h2.1 | with_reducible exact h2.2.1 | with_reducible exact h2.2.2.1 | with_reducible exact h2.2.2.2.1 | with_reducible exact h3.2.1 | with_reducible exact h3.2.2.1 | with_reducible exact h4.2.1 | with_reducible exact h4.2.2.1 | with_reducible exact h5.2.2.1 | with_reducible exact h6.2.2.1 | with_reducible exact h6.2.2.2.1 | with_reducible exact h7.2.2.1 | with_reducible exact h8.2.2.2.1
theorem side_sum (p q r : Bool) (a b c d : Nat) : (sumL (side true p q r a b c d), sumL (side false p q r a b c d)) = splitN p q r a b c d := by
  cases p <;> cases q <;> cases r <;> simp [side, pick, sumL, splitN]
/-- A circuit's text by its marks. -/
def chB (b : Bool) : UInt8 := if b then 43 else 45
def circB (p q r : Bool) : ByteArray := ⟨#[43, chB p, chB q, chB r]⟩
theorem circT_B (A B C D : Int) : circT A B C D = circB (decide (-A * B > 0)) (decide (A * C > 0)) (decide (-A * D > 0)) := by
  have e : ∀ x : Int, sB x = chB (decide (x > 0)) := fun x => by
    unfold sB chB
    by_cases h : x > 0
    · rw [if_pos h, decide_eq_true h, if_pos rfl]
    · rw [if_neg h, decide_eq_false h, if_neg (by decide)]
  unfold circT circB
  rw [e, e, e]
theorem rd4 (a b c d : Int) : rd [a, b, c, d] (0 : Nat) = a ∧ rd [a, b, c, d] (1 : Nat) = b ∧ rd [a, b, c, d] (2 : Nat) = c ∧ rd [a, b, c, d] (3 : Nat) = d := ⟨rfl, rfl, rfl, rfl⟩
theorem rd4_mem {a b c d : Nat} {i : Nat} (hi : i < 4) : ∃ m : Nat, rd [(a : Int), (b : Int), (c : Int), (d : Int)] (i : Int) = (m : Int) ∧ (m = a ∨ m = b ∨ m = c ∨ m = d) := by
  have : i = 0 ∨ i = 1 ∨ i = 2 ∨ i = 3 := by omega
  rcases this with rfl | rfl | rfl | rfl
  · exact ⟨a, rfl, by omega⟩
  · exact ⟨b, rfl, by omega⟩
  · exact ⟨c, rfl, by omega⟩
  · exact ⟨d, rfl, by omega⟩
theorem bt_circB (p q r : Bool) : bt (circB p q r) ((0 : Nat) : Int) = 43 ∧ (bt (circB p q r) ((1 : Nat) : Int) = 43 ↔ p = true) ∧ (bt (circB p q r) ((2 : Nat) : Int) = 43 ↔ q = true) ∧ (bt (circB p q r) ((3 : Nat) : Int) = 43 ↔ r = true) := by
  cases p <;> cases q <;> cases r <;> decide +kernel
theorem impl_split_loop (p q r : Bool) {a b c d : Nat} (ha : a < 7) (hb : b < 7) (hc : c < 7) (hd : d < 7) (h : dist4 a b c d = true) :
    Ev (fun k => impl_chi_split.l0 k (circB p q r) 0 0 [(a : Int), (b : Int), (c : Int), (d : Int)] 4 0) (((splitN p q r a b c d).1 : Int), ((splitN p q r a b c d).2 : Int)) := by
  have key := loop_up (σ := Int × Int) (ρ := Int × Int) (lo := 0) (n := 4) (K := fun s _ => some s) (L := fun i s k => impl_chi_split.l0 k (circB p q r) s.1 s.2 [(a : Int), (b : Int), (c : Int), (d : Int)] 4 i)
    (fun s i => .ok (if bt (circB p q r) (i : Int) = 43 then (Go.bits .or .i64 s.1 (shl .i64 1 (rd [(a : Int), (b : Int), (c : Int), (d : Int)] (i : Int))), s.2) else (s.1, Go.bits .or .i64 s.2 (shl .i64 1 (rd [(a : Int), (b : Int), (c : Int), (d : Int)] (i : Int))))))
    (fun s => ?_) (fun i _ hi s => ?_) (by omega) (0, 0)
  · rw [foldlM_ok] at key
    refine ev_cast (key _ (Ev.now _)) ?_
    have o1 := (ok_facts (side_ok ha hb hc hd h true p q r)).1
    have o2 := (ok_facts (side_ok ha hb hc hd h false p q r)).1
    have e := side_sum p q r a b c d
    rw [← e]
    rw [← o1, ← o2]
    show (List.range' 0 4).foldl _ _ = _
    rw [show List.range' 0 4 = [0, 1, 2, 3] from rfl]
    obtain ⟨b0, b1, b2, b3⟩ := bt_circB p q r
    obtain ⟨r0, r1, r2, r3⟩ := rd4 (a : Int) (b : Int) (c : Int) (d : Int)
    simp only [List.foldl_cons, List.foldl_nil, r0, r1, r2, r3, b0, b1, b2, b3]
    cases p <;> cases q <;> cases r <;> rfl
  · refine Goes.step ?_
    simp only [impl_chi_split.l0]
    exact Goes.neg (by omega) (Goes.ok (K := fun s _ => some s) s)
  · obtain ⟨m, hm, hm4⟩ := rd4_mem (a := a) (b := b) (c := c) (d := d) hi
    refine Goes.step ?_
    simp only [impl_chi_split.l0]
    refine Goes.pos (by omega) (Goes.pos (by omega) (Goes.pos (by simp only [List.length_cons, List.length_nil]; omega) (Goes.pos (by show (i : Int) < 4; omega) ?_)))
    rw [wrap_id (by omega) (by omega)]
    by_cases g : bt (circB p q r) (i : Int) = 43
    · rw [if_pos g]
      exact Goes.pos g (Goes.pos (by rw [hm]; omega) (Goes.ok _))
    · rw [if_neg g]
      exact Goes.neg g (Goes.pos (by rw [hm]; omega) (Goes.ok _))
theorem spec_split_loop (p q r : Bool) {a b c d : Nat} (ha : a < 7) (hb : b < 7) (hc : c < 7) (hd : d < 7) (h : dist4 a b c d = true) :
    Ev (fun k => spec_l5Split.l0 k [(a : Int), (b : Int), (c : Int), (d : Int)] (circB p q r) 0 0 0) (((splitN p q r a b c d).1 : Int), ((splitN p q r a b c d).2 : Int)) := by
  have key := loop_up (σ := Int × Int) (ρ := Int × Int) (lo := 0) (n := 4) (K := fun s _ => some s) (L := fun i s k => spec_l5Split.l0 k [(a : Int), (b : Int), (c : Int), (d : Int)] (circB p q r) s.1 s.2 i)
    (fun s i => .ok (if bt (circB p q r) (i : Int) = 43 then (wrap64 (s.1 + (shl .i64 1 (rd [(a : Int), (b : Int), (c : Int), (d : Int)] (i : Int)))), s.2) else (s.1, wrap64 (s.2 + (shl .i64 1 (rd [(a : Int), (b : Int), (c : Int), (d : Int)] (i : Int)))))))
    (fun s => ?_) (fun i _ hi s => ?_) (by omega) (0, 0)
  · rw [foldlM_ok] at key
    refine ev_cast (key _ (Ev.now _)) ?_
    have o1 := (ok_facts (side_ok ha hb hc hd h true p q r)).2.1
    have o2 := (ok_facts (side_ok ha hb hc hd h false p q r)).2.1
    have e := side_sum p q r a b c d
    rw [← e]
    rw [← o1, ← o2]
    show (List.range' 0 4).foldl _ _ = _
    rw [show List.range' 0 4 = [0, 1, 2, 3] from rfl]
    obtain ⟨b0, b1, b2, b3⟩ := bt_circB p q r
    obtain ⟨r0, r1, r2, r3⟩ := rd4 (a : Int) (b : Int) (c : Int) (d : Int)
    simp only [List.foldl_cons, List.foldl_nil, r0, r1, r2, r3, b0, b1, b2, b3]
    cases p <;> cases q <;> cases r <;> rfl
  · refine Goes.step ?_
    simp only [spec_l5Split.l0]
    exact Goes.neg (by omega) (Goes.ok (K := fun s _ => some s) s)
  · obtain ⟨m, hm, hm4⟩ := rd4_mem (a := a) (b := b) (c := c) (d := d) hi
    have hu : IntKind.u64.wrap (rd [(a : Int), (b : Int), (c : Int), (d : Int)] (i : Int)) = rd [(a : Int), (b : Int), (c : Int), (d : Int)] (i : Int) := by
      rw [hm]; exact u64_id (by omega)
    refine Goes.step ?_
    simp only [spec_l5Split.l0, hu]
    refine Goes.pos (by omega) (Goes.pos (by omega) (Goes.pos (by show (i : Int) < 4; omega) ?_))
    rw [wrap_id (x := (i : Int) + 1) (by omega) (by omega)]
    by_cases g : bt (circB p q r) (i : Int) = 43
    · rw [if_pos g]
      exact Goes.pos g (Goes.pos (by simp only [List.length_cons, List.length_nil]; omega) (Goes.pos (by rw [hm]; omega) (Goes.ok _)))
    · rw [if_neg g]
      exact Goes.neg g (Goes.pos (by simp only [List.length_cons, List.length_nil]; omega) (Goes.pos (by rw [hm]; omega) (Goes.ok _)))
/-- Both sets of the circuit of four elements. -/
def splitV (n : Nat) (t : ByteArray) (a b c d : Nat) : Nat × Nat := splitN (decide (-(chi n t b c d) * chi n t a c d > 0)) (decide (chi n t b c d * chi n t a b d > 0)) (decide (-(chi n t b c d) * chi n t a b c > 0)) a b c d
/-- The inner element of four, or -1. -/
def innerV (n : Nat) (t : ByteArray) (a b c d : Nat) : Int := mx (onlyV (splitV n t a b c d).1) (onlyV (splitV n t a b c d).2)
theorem dist4_iff {a b c d : Nat} : dist4 a b c d = true ↔ (a ≠ b ∧ a ≠ c ∧ a ≠ d ∧ b ≠ c ∧ b ≠ d ∧ c ≠ d) := by
  simp only [dist4, Bool.and_eq_true, decide_eq_true_eq]
  constructor <;> intro h <;> omega
theorem splitV_lt {n : Nat} (t : ByteArray) {a b c d : Nat} (ha : a < 7) (hb : b < 7) (hc : c < 7) (hd : d < 7) (h : dist4 a b c d = true) : (splitV n t a b c d).1 < 128 ∧ (splitV n t a b c d).2 < 128 := by
  unfold splitV
  rw [← side_sum]
  exact ⟨(ok_facts (side_ok ha hb hc hd h true _ _ _)).2.2, (ok_facts (side_ok ha hb hc hd h false _ _ _)).2.2⟩
section
variable {n : Nat} {t : ByteArray} (h : areOk n t = true) {a b c d : Nat} (ha : a < n) (hb : b < n) (hc : c < n) (hd : d < n) (hx : dist4 a b c d = true)
include h ha hb hc hd hx
theorem impl_split : Ev (fun k => impl_chi_split.f k (tblL n t) (a : Int) (b : Int) (c : Int) (d : Int)) (((splitV n t a b c d).1 : Int), ((splitV n t a b c d).2 : Int)) := by
  obtain ⟨⟨h0, h1⟩, _, _⟩ := (areOk_iff _ _).1 h
  obtain ⟨e1, e2, e3, e4, e5, e6⟩ := dist4_iff.1 hx
  unfold impl_chi_split.f
  refine Ev.bind (chi_circuit_ev h ha hb hc hd e1 e2 e3 e4 e5 e6) (ev_call rfl ?_)
  rw [circT_B]
  exact impl_split_loop _ _ _ (by omega) (by omega) (by omega) (by omega) hx
theorem spec_split : Ev (fun k => spec_l5Split.f k (n : Int) t [(a : Int), (b : Int), (c : Int), (d : Int)]) (((splitV n t a b c d).1 : Int), ((splitV n t a b c d).2 : Int)) := by
  obtain ⟨⟨h0, h1⟩, _, _⟩ := (areOk_iff _ _).1 h
  obtain ⟨e1, e2, e3, e4, e5, e6⟩ := dist4_iff.1 hx
  unfold spec_l5Split.f
  refine ev_pos (by simp only [List.length_cons, List.length_nil]; omega) (ev_pos (by simp only [List.length_cons, List.length_nil]; omega) (ev_pos (by simp only [List.length_cons, List.length_nil]; omega) (ev_pos (by simp only [List.length_cons, List.length_nil]; omega) ?_)))
  refine Ev.bind (spec_circ4 h ha hb hc hd e1 e2 e3 e4 e5 e6) ?_
  rw [circT_B]
  exact spec_split_loop _ _ _ (by omega) (by omega) (by omega) (by omega) hx
end
theorem order_ev (n : Int) (t : ByteArray) (hs : t.size ≤ 9223372036854775807) : Ev (fun k => impl_orderOf.f k n t) (if acyOk n t = true then (tblL n.toNat t, true) else ([], false)) := by
  unfold impl_orderOf.f
  refine Ev.bind (impl_isA n t hs) ?_
  by_cases h : acyOk n t = true
  · rw [if_pos h]
    have ha : areOk n t = true := by
      unfold acyOk at h
      rw [Bool.and_eq_true] at h
      exact mat_are h.1
    obtain ⟨⟨h0, h1⟩, _, _⟩ := (areOk_iff _ _).1 ha
    obtain ⟨N, rfl⟩ : ∃ N : Nat, n = (N : Int) := Int.eq_ofNat_of_zero_le (by omega)
    exact ev_pos h (Ev.bind (tableOf_ev ha) (Ev.now _))
  · rw [if_neg h]
    exact ev_neg h (Ev.now _)
theorem acy_are {n : Int} {t : ByteArray} (h : acyOk n t = true) : ∃ N : Nat, n = (N : Int) ∧ areOk N t = true ∧ 3 ≤ N ∧ N ≤ 7 := by
  unfold acyOk at h
  rw [Bool.and_eq_true] at h
  have ha := mat_are h.1
  obtain ⟨⟨h0, h1⟩, _, _⟩ := (areOk_iff _ _).1 ha
  obtain ⟨N, rfl⟩ : ∃ N : Nat, n = (N : Int) := Int.eq_ofNat_of_zero_le (by omega)
  exact ⟨N, rfl, ha, by omega, by omega⟩
end Go.Proofs.Ytgnghhelalablaa.M
namespace Go.Proofs.Ytgnghhelalablaa.PX
open Go.RowKit Go.Proofs.Ytgnghhelalablaa.G Go.Proofs.YtgnghhelalablaaW.PrintWords Go.Proofs.YtgnghhelalablaaW.PrintLast Go.Proofs.YtgnghhelalablaaW.PrintMore
attribute [local go_sem] max2_int min2_int max_two min_two max_three min_three max_four min_four   -- for this text's walks alone
set_option linter.unusedVariables false
set_option linter.unusedSimpArgs false
/-! ### impl_chi_isInside: function 59 -/
def impl_chi_isInside.f (k : Nat) (l0 : List Int) (a1 : Int) (a2 : Int) (a3 : Int) (a4 : Int) : Option (Bool) := (impl_chi_inner.f k l0 a1 a2 a3 a4).bind fun t409 => (some (t409 == a1))
theorem impl_chi_isInside.mono : ∀ a0 a1 a2 a3 a4 k, LeO (impl_chi_isInside.f k a0 a1 a2 a3 a4) (impl_chi_isInside.f (k + 1) a0 a1 a2 a3 a4) := by
 intro a0 a1 a2 a3 a4 k
 unfold impl_chi_isInside.f
 repeat' first
   | (with_reducible exact impl_chi_inner.mono _ _ _ _ _ _)
   | (with_reducible exact LeO.refl _)
   | (with_reducible exact LeO.none _)
   | (with_reducible refine LeO.ite ?_ ?_)
   | (with_reducible refine LeO.bind ?_ (fun _ => ?_))
   | exact impl_chi_inner.mono _ _ _ _ _ _
   | exact LeO.none _
   | refine LeO.ite ?_ ?_
   | refine LeO.bind ?_ (fun _ => ?_)
set_option maxHeartbeats 8000000 in
set_option maxRecDepth 100000 in
theorem impl_chi_isInside.calls (k : Nat) (g0 : Nat) (l0 : List Int) (a1 : Int) (a2 : Int) (a3 : Int) (a4 : Int) (r : Bool) (w : World) (hr0 : Kd.C (Kd.int .i64) w (some ⟨g0, 0, none⟩) l0.length l0) (hc0 : l0.length = 344) (h : impl_chi_isInside.f k l0 a1 a2 a3 a4 = some r) :
  Calls Try.prog 59 #[.pointer (some ⟨g0, 0, none⟩), .int .i64 a1, .int .i64 a2, .int .i64 a3, .int .i64 a4] w fun e w' => e = .returned (.bool r) ∧ Below w.heap.size w w' := by
 have HR0 := Aside0.mk hr0
 have HC0 := Aside0.mk hc0
 clear hr0 hc0
 have HB := Aside0.mk (Below.refl w.heap.size w)
 have H : ((impl_chi_inner.f k l0 a1 a2 a3 a4).bind fun t409 => (some (t409 == a1))) = some r := h
 clear h
 replace H := Option.bind_eq_some_iff.mp H
 obtain ⟨t409, A60, H⟩ := H
 replace H : (some (t409 == a1)) = some r := H
 have A6 := Aside0.mk A60
 clear A60
 obtain rfl := Option.some.inj H
 go_enter Try.func59, Try.ntmps59
 go_wp2_with (first | ((with_reducible refine gate_callee (f := 52) rfl ?_); refine goesL_ (some 16) rfl rfl Try.func52 (by kernel_rfl) rfl #[.pointer (some ⟨g0, 0, none⟩), .int .i64 a1, .int .i64 a2, .int .i64 a3, .int .i64 a4] rfl zM ?_; (with_reducible refine (impl_chi_inner.calls k _ l0 a1 a2 a3 a4 t409 _ ?side1 ?side2 A6.out).mono ?_); (case side1 => repeat (first | exact HR0.out | (with_reducible refine Kd.C_alloc ?_ _) | (with_reducible refine Kd.C_drewN ?_ _) | (with_reducible refine Kd.C_drew ?_))); (case side2 => exact HC0.out); rintro e w7 ⟨rfl, hb⟩; refine ⟨_, rfl, ?_⟩; replace HB := Aside0.mk (below_step zB hb); (try clear hb)))
 go_ret
 exact ⟨zE, zB⟩
end Go.Proofs.Ytgnghhelalablaa.PX
namespace Go.Proofs.Ytgnghhelalablaa.M
open Go.RowKit Go.Proofs.YtgnghhelalablaaW.PrintWords Go.Proofs.Ytgnghhelalablaa.PX Go.Proofs.Ytgnghhelalablaa.G Go.Proofs.YtgnghhelalablaaW.PrintMore
theorem spec_max (a b : Int) : spec_l1Max.f a b = some (mx a b) := by
  unfold spec_l1Max.f mx
  split <;> simp <;> omega
section
variable {n : Nat} {t : ByteArray} (h : areOk n t = true) {a b c d : Nat} (ha : a < n) (hb : b < n) (hc : c < n) (hd : d < n) (hx : dist4 a b c d = true)
include h ha hb hc hd hx
theorem impl_inner : Ev (fun k => impl_chi_inner.f k (tblL n t) (a : Int) (b : Int) (c : Int) (d : Int)) (innerV n t a b c d) := by
  obtain ⟨⟨h0, h1⟩, _, _⟩ := (areOk_iff _ _).1 h
  obtain ⟨l1, l2⟩ := splitV_lt t (a := a) (b := b) (c := c) (d := d) (n := n) (by omega) (by omega) (by omega) (by omega) hx
  unfold impl_chi_inner.f
  exact Ev.bind (impl_split h ha hb hc hd hx) (Ev.bind (single_ev l1) (Ev.bind (single_ev l2) (Ev.now _)))
theorem spec_inner : Ev (fun k => spec_l5Inner.f k (n : Int) t [(a : Int), (b : Int), (c : Int), (d : Int)]) (innerV n t a b c d) := by
  obtain ⟨⟨h0, h1⟩, _, _⟩ := (areOk_iff _ _).1 h
  obtain ⟨l1, l2⟩ := splitV_lt t (a := a) (b := b) (c := c) (d := d) (n := n) (by omega) (by omega) (by omega) (by omega) hx
  unfold spec_l5Inner.f
  exact Ev.bind (spec_split h ha hb hc hd hx) (Ev.bind (only_ev l1) (Ev.bind (only_ev l2) (ev_call (spec_max _ _) (Ev.now _))))
theorem impl_inside : Ev (fun k => impl_chi_isInside.f k (tblL n t) (a : Int) (b : Int) (c : Int) (d : Int)) (innerV n t a b c d == (a : Int)) := by
  unfold impl_chi_isInside.f
  exact Ev.bind (impl_inner h ha hb hc hd hx) (Ev.now _)
end
/-- Four numbers as different elements. -/
theorem four_nat {n : Nat} {a b c d : Int} (h : areD n [a, b, c, d] = true) : ∃ A B C D : Nat, a = (A : Int) ∧ b = (B : Int) ∧ c = (C : Int) ∧ d = (D : Int) ∧ A < n ∧ B < n ∧ C < n ∧ D < n ∧ dist4 A B C D = true := by
  obtain ⟨⟨ha, hb, hc, hd⟩, e1, e2, e3, e4, e5, e6⟩ := (areD_4 _ _ _ _ _).1 h
  refine ⟨a.toNat, b.toNat, c.toNat, d.toNat, by omega, by omega, by omega, by omega, by omega, by omega, by omega, by omega, ?_⟩
  rw [dist4_iff]
  omega
end Go.Proofs.Ytgnghhelalablaa.M
namespace Go.Proofs.Ytgnghhelalablaa.M
open Go.RowKit Go.Proofs.YtgnghhelalablaaW.PrintWords Go.Proofs.Ytgnghhelalablaa.PX Go.Proofs.Ytgnghhelalablaa.G Go.Proofs.YtgnghhelalablaaW.PrintMore
/-- The fours without an inner element. -/
def noInner (n : Nat) (t : ByteArray) (q : Nat × Nat × Nat × Nat) : Bool := decide (innerV n t q.1 q.2.1 q.2.2.1 q.2.2.2 < 0)
def listQ (q : Nat × Nat × Nat × Nat) : List Int := [(q.1 : Int), (q.2.1 : Int), (q.2.2.1 : Int), (q.2.2.2 : Int)]
def quadsV (n : Nat) (t : ByteArray) : List (List Int) := ((quadsL n).filter (noInner n t)).map listQ
def quadsA (n : Int) (t : ByteArray) : List (List Int) := if acyOk n t = true then quadsV n.toNat t else []
theorem quads_fold (n : Nat) (t : ByteArray) : (quadsL n).foldlM (fun (u : List (List Int)) q => (.ok (if noInner n t q then u ++ [listQ q] else u) : Except (List (List Int)) (List (List Int)))) [] = .ok (quadsV n t) := by
  rw [foldlM_ok, foldl_filter, List.nil_append]
  rfl
theorem impl_quads (n : Int) (t : ByteArray) (hs : t.size ≤ 9223372036854775807) : Ev (fun k => impl_QuadsOf.f k n t) (quadsA n t) := by
  unfold impl_QuadsOf.f quadsA
  refine Ev.bind (order_ev n t hs) ?_
  by_cases h : acyOk n t = true
  · rw [if_pos h, if_pos h]
    obtain ⟨N, rfl, ho, h0, h1⟩ := acy_are h
    simp only [Int.toNat_natCast]
    obtain ⟨hq, hq35⟩ := quadQ_L h0 h1
    refine ev_pos (by trivial) (Ev.bind (quads_ev h0 h1) ?_)
    rw [hq]
    have hl : ((quadsL N).map toS4).length = (quadsL N).length := List.length_map ..
    have key := loop_up' (σ := List (List Int)) (ρ := List (List Int)) (lo := 0) (n := (quadsL N).length) (K := fun s _ => some s) (L := fun i s k => impl_QuadsOf.l0 k (tblL N t) s ((quadsL N).map toS4) (((quadsL N).map toS4).length : Int) i)
      (fun i s => s.length ≤ i) (fun s i => .ok (if noInner N t ((quadsL N).getD i (0, 0, 0, 0)) then s ++ [listQ ((quadsL N).getD i (0, 0, 0, 0))] else s)) (fun s _ => ?_) (fun i _ hi s hs => ?_) (fun p _ hp s hs s' e => ?_) (by omega) [] (by simp)
    · rw [foldlM_index (0, 0, 0, 0) (fun (s : List (List Int)) (q : Nat × Nat × Nat × Nat) => (.ok (if noInner N t q then s ++ [listQ q] else s) : Except (List (List Int)) (List (List Int)))), quads_fold] at key
      exact key _ (Ev.now _)
    · refine Goes.step ?_
      simp only [impl_QuadsOf.l0]
      exact Goes.neg (by omega) (Goes.ok (K := fun s _ => some s) s)
    · have hg : (quadsL N).getD i (0, 0, 0, 0) = (quadsL N)[i] := by rw [List.getD_eq_getElem?_getD, List.getElem?_eq_getElem hi]; rfl
      have hm := List.getElem_mem hi
      rw [hg]
      refine Goes.step ?_
      simp only [impl_QuadsOf.l0, rd_toS4 hi]
      generalize (quadsL N)[i] = q at *
      obtain ⟨a, b, c, d⟩ := q
      obtain ⟨hab, hbc, hcd, hd⟩ := mem_quads hm
      simp only [toS4]
      refine Goes.pos (by omega) (Goes.pos (by omega) (Goes.pos (by omega) (Goes.pos (tblL_length _ _) (Goes.ev (impl_inner ho (by omega) (by omega) (by omega) hd (dist4_iff.2 (by omega))) ?_))))
      rw [wrap_id (by omega) (by omega)]
      by_cases g : innerV N t a b c d < 0
      · rw [show noInner N t (a, b, c, d) = true from decide_eq_true g]
        exact Goes.pos g (Goes.pos (by omega) (Goes.ok (K := fun s k => impl_QuadsOf.l0 k (tblL N t) s ((quadsL N).map toS4) (((quadsL N).map toS4).length : Int) ((i + 1 : Nat) : Int)) _))
      · rw [show noInner N t (a, b, c, d) = false from decide_eq_false g]
        exact Goes.neg g (Goes.ok (K := fun s k => impl_QuadsOf.l0 k (tblL N t) s ((quadsL N).map toS4) (((quadsL N).map toS4).length : Int) ((i + 1 : Nat) : Int)) _)
    · cases e
      split
      · rw [List.length_append, List.length_cons, List.length_nil]; omega
      · omega
  · rw [if_neg h, if_neg h]
    exact ev_neg (by simp) (Ev.now _)
theorem spec_quads (n : Int) (t : ByteArray) (hs : t.size ≤ 9223372036854775807) : Ev (fun k => spec_QuadsOf.f k n t) (quadsA n t) := by
  unfold spec_QuadsOf.f quadsA
  refine ev_call rfl (Ev.bind (spec_isA n t hs) ?_)
  by_cases h : acyOk n t = true
  · rw [if_pos h]
    refine ev_pos h ?_
    obtain ⟨N, rfl, ho, h0, h1⟩ := acy_are h
    simp only [Int.toNat_natCast]
    have key := loops4B (σ := List (List Int)) (ρ := List (List Int)) (n := N) (K := fun s _ => some s) (L0 := fun a s k => spec_QuadsOf.l0 k s a (N : Int) t) (L1 := fun a b s k => spec_QuadsOf.l1 k s a b (N : Int) t) (L2 := fun a b c s k => spec_QuadsOf.l2 k s a b c (N : Int) t)
      (L3 := fun a b c d s k => spec_QuadsOf.l3 k s a b c d (N : Int) t) h1 List.length 0 (fun s q => .ok (if noInner N t q then s ++ [listQ q] else s)) (foldlM_okL _ _ fun s a => by split <;> simp)
      (fun s => ?_) (fun a ha s => ?_) (fun a ha s => ?_) (fun a b hab hb s => ?_) (fun a b hab hb s => ?_) (fun a b c hab hbc hc s => ?_) (fun a b c hab hbc hc s => ?_) (fun a b c d hab hbc hcd hd s hs => ?_) [] (Nat.le_refl _)
    · rw [quads_fold] at key
      exact key _ (Ev.now _)
    · refine Goes.step ?_
      simp only [spec_QuadsOf.l0]
      exact Goes.neg (by omega) (Goes.ok (K := fun s _ => some s) s)
    · refine Goes.step ?_
      simp only [spec_QuadsOf.l0]
      refine Goes.pos (by omega) ?_
      rw [wrap_id (by omega) (by omega)]
      exact Goes.ok (K := fun s k => spec_QuadsOf.l1 k s (a : Int) ((a + 1 : Nat) : Int) (N : Int) t) s
    · refine Goes.step ?_
      simp only [spec_QuadsOf.l1]
      refine Goes.neg (by omega) ?_
      rw [wrap_id (by omega) (by omega)]
      exact Goes.ok (K := fun s k => spec_QuadsOf.l0 k s ((a + 1 : Nat) : Int) (N : Int) t) s
    · refine Goes.step ?_
      simp only [spec_QuadsOf.l1]
      refine Goes.pos (by omega) ?_
      rw [wrap_id (by omega) (by omega)]
      exact Goes.ok (K := fun s k => spec_QuadsOf.l2 k s (a : Int) (b : Int) ((b + 1 : Nat) : Int) (N : Int) t) s
    · refine Goes.step ?_
      simp only [spec_QuadsOf.l2]
      refine Goes.neg (by omega) ?_
      rw [wrap_id (by omega) (by omega)]
      exact Goes.ok (K := fun s k => spec_QuadsOf.l1 k s (a : Int) ((b + 1 : Nat) : Int) (N : Int) t) s
    · refine Goes.step ?_
      simp only [spec_QuadsOf.l2]
      refine Goes.pos (by omega) ?_
      rw [wrap_id (by omega) (by omega)]
      exact Goes.ok (K := fun s k => spec_QuadsOf.l3 k s (a : Int) (b : Int) (c : Int) ((c + 1 : Nat) : Int) (N : Int) t) s
    · refine Goes.step ?_
      simp only [spec_QuadsOf.l3]
      refine Goes.neg (by omega) ?_
      rw [wrap_id (by omega) (by omega)]
      exact Goes.ok (K := fun s k => spec_QuadsOf.l2 k s (a : Int) (b : Int) ((c + 1 : Nat) : Int) (N : Int) t) s
    · refine Goes.step ?_
      simp only [spec_QuadsOf.l3]
      refine Goes.pos (by omega) (Goes.call rfl (Goes.ev (spec_inner ho (by omega) (by omega) (by omega) hd (dist4_iff.2 (by omega))) ?_))
      rw [wrap_id (by omega) (by omega)]
      by_cases g : innerV N t a b c d < 0
      · rw [show noInner N t (a, b, c, d) = true from decide_eq_true g]
        exact Goes.pos g (Goes.pos (by omega) (Goes.ok (K := fun s k => spec_QuadsOf.l3 k s (a : Int) (b : Int) (c : Int) ((d + 1 : Nat) : Int) (N : Int) t) _))
      · rw [show noInner N t (a, b, c, d) = false from decide_eq_false g]
        exact Goes.neg g (Goes.ok (K := fun s k => spec_QuadsOf.l3 k s (a : Int) (b : Int) (c : Int) ((d + 1 : Nat) : Int) (N : Int) t) _)
  · rw [if_neg h]
    exact ev_neg h (Ev.now _)
end Go.Proofs.Ytgnghhelalablaa.M
namespace Go.Proofs.Ytgnghhelalablaa.M
open Go.RowKit Go.Proofs.YtgnghhelalablaaW.PrintWords Go.Proofs.Ytgnghhelalablaa.PX Go.Proofs.Ytgnghhelalablaa.G
theorem quadsL_len : ∀ n : Nat, n ≤ 7 → (quadsL n).length ≤ 35 := by decide +kernel
theorem small_quads (n : Int) (t : ByteArray) : smallSS (quadsA n t) := by
  unfold quadsA
  by_cases h : acyOk n t = true
  · rw [if_pos h]
    obtain ⟨N, rfl, _, h3, h7⟩ := acy_are h
    have hl := quadsL_len (N : Int).toNat (by omega)
    refine ⟨?_, fun r hr => ?_⟩
    · unfold quadsV
      rw [List.length_map]
      exact Nat.le_trans (Nat.le_trans (List.length_filter_le _ _) hl) (by omega)
    · unfold quadsV at hr
      obtain ⟨q, _, rfl⟩ := List.mem_map.mp hr
      show 4 ≤ 10000
      omega
  · rw [if_neg h]
    exact ⟨Nat.zero_le _, fun r hr => by cases hr⟩
end Go.Proofs.Ytgnghhelalablaa.M
namespace Go.Proofs.Ytgnghhelalablaa.M
open Go.RowKit Go.Proofs.YtgnghhelalablaaW.PrintWords Go.Proofs.Ytgnghhelalablaa.PX
theorem sz_signs (n : Int) (t : ByteArray) : ∃ r, laws_szSigns.f n t 1048576 = some r := by
  unfold laws_szSigns.f
  split <;> exact ⟨_, rfl⟩
end Go.Proofs.Ytgnghhelalablaa.M
namespace Go.Proofs.Ytgnghhelalablaa.Pure
open Go.RowKit Go.Proofs.YtgnghhelalablaaW.PrintWords Go.Proofs.Ytgnghhelalablaa.PX Go.Proofs.Ytgnghhelalablaa.M Go.Proofs.Ytgnghhelalablaa.G
theorem FnExactQuadsOf (n : Int) (t : ByteArray) (_ : (Lit.int .i64 n).wf = true) (hs : t.size ≤ 9223372036854775807) :
    ∃ k, laws_FnExactQuadsOf.f k n t = some true := by
  refine Ev.rounds (r := true) ?_
  unfold laws_FnExactQuadsOf.f
  obtain ⟨r, hr⟩ := sz_signs n t
  refine ev_call hr ?_
  by_cases h : r < 0
  · exact ev_pos h (Ev.now _)
  have hsp := spec_quads n t hs
  have him := impl_quads n t hs
  have hv := small_quads n t
  have he := endSS_ge (quadsA n t) 1
  generalize quadsA n t = V at hsp him hv he
  refine ev_neg h (ev_call (a := (n, t)) rfl (Ev.bind hsp (ev_call (a := (n, t)) rfl (Ev.bind him (Ev.bind (eqSS_self V hv) (ev_pos rfl (Ev.bind (markSS_ev V hv) ?_)))))))
  refine Ev.bind (heldSS_ev V hv) (ev_neg (by omega) (ev_pos rfl (ev_call (a := (n, t)) rfl (Ev.bind him (Ev.bind (eqSS_self V hv) (ev_pos rfl ?_))))))
  exact Ev.bind (heldSS_ev V hv) (ev_neg (by omega) (ev_pos rfl (Ev.now _)))
end Go.Proofs.Ytgnghhelalablaa.Pure
namespace Go.Proofs.Ytgnghhelalablaa.fnExactQuadsOf
open Go.ChangeShapes Go.WideShapes Go.ChangeAt Go.RowKit Go.Joins
open Go.ChangeMaps (open_string shut_string)
set_option linter.unusedVariables false
theorem own : ownKnob Try.prog.godebug = none := by kernel_rfl
theorem str_mk {H : Type} {enc : TypeId × Value → H} {P : Program} {w : World} {base : Nat} {spare : Nat → Bool} {held : Bool} {t : TypeId} {s : ByteArray} (ht : P.underlying t = some .string) (hs : s.size ≤ maxLen) : DataW.trod enc P w base spare held 1 t [.string s] = some (.lit (.string s.data.toList), []) := by
  simp [DataW.trod, ht, hs]
set_option maxRecDepth 100000 in
theorem lifted (os : Os) (started : os.Started) (H : Type) (enc : TypeId × Value → H) :
    ReturnsInHanded {} Try.checked os 6 .any (Rows.fnExactQuadsOfSpec.pre6 enc Try.prog Try.f6 Rows.fnExactQuadsOfRow.domain false) (Rows.fnExactQuadsOfSpec.post enc Try.prog Try.f6 false true false false) := by
  refine returnsInHanded_of_change_sized (C := Try.checked) own started (by kernel_rfl) Try.func6
    (ChangeSpec.witness6 (enc := enc) (C := Try.checked) false ⟨#[], #[.agg #[.int .i64 0, .string ByteArray.empty]], []⟩ 8 (by kernel_rfl) (by kernel_rfl) (by kernel_rfl) (by kernel_rfl)) ?_
  intro W base args ds gs before hval0 hW hcnd hsz0 _
  have hsz : (DataW.weightsEach Try.prog (Try.f6.params.toList ++ Rows.fnExactQuadsOfSpec.plain.varTypes Try.prog) (ds ++ gs)).all (· ≤ reachBytes) = true := hsz0
  have hval : ∀ (j : Nat) t v, Try.f6.params[j]? = some t → args[j]? = some v → Value.okWide Try.prog W .any base t v := hval0
  have hW' := hW
  obtain ⟨p, q, hA0, hV, rfl, hfz, hnd⟩ := hW
  have hA : DataW.TrodAll enc Try.prog W 0 (fun _ => true) true Try.f6.params.toList args.toList ds p := hA0
  rw [Try.params6] at hA hval hsz
  obtain ⟨v0, vs0, d0, ds0, p0, q0, hargs, rfl, rfl, h0, r0⟩ := trodAll_cons hA
  obtain ⟨rfl, rfl, rfl⟩ := trodAll_nil r0
  obtain rfl : args = #[v0] := by cases args; simp_all
  obtain ⟨rfl, rfl⟩ := trodVars_none hV
  obtain ⟨c0_0, c0_1, y0_0, y0_1, m0, rfl, rfl, rfl, hy0_0, hy0_1⟩ := open_agg2 Try.underlying23 (by kernel_rfl) (by kernel_rfl) (hval 0 23 v0 rfl rfl) h0
  obtain ⟨a0_0, e0_0, rfl, wa0⟩ := DataW.trod_int Try.underlying3 hy0_0
  obtain ⟨a0_1, e0_1, rfl, ws0⟩ := DataW.trod_string Try.underlying9 hy0_1
  simp only [List.cons.injEq, and_true] at e0_0 e0_1
  subst e0_0 e0_1
  clear hA0 hval0 hsz0 hsz
  obtain ⟨k, hP⟩ := Pure.FnExactQuadsOf a0_0 a0_1 wa0 ws0
  refine (PX.laws_FnExactQuadsOf.calls k a0_0 a0_1 true W hP rfl).mono fun e W' ⟨he, bel⟩ => ?_
  subst he
  exact ⟨_, rfl, _, _, _, [], _, [], hW', trodAll_mk1 (shut_bool Try.underlying4 _), (trodAll_cons_mk (shut_agg2 Try.underlying23 (by kernel_rfl) (by kernel_rfl) ⟨_, trod_int_mk 0 Try.underlying3 wa0⟩ ⟨_, str_mk Try.underlying9 ws0⟩) trodAll_mk0), rfl, bel.frame _, fun h => by cases h⟩
theorem over : Rows.fnExactQuadsOfRow.holds Try.pinned (OpenSpec.ofChange Rows.fnExactQuadsOfSpec) :=
  OpenClaim.holds_of_wide 6 Try.f6 rfl rfl rfl rfl rfl rfl rfl ⟨rfl, rfl, rfl, rfl, rfl⟩ rfl rfl rfl rfl rfl (by kernel_rfl) Try.func6 (by kernel_rfl)
    (of_decide_eq_true (by kernel_rfl)) (by unfold Func.isWrapper; first | (rw [if_pos (by decide +kernel)]; kernel_rfl) | (rw [if_neg (by decide +kernel)]; exact ⟨rfl, rfl⟩))
    (fun os started H enc _ => lifted os started H enc)
theorem proved : Rows.FnExactQuadsOfSaid := over
#print axioms proved
end Go.Proofs.Ytgnghhelalablaa.fnExactQuadsOf
namespace Go.Proofs.Ytgnghhelalablaa
/-- The row, under a short name, for the claim. -/
theorem fnExactQuadsOf_holds : Rows.FnExactQuadsOfSaid := fnExactQuadsOf.proved
end Go.Proofs.Ytgnghhelalablaa
