/- FnExactSignsText returns true for all arguments and leaves them as they were. No condition. -/
import Derived.Test.YthhgcdfdjlijjaaDoorProg
import Derived.Shelf.Strconv.Itoa3
import Derived.Shelf.Strconv.AtoiAll
import Derived.Shelf.Strings.Cut
import Derived.Shelf.Strings.OnBuilder
import Derived.Lib.SmallJoins
import Derived.Lib.AppendIntMem
import Derived.Test.YthhgcdfdjlijjaaDoorRows
import Derived.ProofKit
import Derived.LaidMore
import Derived.OpenShut
import Derived.Stop.Joined
import Derived.Stop.LaidErr
import Derived.Lib.LaidTab
import Derived.LaidHandle
import Derived.Below
import Derived.Deep.Draws
import Derived.Deep.AppendLies
import Derived.Maps.AppendAt
import Derived.OwnWalk
import Derived.Laws.BytesArg
import Derived.Laws.MakeOwn
import Derived.Laws.OwnMore
import Derived.Deep.OwnRows
import Derived.Tactics
import Derived.Lib.ConvBytes
import Derived.Laws.Slices
import Derived.WalkKit
import Derived.KernelRfl
import Derived.RowKit3
import Derived.Deep.LoopGhost
import Derived.Deep.QuietTactic
import Derived.BigQuiet
import Derived.WideLaws
import Derived.Deep.DeepCutAuto
import Derived.Deep.CutBlock
import Derived.Deep.RegionHeld3
import Derived.Laws.Rows
import Derived.Lib.AppendStr
import Derived.ArgAppend
import Derived.Laws.IdiomCopy
import Derived.OrdersHeld
import Derived.Laws.BitsLemmas
import Derived.RowKit
import Derived.Lib.AtoiAllCases
import Derived.Lib.ItoaNum
import Derived.Test.YthhgcdfdjlijjaaDoorTie
import Derived.Test.YthhgcdfdjlijjaaDoorCards
import Derived.SevenTiedAt
import Derived.ShutString
import Derived.ChangeOld
import Derived.SizedLaws
import Derived.ChangeSame
import Derived.Test.YthhgcdfdjlijjaaDoorV1
set_option linter.unusedVariables false
set_option linter.unusedSimpArgs false
namespace Go.Proofs
open Go.Shelf
set_option linter.unusedVariables false
open Go.RowKit in
open Go.RowKit in
def Tryd.laysM171_ren : Go.Shelf.Ren := ⟨fun | 171 => 36 | 243 => 54 | 246 => 66 | 283 => 79 | 284 => 80 | 285 => 81 | 286 => 82 | 129 => 97 | 317 => 96 | 318 => 98 | 319 => 99 | 320 => 100 | 337 => 109 | 338 => 110 | n => n, fun | 3 => 3 | 9 => 9 | 2 => 2 | 4 => 4 | 171 => 98 | 0 => 0 | 53 => 99 | 37 => 41 | 5 => 5 | 173 => 102 | 212 => 116 | 51 => 117 | 20 => 20 | 213 => 118 | 46 => 113 | 232 => 136 | 233 => 137 | n => n, fun | 17 => 1 | 18 => 4 | 19 => 5 | n => n⟩
theorem Tryd.laysM171 : Go.Proofs.LaysM.n171 Tryd.prog Tryd.laysM171_ren := {
 mixed := by kernel_rfl
 f129 := Tryd.func97.trans (congrArg some (by kernel_rfl))
 f171 := Tryd.func36.trans (congrArg some (by kernel_rfl))
 f243 := Tryd.func54.trans (congrArg some (by kernel_rfl))
 f246 := Tryd.func66.trans (congrArg some (by kernel_rfl))
 f283 := Tryd.func79.trans (congrArg some (by kernel_rfl))
 f284 := Tryd.func80.trans (congrArg some (by kernel_rfl))
 f285 := Tryd.func81.trans (congrArg some (by kernel_rfl))
 f286 := Tryd.func82.trans (congrArg some (by kernel_rfl))
 f317 := Tryd.func96.trans (congrArg some (by kernel_rfl))
 f318 := Tryd.func98.trans (congrArg some (by kernel_rfl))
 f319 := Tryd.func99.trans (congrArg some (by kernel_rfl))
 f320 := Tryd.func100.trans (congrArg some (by kernel_rfl))
 f337 := Tryd.func109.trans (congrArg some (by kernel_rfl))
 f338 := Tryd.func110.trans (congrArg some (by kernel_rfl))
 t0 := Tryd.underlying0
 a0 := Tryd.isAgg0
 z0 := Tryd.sizeOf0
 v0 := Tryd.zeroValue0
 t2 := Tryd.underlying2
 a2 := Tryd.isAgg2
 z2 := Tryd.sizeOf2
 v2 := Tryd.zeroValue2
 t3 := Tryd.underlying3
 a3 := Tryd.isAgg3
 z3 := Tryd.sizeOf3
 v3 := Tryd.zeroValue3
 t4 := Tryd.underlying4
 a4 := Tryd.isAgg4
 z4 := Tryd.sizeOf4
 v4 := Tryd.zeroValue4
 t5 := Tryd.underlying5
 a5 := Tryd.isAgg5
 z5 := Tryd.sizeOf5
 v5 := Tryd.zeroValue5
 t9 := Tryd.underlying9
 a9 := Tryd.isAgg9
 z9 := Tryd.sizeOf9
 v9 := Tryd.zeroValue9
 t20 := Tryd.underlying20
 a20 := Tryd.isAgg20
 z20 := Tryd.sizeOf20
 v20 := Tryd.zeroValue20
 t37 := Tryd.underlying41
 a37 := Tryd.isAgg41
 z37 := Tryd.sizeOf41
 v37 := Tryd.zeroValue41
 t46 := Tryd.underlying113
 a46 := Tryd.isAgg113
 z46 := Tryd.sizeOf113
 v46 := Tryd.zeroValue113
 t51 := Tryd.underlying117
 a51 := Tryd.isAgg117
 z51 := Tryd.sizeOf117
 v51 := Tryd.zeroValue117
 t53 := Tryd.underlying99
 a53 := Tryd.isAgg99
 z53 := Tryd.sizeOf99
 v53 := Tryd.zeroValue99
 t171 := Tryd.underlying98
 a171 := Tryd.isAgg98
 z171 := Tryd.sizeOf98
 v171 := Tryd.zeroValue98
 t173 := Tryd.underlying102
 a173 := Tryd.isAgg102
 z173 := Tryd.sizeOf102
 v173 := Tryd.zeroValue102
 t212 := Tryd.underlying116
 a212 := Tryd.isAgg116
 z212 := Tryd.sizeOf116
 v212 := Tryd.zeroValue116
 t213 := Tryd.underlying118
 a213 := Tryd.isAgg118
 z213 := Tryd.sizeOf118
 t232 := Tryd.underlying136
 a232 := Tryd.isAgg136
 z232 := Tryd.sizeOf136
 v232 := Tryd.zeroValue136
 t233 := Tryd.underlying137
 a233 := Tryd.isAgg137
 z233 := Tryd.sizeOf137
 v233 := Tryd.zeroValue137
 g17 := by kernel_rfl
 g18 := by kernel_rfl
 g19 := by kernel_rfl
 i0 := by kernel_rfl
 i2 := by kernel_rfl
 i3 := by kernel_rfl
 i4 := by kernel_rfl
 i5 := by kernel_rfl
 i9 := by kernel_rfl
 i20 := by kernel_rfl
 i37 := by kernel_rfl
 i46 := by kernel_rfl
 i51 := by kernel_rfl
 i53 := by kernel_rfl
 i171 := by kernel_rfl
 i173 := by kernel_rfl
 i212 := by kernel_rfl
 i232 := by kernel_rfl
 i233 := by kernel_rfl
 m17 := by kernel_rfl
 m18 := by kernel_rfl
 m19 := by kernel_rfl }
open Go.RowKit Go.Sort Go.Lib in
theorem Tryd.strconv_Itoa (n : Int) (h0 : -9223372036854775808 ≤ n) (h1 : n ≤ 9223372036854775807) (w : World) (htab : Lib.TabIs Tryd.prog w "internal/strconv.uint64pow10" .u64 Lib.pow10Tab) :
  Calls Tryd.prog 36 #[.int .i64 n] w fun e w' => e = .returned (.string ⟨(Lib.itoa n).toArray⟩) ∧ ∃ k os, w' = grow (w.drewN k) os := Any.strconv_Itoa Tryd.laysM171 n h0 h1 w htab
open Go.RowKit in
def Tryd.lays145_ren : Go.Shelf.Ren := ⟨fun | 145 => 53 | 220 => 65 | 219 => 78 | 217 => 92 | 225 => 93 | 224 => 94 | 267 => 95 | 266 => 107 | 314 => 108 | n => n, fun | 9 => 9 | 4 => 4 | 59 => 68 | 3 => 3 | 5 => 5 | 46 => 113 | 146 => 129 | 51 => 117 | n => n, fun | 1 => 0 | n => n⟩
theorem Tryd.lays145 : Go.Proofs.Lays.n145 Tryd.prog Tryd.lays145_ren := {
 mixed := by kernel_rfl
 f145 := Tryd.func53.trans (congrArg some (by kernel_rfl))
 f217 := Tryd.func92.trans (congrArg some (by kernel_rfl))
 f219 := Tryd.func78.trans (congrArg some (by kernel_rfl))
 f220 := Tryd.func65.trans (congrArg some (by kernel_rfl))
 f224 := Tryd.func94.trans (congrArg some (by kernel_rfl))
 f225 := Tryd.func93.trans (congrArg some (by kernel_rfl))
 f266 := Tryd.func107.trans (congrArg some (by kernel_rfl))
 f267 := Tryd.func95.trans (congrArg some (by kernel_rfl))
 f314 := Tryd.func108.trans (congrArg some (by kernel_rfl))
 t3 := Tryd.underlying3
 a3 := Tryd.isAgg3
 z3 := Tryd.sizeOf3
 v3 := Tryd.zeroValue3
 t4 := Tryd.underlying4
 a4 := Tryd.isAgg4
 z4 := Tryd.sizeOf4
 v4 := Tryd.zeroValue4
 t5 := Tryd.underlying5
 a5 := Tryd.isAgg5
 z5 := Tryd.sizeOf5
 v5 := Tryd.zeroValue5
 t9 := Tryd.underlying9
 a9 := Tryd.isAgg9
 z9 := Tryd.sizeOf9
 v9 := Tryd.zeroValue9
 t46 := Tryd.underlying113
 a46 := Tryd.isAgg113
 z46 := Tryd.sizeOf113
 v46 := Tryd.zeroValue113
 t51 := Tryd.underlying117
 a51 := Tryd.isAgg117
 z51 := Tryd.sizeOf117
 v51 := Tryd.zeroValue117
 t59 := Tryd.underlying68
 a59 := Tryd.isAgg68
 z59 := Tryd.sizeOf68
 v59 := Tryd.zeroValue68
 t146 := Tryd.underlying129
 a146 := Tryd.isAgg129
 z146 := Tryd.sizeOf129
 v146 := Tryd.zeroValue129
 g1 := by kernel_rfl }
open Go.RowKit Go.Lib in
theorem Tryd.strings_Cut (s sep : ByteArray) (m : Int) (w : World) (hs : s.size < 4294967281) (hm : w.cell? ⟨0, 0, none⟩ = some (.int .i64 m)) :
  Calls Tryd.prog 53 #[.string s, .string sep] w fun e w' => e = .returned (.tuple #[.string ⟨(Lib.cut s.data.toList sep.data.toList).1.toArray⟩, .string ⟨(Lib.cut s.data.toList sep.data.toList).2.1.toArray⟩, .bool (Lib.cut s.data.toList sep.data.toList).2.2]) ∧ ∃ n, w' = w.drewN n := Any.strings_Cut Tryd.lays145 s sep m w hs hm
end Go.Proofs
namespace Go.Proofs.YthhgcdfdjlijjaaDoor.G
open Go.RowKit Go.Proofs.YthhgcdfdjlijjaaDoorW.PrintWords Go.Proofs.YthhgcdfdjlijjaaDoorW.PrintLast Go.Proofs.YthhgcdfdjlijjaaDoorW.PrintMore
set_option linter.unusedVariables false
set_option linter.unusedSimpArgs false
noncomputable def gOf (n : String) : Nat := (Tryd.prog.globalNamed n).getD 0
def T1 (w : World) : Prop := Lib.TabIs Tryd.prog w "internal/strconv.uint64pow10" .u64 Lib.pow10Tab
def T2 (w : World) : Prop := T1 w ∧ (∃ ev, w.cell? ⟨gOf "strconv.ErrSyntax", 0, none⟩ = some ev ∧ (ev = .nilIface ∨ ∃ te pe, ev = .iface te pe)) ∧ (∃ ev, w.cell? ⟨gOf "strconv.ErrRange", 0, none⟩ = some ev ∧ (ev = .nilIface ∨ ∃ te pe, ev = .iface te pe))
def T3 (w : World) : Prop := T2 w ∧ ∃ m, w.cell? ⟨gOf "internal/bytealg.MaxLen", 0, none⟩ = some (.int .i64 m)
theorem T1.below {w w' : World} (h : T1 w) (hb : Below w.heap.size w w') : T1 w' := Go.Joins.tab_stays (g := gOf "internal/strconv.uint64pow10") (by kernel_rfl) h hb (Nat.le_refl _)
theorem cell_stays {w w' : World} {g : Nat} {v : Value} (h : w.cell? ⟨g, 0, none⟩ = some v) (hb : Below w.heap.size w w') : w'.cell? ⟨g, 0, none⟩ = some v := (hb.cell (World.block_lt_of_cell? w _ h)).trans h
theorem T2.below {w w' : World} (h : T2 w) (hb : Below w.heap.size w w') : T2 w' := by
 obtain ⟨h1, ⟨e, he, h2⟩, ⟨e', he', h3⟩⟩ := h
 exact ⟨h1.below hb, ⟨e, cell_stays he hb, h2⟩, ⟨e', cell_stays he' hb, h3⟩⟩
theorem T3.below {w w' : World} (h : T3 w) (hb : Below w.heap.size w w') : T3 w' := by
 obtain ⟨h1, m, hm⟩ := h
 exact ⟨h1.below hb, m, cell_stays hm hb⟩
def itoaB (n : Int) : ByteArray := ⟨(Lib.itoa n).toArray⟩
theorem itoa_calls {n : Int} (h0 : -9223372036854775808 ≤ n) (h1 : n ≤ 9223372036854775807) {w : World} (hT : T1 w) : Calls Tryd.prog 36 #[.int .i64 n] w fun e w' => e = .returned (.string (itoaB n)) ∧ Below w.heap.size w w' :=
 (Tryd.strconv_Itoa n h0 h1 w hT).mono fun e w' ⟨he, k, os, hw⟩ => ⟨he, hw ▸ Lib.below_grow _ w (Nat.le_refl _) k os⟩
def impl_FormatInt.f (n : Int) : Option ByteArray := if -9223372036854775808 ≤ n ∧ n ≤ 9223372036854775807 then some (itoaB n) else none
theorem impl_FormatInt.calls (a0 : Int) (r : ByteArray) (w : World) (h : impl_FormatInt.f a0 = some r) (hT : T1 w) :
  Calls Tryd.prog 12 #[.int .i64 a0] w fun e w' => e = .returned (.string r) ∧ Below w.heap.size w w' := by
 unfold impl_FormatInt.f at h
 by_cases hs : -9223372036854775808 ≤ a0 ∧ a0 ≤ 9223372036854775807
 ·rw [if_pos hs] at h
  obtain rfl := Option.some.inj h
  clear h
  go_enter Tryd.func12, Tryd.ntmps12
  go_wp2_with (go_at_call 36; refine (itoa_calls hs.1 hs.2 hT).mono ?_; rintro e w1 ⟨rfl, hb1⟩; have HB1 := Aside0.mk hb1; clear hb1)
  go_ret
  exact ⟨rfl, HB1.out⟩
 rw [if_neg hs] at h
 cases h
def strings_Cut.f (s t : ByteArray) : Option (ByteArray × ByteArray × Bool) :=
 if s.size < 4294967281 then some (⟨(Lib.cut s.data.toList t.data.toList).1.toArray⟩, ⟨(Lib.cut s.data.toList t.data.toList).2.1.toArray⟩, (Lib.cut s.data.toList t.data.toList).2.2) else none
theorem strings_Cut.calls (a0 : ByteArray) (a1 : ByteArray) (r1 : ByteArray) (r2 : ByteArray) (r3 : Bool) (w : World) (h : strings_Cut.f a0 a1 = some (r1, r2, r3)) (hT : T3 w) :
  Calls Tryd.prog 53 #[.string a0, .string a1] w fun e w' => e = .returned (.tuple #[.string r1, .string r2, .bool r3]) ∧ Below w.heap.size w w' := by
 unfold strings_Cut.f at h
 by_cases hs : a0.size < 4294967281
 ·rw [if_pos hs] at h
  simp only [Option.some.injEq, Prod.mk.injEq] at h
  obtain ⟨rfl, rfl, rfl⟩ := h
  obtain ⟨_, m, hm⟩ := hT
  refine (Tryd.strings_Cut a0 a1 m w hs hm).mono fun e w' ⟨he, k, hw⟩ => ⟨he, ?_⟩
  subst hw
  exact Lib.below_grow _ w (Nat.le_refl _) k #[]
 rw [if_neg hs] at h
 cases h
end Go.Proofs.YthhgcdfdjlijjaaDoor.G
namespace Go.Proofs.YthhgcdfdjlijjaaDoor.G
open Go.RowKit
set_option linter.unusedVariables false
def l3 : List (String × DataW Unit) := [("math/bits.deBruijn32tab", Rows.laid_math_bits_deBruijn32tab), ("math/bits.deBruijn64tab", Rows.laid_math_bits_deBruijn64tab), ("internal/strconv.uint64pow10", Rows.laid_internal_strconv_uint64pow10)]
noncomputable def tabT : Nat := ((Tryd.prog.globals[gOf "internal/strconv.uint64pow10"]?).map (·.type)).getD 0
theorem tab_of {r : List (String × DataW Unit)} {W : World} (h : laidMet Tryd.prog (("internal/strconv.uint64pow10", Rows.laid_internal_strconv_uint64pow10) :: r) W) : T1 W :=
 Lib.tabIs_of_head (g := gOf "internal/strconv.uint64pow10") (t := tabT) (e := 99) (n := 20) (by kernel_rfl) (by kernel_rfl) (by kernel_rfl) (by kernel_rfl) (by kernel_rfl) (by kernel_rfl) h
theorem laid3_T1 {W : World} (h : laidMetH Tryd.prog l3 W) : T1 W := by
 rw [MakeChecks.laidMetH_plain _ _ _ (by kernel_rfl)] at h
 exact tab_of h.tail.tail
set_option maxRecDepth 100000 in
theorem met3 (os : Os) (args : Array Value) : laidMetH Tryd.prog l3 ((World.doorLaid Tryd.prog 24 os).forCall (fun _ _ => 0) ⟨#[], args, []⟩).memory :=
 laidMetH_of_parts3 (fuel := 8) (laidMet_of_run' 8 (by kernel_rfl) (by kernel_rfl)) (by kernel_rfl) (by kernel_rfl)
end Go.Proofs.YthhgcdfdjlijjaaDoor.G
namespace Go.Proofs.YthhgcdfdjlijjaaDoor.PX
open Go.RowKit Go.Proofs.YthhgcdfdjlijjaaDoor.G Go.Proofs.YthhgcdfdjlijjaaDoorW.PrintWords Go.Proofs.YthhgcdfdjlijjaaDoorW.PrintLast Go.Proofs.YthhgcdfdjlijjaaDoorW.PrintMore
attribute [local go_sem] max2_int min2_int max_two min_two max_three min_three max_four min_four   -- for this text's walks alone
set_option linter.unusedVariables false
set_option linter.unusedSimpArgs false
def errW : Option Int → Value
 | none => .nilIface
 | some c => .iface 107 (.int .i64 c)
theorem errW_none : errW none = .nilIface := rfl
theorem errW_some (c : Int) : errW (some c) = .iface 107 (.int .i64 c) := rfl
/-! #### struct type 58 -/
/-! #### struct type 55 -/
/-! #### struct type 76 -/
/-! ### laws_szSigns: function 13 -/
def laws_szSigns.f (a0_0 : Int) (a0_1 : ByteArray) (a1 : Int) : Option (Int) := if (wrap64 (a1 - (a0_1.size : Int))) < 0 then (some (-1)) else (some (wrap64 (a1 - (a0_1.size : Int))))
set_option maxHeartbeats 8000000 in
set_option maxRecDepth 100000 in
theorem laws_szSigns.calls (a0_0 : Int) (a0_1 : ByteArray) (a1 : Int) (r : Int) (w : World) (h : laws_szSigns.f a0_0 a0_1 a1 = some r) :
  Calls Tryd.prog 13 #[.agg #[.int .i64 a0_0, .string a0_1], .int .i64 a1] w fun e w' => e = .returned (.int .i64 r) ∧ Below w.heap.size w w' := by
 have hu25 := Tryd.underlying25
 have HB := Aside0.mk (Below.refl w.heap.size w)
 have H : (if (wrap64 (a1 - (a0_1.size : Int))) < 0 then (some (-1)) else (some (wrap64 (a1 - (a0_1.size : Int))))) = some r := h
 clear h
 by_cases c3 : (wrap64 (a1 - (a0_1.size : Int))) < 0
 ·rw [if_pos c3] at H
  have c3b0 := decide_eq_true c3
  clear c3
  obtain rfl := Option.some.inj H
  go_enter Tryd.func13, Tryd.ntmps13
  go_wp2_with (first | ((with_reducible refine gate_dst (N := 2) rfl ?_); refine zBx (N := 2) #[.int .i64 a0_0, .string a0_1] 25 ?_; intro gb128 hg w4 hbox hb; have BK128 := Aside0.mk (hbox); have GW128 := zS hg; have GE128 := zS hg; replace HB := zX hb; clear hb hbox hg; obtain ⟨hcz5_0, hcz5_1, hfz5_0, hfz5_1⟩ := zq2 BK128.out))
  go_ret
  exact ⟨zE, zG GE128.out⟩
 rw [if_neg c3] at H
 have c3b0 := decide_eq_false c3
 clear c3
 obtain rfl := Option.some.inj H
 go_enter Tryd.func13, Tryd.ntmps13
 go_wp2_with (first | ((with_reducible refine gate_dst (N := 2) rfl ?_); refine zBx (N := 2) #[.int .i64 a0_0, .string a0_1] 25 ?_; intro gb128 hg w6 hbox hb; have BK128 := Aside0.mk (hbox); have GW128 := zS hg; have GE128 := zS hg; replace HB := zX hb; clear hb hbox hg; obtain ⟨hcz7_0, hcz7_1, hfz7_0, hfz7_1⟩ := zq2 BK128.out))
 go_ret
 exact ⟨zE, zG GE128.out⟩
/-! ### spec_FormatInt: function 11 -/
def spec_FormatInt.l0 : Nat → Int → Bool → ByteArray → Option (ByteArray)
 | 0, _, _, _ => none
 | k + 1, x0, x3, x4 => if x0 = 0 then (if x3 = true then (if 1 + x4.size ≤ 9223372036854775807 then (some ((⟨#[45]⟩ : ByteArray) ++ x4)) else (none)) else (some x4)) else (if (Int.tmod x0 10) < 0 then ((some (([(wrap64 (48 + (wrap64 (-(Int.tmod x0 10))))) % 256] : List Int) : List Int)).bind fun y101 => (if (strOfNums y101).size + x4.size ≤ 9223372036854775807 then (spec_FormatInt.l0 k (wrap64 (Int.tdiv x0 10)) x3 ((strOfNums y101) ++ x4)) else (none))) else ((some (([(wrap64 (48 + (Int.tmod x0 10))) % 256] : List Int) : List Int)).bind fun y104 => (if (strOfNums y104).size + x4.size ≤ 9223372036854775807 then (spec_FormatInt.l0 k (wrap64 (Int.tdiv x0 10)) x3 ((strOfNums y104) ++ x4)) else (none))))
def spec_FormatInt.f (k : Nat) (a0 : Int) : Option (ByteArray) := if a0 = 0 then (some (⟨#[48]⟩ : ByteArray)) else (spec_FormatInt.l0 k a0 (decide (a0 < 0)) (⟨#[]⟩ : ByteArray))
set_option maxHeartbeats 8000000 in
set_option maxRecDepth 100000 in
theorem spec_FormatInt.calls (k : Nat) (a0 : Int) (r : ByteArray) (w : World) (h : spec_FormatInt.f k a0 = some r) :
  Calls Tryd.prog 11 #[.int .i64 a0] w fun e w' => e = .returned (.string r) ∧ Below w.heap.size w w' := by
 have HB := Aside0.mk (Below.refl w.heap.size w)
 have H : (if a0 = 0 then (some (⟨#[48]⟩ : ByteArray)) else (spec_FormatInt.l0 k a0 (decide (a0 < 0)) (⟨#[]⟩ : ByteArray))) = some r := h
 clear h
 by_cases c2 : a0 = 0
 ·rw [if_pos c2] at H
  have c2b0 := beq_iff_eq.mpr c2
  have c2b1 := bne_eq_false_iff_eq.mpr c2
  clear c2
  obtain rfl := Option.some.inj H
  go_enter Tryd.func11, Tryd.ntmps11
  go_wp2
  go_ret
  exact ⟨zE, zB⟩
 rw [if_neg c2] at H
 have c2b0 := beq_eq_false_iff_ne.mpr c2
 have c2b1 := bne_iff_ne.mpr c2
 have H' := Aside0.mk H; clear H
 go_enter Tryd.func11, Tryd.ntmps11
 go_wp2
 go_loopg [0, 4] k (fun kq v0 v4 w' => ∃ (x0_1 : Int) (x4_1 : ByteArray), v0 = .int .i64 x0_1 ∧ v4 = .string x4_1 ∧ Aside0 (spec_FormatInt.l0 kq x0_1 (decide (a0 < 0)) x4_1 = some r) ∧ Aside0 (kq ≤ k) ∧ Aside0 (Below w.heap.size w w'))
 case atStart => exact ⟨(a0), ((⟨#[]⟩ : ByteArray)), zF, zF, H', ⟨Nat.le_refl _⟩, ⟨zB⟩⟩
 case round =>
 clear H'
 try clear c2
 try clear c2b0
 try clear c2b1
 obtain ⟨x0_1, x4_1, rfl, rfl, HA, HK1, HB⟩ := hrel
 cases gk with
 | zero => exact absurd HA.out (by simp [spec_FormatInt.l0])
 | succ k1 =>
 have H := HA.out
 clear HA
 simp only [spec_FormatInt.l0] at H
 by_cases c3 : x0_1 = 0
 ·rw [if_pos c3] at H
  have c3b0 := beq_iff_eq.mpr c3
  have c3b1 := bne_eq_false_iff_eq.mpr c3
  clear c3
  by_cases c4 : (decide (a0 < 0)) = true
  ·rw [if_pos c4] at H
   have c4b0 : (decide (a0 < 0)) = true := c4
   clear c4
   by_cases c5 : 1 + x4_1.size ≤ 9223372036854775807
   ·rw [if_pos c5] at H
    have c5b0 := eq_true c5
    have c5b1 := decide_eq_true c5
    try have c5b2 : (9223372036854775807 < 1 + x4_1.size) = False := eq_false (Nat.not_lt.2 c5)
    obtain rfl := Option.some.inj H
    go_wp2
    all_goals first | (exfalso; have hdd := of_decide_eq_true c4b0; omega; done) | skip
    go_ret
    exact ⟨zE, zB⟩
   rw [if_neg c5] at H
   exact absurd H (by simp)
  rw [if_neg c4] at H
  have c4b0 : (decide (a0 < 0)) = false := by simpa using c4
  clear c4
  obtain rfl := Option.some.inj H
  go_wp2
  all_goals first | (exfalso; have hdd := of_decide_eq_false c4b0; omega; done) | skip
  go_ret
  exact ⟨zE, zB⟩
 rw [if_neg c3] at H
 have c3b0 := beq_eq_false_iff_ne.mpr c3
 have c3b1 := bne_iff_ne.mpr c3
 by_cases c6 : (Int.tmod x0_1 10) < 0
 ·rw [if_pos c6] at H
  have c6b0 := decide_eq_true c6
  clear c6
  obtain ⟨y101, hy101⟩ : ∃ y_ : List Int, y_ = (([(wrap64 (48 + (wrap64 (-(Int.tmod x0_1 10))))) % 256] : List Int)) := ⟨_, rfl⟩
  replace H : (if (strOfNums y101).size + x4_1.size ≤ 9223372036854775807 then (spec_FormatInt.l0 k1 (wrap64 (Int.tdiv x0_1 10)) (decide (a0 < 0)) ((strOfNums y101) ++ x4_1)) else (none)) = some r := by first | (rw [hy101]; with_reducible exact H) | (have H2_ := (Option.bind_some _ _).symm.trans H; rw [hy101]; with_reducible exact H2_) | (have H2_ := (Option.bind_some _ _).symm.trans H; with_reducible exact H2_) | with_reducible exact H | (rw [hy101]; exact H) | exact H
  have Ny101 := Aside0.mk hy101
  clear hy101
  by_cases c7 : (strOfNums y101).size + x4_1.size ≤ 9223372036854775807
  ·rw [if_pos c7] at H
   have c7b0 := eq_true c7
   have c7b1 := decide_eq_true c7
   try have c7b2 : (9223372036854775807 < (strOfNums y101).size + x4_1.size) = False := eq_false (Nat.not_lt.2 c7)
   have H' := Aside0.mk H; clear H
   go_wp2_with (first | ((with_reducible refine gate_dst (N := 21) rfl ?_); refine Kd.R_lit (Kd.int .u8) _ 5 ?hg (N := 21) ?hd (xs := ([(wrap64 (48 + (wrap64 (-(Int.tmod x0_1 10))))) % 256] : List Int)) (inner := [.int .u8 ((wrap64 (48 + (wrap64 (-(Int.tmod x0_1 10))))) % 256)]) (ok := fun _ => True) (okp := fun _ => True) ?hr ?hp (fun _ hk => hk) trivial (Below.refl _ _) (Nat.le_refl _) (by simp) ?_; (case hd => rfl); (case hg => rfl); (case hr => first | (go_simp; done) | (go_simp; rfl)); (case hp => exact (Reps.one (show Kd.M (Kd.int .u8) _ _ _ ((wrap64 (48 + (wrap64 (-(Int.tmod x0_1 10))))) % 256) [.int .u8 ((wrap64 (48 + (wrap64 (-(Int.tmod x0_1 10))))) % 256)] from rfl) (Reps.none _ _))); intro v102 w8 ho9 hb hg_ hnew_; clear hg_ hnew_; (first | rw [← Ny101.out] at ho9 | (simp only [Int.reduceToNat] at ho9; rw [← Ny101.out] at ho9)); have HO103 := Aside0.mk (Kd.R_lower ho9 (below_size zB)); replace HB := zX hb; clear hb ho9; have hcv10 := own_string (P := Tryd.prog) Tryd.underlying41 Tryd.underlying5 Tryd.underlying9 (Kd.own_of_R HO103.out)))
   go_roundg k1
   case measure => have := HK1.out; omega
   case rel => exact ⟨(wrap64 (Int.tdiv x0_1 10)), ((strOfNums y101) ++ x4_1), zF, zF, H', ⟨by have := HK1.out; omega⟩, ⟨zB⟩⟩
  rw [if_neg c7] at H
  exact absurd H (by simp)
 rw [if_neg c6] at H
 have c6b0 := decide_eq_false c6
 clear c6
 obtain ⟨y104, hy104⟩ : ∃ y_ : List Int, y_ = (([(wrap64 (48 + (Int.tmod x0_1 10))) % 256] : List Int)) := ⟨_, rfl⟩
 replace H : (if (strOfNums y104).size + x4_1.size ≤ 9223372036854775807 then (spec_FormatInt.l0 k1 (wrap64 (Int.tdiv x0_1 10)) (decide (a0 < 0)) ((strOfNums y104) ++ x4_1)) else (none)) = some r := by first | (rw [hy104]; with_reducible exact H) | (have H2_ := (Option.bind_some _ _).symm.trans H; rw [hy104]; with_reducible exact H2_) | (have H2_ := (Option.bind_some _ _).symm.trans H; with_reducible exact H2_) | with_reducible exact H | (rw [hy104]; exact H) | exact H
 have Ny104 := Aside0.mk hy104
 clear hy104
 by_cases c11 : (strOfNums y104).size + x4_1.size ≤ 9223372036854775807
 ·rw [if_pos c11] at H
  have c11b0 := eq_true c11
  have c11b1 := decide_eq_true c11
  try have c11b2 : (9223372036854775807 < (strOfNums y104).size + x4_1.size) = False := eq_false (Nat.not_lt.2 c11)
  have H' := Aside0.mk H; clear H
  go_wp2_with (first | ((with_reducible refine gate_dst (N := 21) rfl ?_); refine Kd.R_lit (Kd.int .u8) _ 5 ?hg (N := 21) ?hd (xs := ([(wrap64 (48 + (Int.tmod x0_1 10))) % 256] : List Int)) (inner := [.int .u8 ((wrap64 (48 + (Int.tmod x0_1 10))) % 256)]) (ok := fun _ => True) (okp := fun _ => True) ?hr ?hp (fun _ hk => hk) trivial (Below.refl _ _) (Nat.le_refl _) (by simp) ?_; (case hd => rfl); (case hg => rfl); (case hr => first | (go_simp; done) | (go_simp; rfl)); (case hp => exact (Reps.one (show Kd.M (Kd.int .u8) _ _ _ ((wrap64 (48 + (Int.tmod x0_1 10))) % 256) [.int .u8 ((wrap64 (48 + (Int.tmod x0_1 10))) % 256)] from rfl) (Reps.none _ _))); intro v105 w12 ho13 hb hg_ hnew_; clear hg_ hnew_; (first | rw [← Ny104.out] at ho13 | (simp only [Int.reduceToNat] at ho13; rw [← Ny104.out] at ho13)); have HO106 := Aside0.mk (Kd.R_lower ho13 (below_size zB)); replace HB := zX hb; clear hb ho13; have hcv14 := own_string (P := Tryd.prog) Tryd.underlying41 Tryd.underlying5 Tryd.underlying9 (Kd.own_of_R HO106.out)))
  go_roundg k1
  case measure => have := HK1.out; omega
  case rel => exact ⟨(wrap64 (Int.tdiv x0_1 10)), ((strOfNums y104) ++ x4_1), zF, zF, H', ⟨by have := HK1.out; omega⟩, ⟨zB⟩⟩
 rw [if_neg c11] at H
 exact absurd H (by simp)
/-! ### spec_l1In: function 55 -/
def spec_l1In.f (a0 : Int) (a1 : Int) (a2 : Int) : Option (Bool) := if a0 ≥ a1 then (some (decide (a0 ≤ a2))) else (some false)
set_option maxHeartbeats 8000000 in
set_option maxRecDepth 100000 in
theorem spec_l1In.calls (a0 : Int) (a1 : Int) (a2 : Int) (r : Bool) (w : World) (h : spec_l1In.f a0 a1 a2 = some r) :
  Calls Tryd.prog 55 #[.int .i64 a0, .int .i64 a1, .int .i64 a2] w fun e w' => e = .returned (.bool r) ∧ Drawn0 w w' := by
 have H : (if a0 ≥ a1 then (some (decide (a0 ≤ a2))) else (some false)) = some r := h
 clear h
 by_cases c4 : a0 ≥ a1
 ·rw [if_pos c4] at H
  have c4b0 : decide (a1 ≤ a0) = true := decide_eq_true c4
  clear c4
  obtain rfl := Option.some.inj H
  go_enter Tryd.func55, Tryd.ntmps55
  go_wp2
  go_ret
  exact ⟨by first | rfl | (simp; done) | (simp [*]; done), by repeat (first | exact Drawn0.refl _ | apply Drawn0.step)⟩
 rw [if_neg c4] at H
 have c4b0 : decide (a1 ≤ a0) = false := decide_eq_false c4
 clear c4
 obtain rfl := Option.some.inj H
 go_enter Tryd.func55, Tryd.ntmps55
 go_wp2
 go_ret
 exact ⟨by first | rfl | (simp; done) | (simp [*]; done), by repeat (first | exact Drawn0.refl _ | apply Drawn0.step)⟩
/-! ### spec_AreSigns: function 37 -/
mutual
def spec_AreSigns.j0 : Nat → Bool → Int → ByteArray → Option (Bool)
 | 0, _, _, _ => none
 | k + 1, x24, x130000, x130001 => if x24 = true then (some false) else (spec_AreSigns.l0 k 0 x130000 x130001)
def spec_AreSigns.l0 : Nat → Int → Int → ByteArray → Option (Bool)
 | 0, _, _, _ => none
 | k + 1, x3, x130000, x130001 => if x3 < (x130001.size : Int) then (if 0 ≤ x3 then (if (bt x130001 x3) = 43 then (spec_AreSigns.l0 k (wrap64 (x3 + 1)) x130000 x130001) else (if (bt x130001 x3) = 45 then (spec_AreSigns.l0 k (wrap64 (x3 + 1)) x130000 x130001) else (some false))) else (none)) else (some true)
end
def spec_AreSigns.f (k : Nat) (a0_0 : Int) (a0_1 : ByteArray) : Option (Bool) := (spec_l1In.f a0_0 3 7).bind fun t130 => (if t130 = true then (spec_AreSigns.j0 k ((a0_1.size : Int) != (wrap64 (Int.tdiv (wrap64 ((wrap64 (a0_0 * (wrap64 (a0_0 - 1)))) * (wrap64 (a0_0 - 2)))) 6))) a0_0 a0_1) else (spec_AreSigns.j0 k true a0_0 a0_1))
set_option maxHeartbeats 8000000 in
set_option maxRecDepth 100000 in
theorem spec_AreSigns.calls (k : Nat) (a0_0 : Int) (a0_1 : ByteArray) (r : Bool) (w : World) (h : spec_AreSigns.f k a0_0 a0_1 = some r) :
  Calls Tryd.prog 37 #[.agg #[.int .i64 a0_0, .string a0_1]] w fun e w' => e = .returned (.bool r) ∧ Below w.heap.size w w' := by
 have hu28 := Tryd.underlying28
 have HB := Aside0.mk (Below.refl w.heap.size w)
 have H : ((spec_l1In.f a0_0 3 7).bind fun t130 => (if t130 = true then (spec_AreSigns.j0 k ((a0_1.size : Int) != (wrap64 (Int.tdiv (wrap64 ((wrap64 (a0_0 * (wrap64 (a0_0 - 1)))) * (wrap64 (a0_0 - 2)))) 6))) a0_0 a0_1) else (spec_AreSigns.j0 k true a0_0 a0_1))) = some r := h
 clear h
 have HC2 := Aside0.mk H
 clear H
 go_enter Tryd.func37, Tryd.ntmps37
 go_upto_region 1 with (first | ((with_reducible refine gate_dst (N := 1) rfl ?_); (try (refine gate_guard (by rfl) ?_; dsimp only)); refine zBx (N := 1) #[.int .i64 a0_0, .string a0_1] 28 ?_; intro gb129 hg w3 hbox hb; have BK129 := Aside0.mk (hbox); have GW129 := zS hg; have GE129 := zS hg; replace HB := zX hb; clear hb hbox hg))
 (try simp only [Act.put, List.setIfInBounds_toArray, List.set_cons_zero, List.set_cons_succ])
 go_cut [24] (fun v24 wc => ∃ (kq : Nat) (x24_1 : Bool), v24 = .bool x24_1 ∧ Aside0 (spec_AreSigns.j0 kq x24_1 a0_0 a0_1 = some r) ∧ Aside0 (kq ≤ k) ∧ Aside0 (wc.heap[gb129]? = some (.cells #[.int .i64 a0_0, .string a0_1] 28 (0, 0))) ∧ Aside0 (Below w.heap.size w wc))
 case first =>
  have H := HC2.out
  clear HC2
  obtain ⟨t130, A4, H⟩ := zO H
  by_cases c5 : t130 = true
  ·subst c5
   replace H := (if_pos rfl).symm.trans H
   have H' := Aside0.mk H; clear H
   obtain ⟨hcz6_0, hcz6_1, hfz6_0, hfz6_1⟩ := zq2 BK129.out
   go_wp2_with (first | ((with_reducible refine gate_callee (f := 55) rfl ?_); refine zD (some 6) Tryd.func55 #[.int .i64 a0_0, .int .i64 3, .int .i64 7] ?_; (with_reducible refine (spec_l1In.calls a0_0 3 7 true _ A4.out).mono ?_); rintro e w' ⟨rfl, ⟨nd, rfl⟩⟩; refine ⟨_, rfl, ?_⟩))
   go_meet
   case rel => exact ⟨_, (((a0_1.size : Int) != (wrap64 (Int.tdiv (wrap64 ((wrap64 (a0_0 * (wrap64 (a0_0 - 1)))) * (wrap64 (a0_0 - 2)))) 6)))), zF, H', ⟨by first | omega | exact Nat.le_refl _⟩, ⟨zK BK129.out⟩, ⟨zG GE129.out⟩⟩
  replace c5 := Bool.eq_false_iff.mpr c5
  subst c5
  replace H := (if_neg zFf).symm.trans H
  have H' := Aside0.mk H; clear H
  obtain ⟨hcz7_0, hcz7_1, hfz7_0, hfz7_1⟩ := zq2 BK129.out
  go_wp2_with (first | ((with_reducible refine gate_callee (f := 55) rfl ?_); refine zD (some 6) Tryd.func55 #[.int .i64 a0_0, .int .i64 3, .int .i64 7] ?_; (with_reducible refine (spec_l1In.calls a0_0 3 7 false _ A4.out).mono ?_); rintro e w' ⟨rfl, ⟨nd, rfl⟩⟩; refine ⟨_, rfl, ?_⟩))
  go_meet
  case rel => exact ⟨_, (true), zF, H', ⟨by first | omega | exact Nat.le_refl _⟩, ⟨zK BK129.out⟩, ⟨zG GE129.out⟩⟩
 case rest =>
 clear HC2
 obtain ⟨kq, x24_1, rfl, HA, HJ1, BK129, HB⟩ := hcut
 cases kq with
 | zero => exact absurd HA.out (by simp [spec_AreSigns.j0])
 | succ kj1 =>
 have H := HA.out
 clear HA
 simp only [spec_AreSigns.j0] at H
 by_cases c8 : x24_1 = true
 ·subst c8
  replace H := (if_pos rfl).symm.trans H
  obtain rfl := Option.some.inj H
  go_wp2
  go_ret
  exact ⟨zE, zG GE129.out⟩
 replace c8 := Bool.eq_false_iff.mpr c8
 subst c8
 replace H := (if_neg zFf).symm.trans H
 have H' := Aside0.mk H; clear H
 go_wp2
 go_loopg [3] kj1 (fun kq v3 w' => ∃ (x3_2 : Int), v3 = .int .i64 x3_2 ∧ Aside0 (spec_AreSigns.l0 kq x3_2 a0_0 a0_1 = some r) ∧ Aside0 (kq ≤ kj1) ∧ Aside0 (w'.heap[gb129]? = some (.cells #[.int .i64 a0_0, .string a0_1] 28 (0, 0))) ∧ Aside0 (Below w.heap.size w w'))
 case atStart => exact ⟨(0), zF, H', ⟨Nat.le_refl _⟩, ⟨zK BK129.out⟩, ⟨zG GE129.out⟩⟩
 case round =>
 clear H'
 try clear c8
 obtain ⟨x3_2, rfl, HA, HK2, BK129, HB⟩ := hrel
 cases gk with
 | zero => exact absurd HA.out (by simp [spec_AreSigns.l0])
 | succ k2 =>
 have H := HA.out
 clear HA
 simp only [spec_AreSigns.l0] at H
 by_cases c9 : x3_2 < (a0_1.size : Int)
 ·rw [if_pos c9] at H
  have c9b0 := decide_eq_true c9
  clear c9
  by_cases c10 : 0 ≤ x3_2
  ·rw [if_pos c10] at H
   have c10b0 := decide_eq_true c10
   clear c10
   by_cases c12 : (bt a0_1 x3_2) = 43
   ·rw [if_pos c12] at H
    have c12b0 := beq_iff_eq.mpr c12
    have c12b1 := bne_eq_false_iff_eq.mpr c12
    clear c12
    have H' := Aside0.mk H; clear H
    obtain ⟨hcz13_0, hcz13_1, hfz13_0, hfz13_1⟩ := zq2 BK129.out
    have p11 : 0 ≤ (x3_2 : Int) := zA
    have q11 : x3_2 < (a0_1.size : Int) := zA
    have hx11 := bt_at a0_1 x3_2
    replace p11 := eq_true p11
    replace q11 := eq_true q11
    go_wp2
    go_roundg k2
    case measure => have := HJ1.out; have := HK2.out; omega
    case rel => exact ⟨(wrap64 (x3_2 + 1)), zF, H', ⟨by have := HJ1.out; have := HK2.out; omega⟩, ⟨zK BK129.out⟩, ⟨zG GE129.out⟩⟩
   rw [if_neg c12] at H
   have c12b0 := beq_eq_false_iff_ne.mpr c12
   have c12b1 := bne_iff_ne.mpr c12
   by_cases c15 : (bt a0_1 x3_2) = 45
   ·rw [if_pos c15] at H
    have c15b0 := beq_iff_eq.mpr c15
    have c15b1 := bne_eq_false_iff_eq.mpr c15
    clear c15
    have H' := Aside0.mk H; clear H
    obtain ⟨hcz16_0, hcz16_1, hfz16_0, hfz16_1⟩ := zq2 BK129.out
    have p11 : 0 ≤ (x3_2 : Int) := zA
    have q11 : x3_2 < (a0_1.size : Int) := zA
    have hx11 := bt_at a0_1 x3_2
    replace p11 := eq_true p11
    replace q11 := eq_true q11
    have p14 : 0 ≤ (x3_2 : Int) := zA
    have q14 : x3_2 < (a0_1.size : Int) := zA
    have hx14 := bt_at a0_1 x3_2
    replace p14 := eq_true p14
    replace q14 := eq_true q14
    go_wp2
    go_roundg k2
    case measure => have := HJ1.out; have := HK2.out; omega
    case rel => exact ⟨(wrap64 (x3_2 + 1)), zF, H', ⟨by have := HJ1.out; have := HK2.out; omega⟩, ⟨zK BK129.out⟩, ⟨zG GE129.out⟩⟩
   rw [if_neg c15] at H
   have c15b0 := beq_eq_false_iff_ne.mpr c15
   have c15b1 := bne_iff_ne.mpr c15
   obtain rfl := Option.some.inj H
   obtain ⟨hcz17_0, hcz17_1, hfz17_0, hfz17_1⟩ := zq2 BK129.out
   have p11 : 0 ≤ (x3_2 : Int) := zA
   have q11 : x3_2 < (a0_1.size : Int) := zA
   have hx11 := bt_at a0_1 x3_2
   replace p11 := eq_true p11
   replace q11 := eq_true q11
   have p14 : 0 ≤ (x3_2 : Int) := zA
   have q14 : x3_2 < (a0_1.size : Int) := zA
   have hx14 := bt_at a0_1 x3_2
   replace p14 := eq_true p14
   replace q14 := eq_true q14
   go_wp2
   go_ret
   exact ⟨zE, zG GE129.out⟩
  rw [if_neg c10] at H
  exact absurd H (by simp)
 rw [if_neg c9] at H
 have c9b0 := decide_eq_false c9
 clear c9
 obtain rfl := Option.some.inj H
 obtain ⟨hcz18_0, hcz18_1, hfz18_0, hfz18_1⟩ := zq2 BK129.out
 go_wp2
 go_ret
 exact ⟨zE, zG GE129.out⟩
/-! ### spec_SignsText: function 14 -/
def spec_SignsText.f (k : Nat) (a0_0 : Int) (a0_1 : ByteArray) : Option (ByteArray) := (spec_AreSigns.f k a0_0 a0_1).bind fun t132 => (if t132 = true then ((spec_FormatInt.f k a0_0).bind fun t133 => (if t133.size + 1 ≤ 9223372036854775807 then (if t133.size + 1 + a0_1.size ≤ 9223372036854775807 then (some ((t133 ++ (⟨#[58]⟩ : ByteArray)) ++ a0_1)) else (none)) else (none))) else (some (⟨#[]⟩ : ByteArray)))
def spec_SignsText.T3 : Bool × List (List Nat × List Nat) := (true, [([], []), ([0], [0]), ([1], [1]), ([2], [2]), ([], []), ([4], [4]), ([3, 5], [3, 5]), ([6, 2, 0, 1, 2, 3, 4, 5, 6], [6])])
def spec_SignsText.B3 : List Nat := [0, 1, 3, 7, 0, 16, 63, 127]
theorem spec_SignsText.tab3 : rtab .any (opsOf Tryd.f14 3) = spec_SignsText.T3 := by kernel_rfl
theorem spec_SignsText.bits3 : waitsOk spec_SignsText.T3.2 spec_SignsText.B3 = true := by kernel_rfl
set_option maxHeartbeats 8000000 in
set_option maxRecDepth 100000 in
theorem spec_SignsText.calls (k : Nat) (a0_0 : Int) (a0_1 : ByteArray) (r : ByteArray) (w : World) (h : spec_SignsText.f k a0_0 a0_1 = some r) :
  Calls Tryd.prog 14 #[.agg #[.int .i64 a0_0, .string a0_1]] w fun e w' => e = .returned (.string r) ∧ Below w.heap.size w w' := by
 have hu28 := Tryd.underlying28
 have HB := Aside0.mk (Below.refl w.heap.size w)
 have H : ((spec_AreSigns.f k a0_0 a0_1).bind fun t132 => (if t132 = true then ((spec_FormatInt.f k a0_0).bind fun t133 => (if t133.size + 1 ≤ 9223372036854775807 then (if t133.size + 1 + a0_1.size ≤ 9223372036854775807 then (some ((t133 ++ (⟨#[58]⟩ : ByteArray)) ++ a0_1)) else (none)) else (none))) else (some (⟨#[]⟩ : ByteArray)))) = some r := h
 clear h
 obtain ⟨t132, A2, H⟩ := zO H
 by_cases c3 : t132 = true
 ·subst c3
  replace H := (if_pos rfl).symm.trans H
  obtain ⟨t133, A4, H⟩ := zO H
  by_cases c5 : t133.size + 1 ≤ 9223372036854775807
  ·rw [if_pos c5] at H
   have c5b0 := eq_true c5
   have c5b1 := decide_eq_true c5
   try have c5b2 : (9223372036854775807 < t133.size + 1) = False := eq_false (Nat.not_lt.2 c5)
   by_cases c6 : t133.size + 1 + a0_1.size ≤ 9223372036854775807
   ·rw [if_pos c6] at H
    have c6b0 := eq_true c6
    have c6b1 := decide_eq_true c6
    try have c6b2 : (9223372036854775807 < t133.size + 1 + a0_1.size) = False := eq_false (Nat.not_lt.2 c6)
    obtain rfl := Option.some.inj H
    go_enter Tryd.func14, Tryd.ntmps14
    try go_wp2_with (first | ((with_reducible refine gate_dst (N := 1) rfl ?_); refine zBx (N := 1) #[.int .i64 a0_0, .string a0_1] 28 ?_; intro gb131 hg w7 hbox hb; have BK131 := Aside0.mk (hbox); have GW131 := zS hg; have GE131 := zS hg; replace HB := zX hb; clear hb hbox hg; obtain ⟨hcz8_0, hcz8_1, hfz8_0, hfz8_1⟩ := zq2 BK131.out) | ((with_reducible refine gate_callee (f := 37) rfl ?_); refine zD (some 4) Tryd.func37 #[.agg #[.int .i64 a0_0, .string a0_1]] ?_; (with_reducible refine (spec_AreSigns.calls k a0_0 a0_1 true _ A2.out).mono ?_); rintro e w9 ⟨rfl, hb⟩; refine ⟨_, rfl, ?_⟩; replace BK131 := zV BK131.out hb; replace HB := zX1 GE131.out hb; (try clear hb)))
    replace BK131 := Aside0.mk (blk_drew BK131.out)
    replace HB := Aside0.mk (below_drew1 HB.out)
    refine start_ (n := 8) (S := fun w' => w'.cell? ⟨gb131, 0, none⟩ = some (.int .i64 a0_0) ∧ w'.cell? ⟨gb131, 1, none⟩ = some (.string a0_1)) (ds := []) #[false, false, false, false, false, false, false, false] (by kernel_rfl) rfl rfl ⟨(blk_cell BK131.out 0).trans rfl, (blk_cell BK131.out 1).trans rfl⟩ (fun hHeld => ?_); refine with_tabW spec_SignsText.tab3 spec_SignsText.bits3 (fun HT_ HW_ => ?_)
    generalize w9.drew = w10 at BK131 HB hHeld ⊢
    refine zP 0 (some 6) rfl rfl ?_
    refine zP 4 (some 10) rfl rfl ?_
    refine zY2 1 (some 7) rfl rfl hHeld ?_
    refine zY2 5 (some 11) rfl rfl hHeld ?_
    refine zU 2 (some 8) rfl rfl (fun K hK => ?_)
    refine goes_ Tryd.func11 (by kernel_rfl) rfl #[.int .i64 a0_0] (by rfl) rfl rfl zM ?_
    with_reducible refine (spec_FormatInt.calls k a0_0 t133 _ A4.out).mono ?_
    rintro e w11 ⟨rfl, hb⟩
    refine ⟨_, rfl, ?_⟩
    replace BK131 := zV BK131.out hb
    replace HB := zX1 GE131.out hb
    (try clear hb)
    refine hK.out _ _ (zh2 BK131.out) (fun hHeld => ?_)
    clear hK K
    refine zN ?_
    refine zP 3 (some 9) rfl rfl ?_
    refine zP 6 (some 12) rfl rfl ?_
    refine zP 7 (some 2) rfl rfl ?_
    refine done_ (done_of HT_.out (by kernel_rfl)) ?_
    try go_wp2
    go_ret
    exact ⟨zE, zG GE131.out⟩
   rw [if_neg c6] at H
   exact absurd H (by simp)
  rw [if_neg c5] at H
  exact absurd H (by simp)
 replace c3 := Bool.eq_false_iff.mpr c3
 subst c3
 replace H := (if_neg zFf).symm.trans H
 obtain rfl := Option.some.inj H
 go_enter Tryd.func14, Tryd.ntmps14
 go_wp2_with (first | ((with_reducible refine gate_dst (N := 1) rfl ?_); refine zBx (N := 1) #[.int .i64 a0_0, .string a0_1] 28 ?_; intro gb131 hg w12 hbox hb; have BK131 := Aside0.mk (hbox); have GW131 := zS hg; have GE131 := zS hg; replace HB := zX hb; clear hb hbox hg; obtain ⟨hcz13_0, hcz13_1, hfz13_0, hfz13_1⟩ := zq2 BK131.out) | ((with_reducible refine gate_callee (f := 37) rfl ?_); refine zD (some 4) Tryd.func37 #[.agg #[.int .i64 a0_0, .string a0_1]] ?_; (with_reducible refine (spec_AreSigns.calls k a0_0 a0_1 false _ A2.out).mono ?_); rintro e w14 ⟨rfl, hb⟩; refine ⟨_, rfl, ?_⟩; replace BK131 := zV BK131.out hb; replace HB := zX1 GE131.out hb; (try clear hb)))
 go_ret
 exact ⟨zE, zG GE131.out⟩
/-! ### laws_toSigns: function 15 -/
def laws_toSigns.f (a0_0 : Int) (a0_1 : ByteArray) : Option (Int × ByteArray) := some (a0_0, a0_1)
set_option maxHeartbeats 8000000 in
set_option maxRecDepth 100000 in
theorem laws_toSigns.calls (a0_0 : Int) (a0_1 : ByteArray) (r1 : Int) (r2 : ByteArray) (w : World) (h : laws_toSigns.f a0_0 a0_1 = some (r1, r2)) :
  Calls Tryd.prog 15 #[.agg #[.int .i64 a0_0, .string a0_1]] w fun e w' => e = .returned (.agg #[.int .i64 r1, .string r2]) ∧ Below w.heap.size w w' := by
 have hu25 := Tryd.underlying25
 have hu28 := Tryd.underlying28
 have HB := Aside0.mk (Below.refl w.heap.size w)
 have H : (some (a0_0, a0_1)) = some (r1, r2) := h
 clear h
 simp only [Option.some.injEq, Prod.mk.injEq] at H
 obtain ⟨rfl, rfl⟩ := H
 go_enter Tryd.func15, Tryd.ntmps15
 go_wp2_with (first | ((with_reducible refine gate_dst (N := 1) rfl ?_); refine zBx (N := 1) #[.int .i64 a0_0, .string a0_1] 25 ?_; intro gb134 hg w2 hbox hb; have BK134 := Aside0.mk (hbox); have GW134 := zS hg; have GE134 := zS hg; replace HB := zX hb; clear hb hbox hg) | ((with_reducible refine gate_dst (N := 2) rfl ?_); refine zBx (N := 2) #[.int .i64 0, .string (⟨#[]⟩ : ByteArray)] 28 ?_; intro gb135 hg w3 hbox hb; have BK135 := Aside0.mk (hbox); have GW135 := zSg hg (zG GE134.out); have GE135 := zSg hg (zG GE134.out); have NB134_135 := zL hg BK134.out; have NB135_134 := zLg hg BK134.out; replace BK134 := zV BK134.out hb; replace HB := zX1 GE134.out hb; clear hb hbox hg) | ((with_reducible refine gate_dst (N := 3) rfl ?_); refine zBx (N := 3) #[.int .i64 0, .string (⟨#[]⟩ : ByteArray)] 28 ?_; intro gb136 hg w4 hbox hb; have BK136 := Aside0.mk (hbox); have GW136 := zSg hg (zG2 GE134.out GE135.out); have GE136 := zSg hg (zG2 GE134.out GE135.out); have NB134_136 := zL hg BK134.out; have NB136_134 := zLg hg BK134.out; replace BK134 := zV BK134.out hb; have NB135_136 := zL hg BK135.out; have NB136_135 := zLg hg BK135.out; replace BK135 := zV BK135.out hb; replace HB := Aside0.mk (below_step (zG2 GE134.out GE135.out) hb); clear hb hbox hg; have hnb5 := NB134_135.out; have hnc5 := NB135_134.out; have hnb6 := NB134_136.out; have hnc6 := NB136_134.out; obtain ⟨hcz7_0, hcz7_1, hfz7_0, hfz7_1⟩ := zq2 BK134.out; have hnb8 := NB136_135.out; have hnc8 := NB135_136.out; obtain ⟨hcz9_0, hcz9_1, hfz9_0, hfz9_1⟩ := zq2 BK136.out; obtain ⟨hcz10_0, hcz10_1, hfz10_0, hfz10_1⟩ := zq2 BK135.out))
 refine bodyPost_ret (results_cell_row rfl _ _ gb135 28 #[.int .i64 a0_0, .string a0_1] (0, 0) _ rfl (zk2 BK135.out NB135_136.out NB135_136.out) Tryd.underlying28 rfl (by kernel_rfl)) rfl ?_
 exact ⟨zE, zG3 GE134.out GE135.out GE136.out⟩
/-! ### impl_AreSigns: function 38 -/
mutual
def impl_AreSigns.j0 : Nat → Bool → Int → ByteArray → Option (Bool)
 | 0, _, _, _ => none
 | k + 1, x28, x138000, x138001 => if x28 = true then (some false) else (impl_AreSigns.l0 k 0 x138000 x138001)
def impl_AreSigns.l0 : Nat → Int → Int → ByteArray → Option (Bool)
 | 0, _, _, _ => none
 | k + 1, x3, x138000, x138001 => if x3 < (x138001.size : Int) then (if 0 ≤ x3 then (if (bt x138001 x3) = 43 then (impl_AreSigns.l0 k (wrap64 (x3 + 1)) x138000 x138001) else (if (bt x138001 x3) = 45 then (impl_AreSigns.l0 k (wrap64 (x3 + 1)) x138000 x138001) else (some false))) else (none)) else (some true)
end
def impl_AreSigns.f (k : Nat) (a0_0 : Int) (a0_1 : ByteArray) : Option (Bool) := if a0_0 < 3 then (impl_AreSigns.j0 k true a0_0 a0_1) else (if a0_0 > 7 then (impl_AreSigns.j0 k true a0_0 a0_1) else (impl_AreSigns.j0 k ((a0_1.size : Int) != (wrap64 (Int.tdiv (wrap64 ((wrap64 (a0_0 * (wrap64 (a0_0 - 1)))) * (wrap64 (a0_0 - 2)))) 6))) a0_0 a0_1))
set_option maxHeartbeats 8000000 in
set_option maxRecDepth 100000 in
theorem impl_AreSigns.calls (k : Nat) (a0_0 : Int) (a0_1 : ByteArray) (r : Bool) (w : World) (h : impl_AreSigns.f k a0_0 a0_1 = some r) :
  Calls Tryd.prog 38 #[.agg #[.int .i64 a0_0, .string a0_1]] w fun e w' => e = .returned (.bool r) ∧ Below w.heap.size w w' := by
 have hu28 := Tryd.underlying28
 have HB := Aside0.mk (Below.refl w.heap.size w)
 have H : (if a0_0 < 3 then (impl_AreSigns.j0 k true a0_0 a0_1) else (if a0_0 > 7 then (impl_AreSigns.j0 k true a0_0 a0_1) else (impl_AreSigns.j0 k ((a0_1.size : Int) != (wrap64 (Int.tdiv (wrap64 ((wrap64 (a0_0 * (wrap64 (a0_0 - 1)))) * (wrap64 (a0_0 - 2)))) 6))) a0_0 a0_1))) = some r := h
 clear h
 have HC2 := Aside0.mk H
 clear H
 go_enter Tryd.func38, Tryd.ntmps38
 go_upto_region 1 with (first | ((with_reducible refine gate_dst (N := 1) rfl ?_); (try (refine gate_guard (by rfl) ?_; dsimp only)); refine zBx (N := 1) #[.int .i64 a0_0, .string a0_1] 28 ?_; intro gb137 hg w3 hbox hb; have BK137 := Aside0.mk (hbox); have GW137 := zS hg; have GE137 := zS hg; replace HB := zX hb; clear hb hbox hg))
 (try simp only [Act.put, List.setIfInBounds_toArray, List.set_cons_zero, List.set_cons_succ])
 go_cut [28] (fun v28 wc => ∃ (kq : Nat) (x28_1 : Bool), v28 = .bool x28_1 ∧ Aside0 (impl_AreSigns.j0 kq x28_1 a0_0 a0_1 = some r) ∧ Aside0 (kq ≤ k) ∧ Aside0 (wc.heap[gb137]? = some (.cells #[.int .i64 a0_0, .string a0_1] 28 (0, 0))) ∧ Aside0 (Below w.heap.size w wc))
 case first =>
  have H := HC2.out
  clear HC2
  by_cases c4 : a0_0 < 3
  ·rw [if_pos c4] at H
   have c4b0 := decide_eq_true c4
   clear c4
   (first | rw [c4b0] | (simp only [i64_w, i32_w]; rw [c4b0]) | skip)
   have H' := Aside0.mk H; clear H
   obtain ⟨hcz5_0, hcz5_1, hfz5_0, hfz5_1⟩ := zq2 BK137.out
   go_wp2
   go_meet
   case rel => exact ⟨_, (true), zF, H', ⟨by first | omega | exact Nat.le_refl _⟩, ⟨zK BK137.out⟩, ⟨zG GE137.out⟩⟩
  rw [if_neg c4] at H
  have c4b0 := decide_eq_false c4
  clear c4
  (first | rw [c4b0] | (simp only [i64_w, i32_w]; rw [c4b0]) | skip)
  by_cases c6 : a0_0 > 7
  ·rw [if_pos c6] at H
   have c6b0 : decide (7 < a0_0) = true := decide_eq_true c6
   clear c6
   have H' := Aside0.mk H; clear H
   obtain ⟨hcz7_0, hcz7_1, hfz7_0, hfz7_1⟩ := zq2 BK137.out
   go_wp2
   go_meet
   case rel => exact ⟨_, (true), zF, H', ⟨by first | omega | exact Nat.le_refl _⟩, ⟨zK BK137.out⟩, ⟨zG GE137.out⟩⟩
  rw [if_neg c6] at H
  have c6b0 : decide (7 < a0_0) = false := decide_eq_false c6
  clear c6
  have H' := Aside0.mk H; clear H
  obtain ⟨hcz8_0, hcz8_1, hfz8_0, hfz8_1⟩ := zq2 BK137.out
  go_wp2
  go_meet
  case rel => exact ⟨_, (((a0_1.size : Int) != (wrap64 (Int.tdiv (wrap64 ((wrap64 (a0_0 * (wrap64 (a0_0 - 1)))) * (wrap64 (a0_0 - 2)))) 6)))), zF, H', ⟨by first | omega | exact Nat.le_refl _⟩, ⟨zK BK137.out⟩, ⟨zG GE137.out⟩⟩
 case rest =>
 clear HC2
 obtain ⟨kq, x28_1, rfl, HA, HJ1, BK137, HB⟩ := hcut
 cases kq with
 | zero => exact absurd HA.out (by simp [impl_AreSigns.j0])
 | succ kj1 =>
 have H := HA.out
 clear HA
 simp only [impl_AreSigns.j0] at H
 by_cases c9 : x28_1 = true
 ·subst c9
  replace H := (if_pos rfl).symm.trans H
  obtain rfl := Option.some.inj H
  go_wp2
  go_ret
  exact ⟨zE, zG GE137.out⟩
 replace c9 := Bool.eq_false_iff.mpr c9
 subst c9
 replace H := (if_neg zFf).symm.trans H
 have H' := Aside0.mk H; clear H
 go_wp2
 go_loopg [3] kj1 (fun kq v3 w' => ∃ (x3_2 : Int), v3 = .int .i64 x3_2 ∧ Aside0 (impl_AreSigns.l0 kq x3_2 a0_0 a0_1 = some r) ∧ Aside0 (kq ≤ kj1) ∧ Aside0 (w'.heap[gb137]? = some (.cells #[.int .i64 a0_0, .string a0_1] 28 (0, 0))) ∧ Aside0 (Below w.heap.size w w'))
 case atStart => exact ⟨(0), zF, H', ⟨Nat.le_refl _⟩, ⟨zK BK137.out⟩, ⟨zG GE137.out⟩⟩
 case round =>
 clear H'
 try clear c9
 obtain ⟨x3_2, rfl, HA, HK2, BK137, HB⟩ := hrel
 cases gk with
 | zero => exact absurd HA.out (by simp [impl_AreSigns.l0])
 | succ k2 =>
 have H := HA.out
 clear HA
 simp only [impl_AreSigns.l0] at H
 by_cases c10 : x3_2 < (a0_1.size : Int)
 ·rw [if_pos c10] at H
  have c10b0 := decide_eq_true c10
  clear c10
  by_cases c11 : 0 ≤ x3_2
  ·rw [if_pos c11] at H
   have c11b0 := decide_eq_true c11
   clear c11
   by_cases c13 : (bt a0_1 x3_2) = 43
   ·rw [if_pos c13] at H
    have c13b0 := beq_iff_eq.mpr c13
    have c13b1 := bne_eq_false_iff_eq.mpr c13
    clear c13
    have H' := Aside0.mk H; clear H
    obtain ⟨hcz14_0, hcz14_1, hfz14_0, hfz14_1⟩ := zq2 BK137.out
    have p12 : 0 ≤ (x3_2 : Int) := zA
    have q12 : x3_2 < (a0_1.size : Int) := zA
    have hx12 := bt_at a0_1 x3_2
    replace p12 := eq_true p12
    replace q12 := eq_true q12
    go_wp2
    go_roundg k2
    case measure => have := HJ1.out; have := HK2.out; omega
    case rel => exact ⟨(wrap64 (x3_2 + 1)), zF, H', ⟨by have := HJ1.out; have := HK2.out; omega⟩, ⟨zK BK137.out⟩, ⟨zG GE137.out⟩⟩
   rw [if_neg c13] at H
   have c13b0 := beq_eq_false_iff_ne.mpr c13
   have c13b1 := bne_iff_ne.mpr c13
   by_cases c16 : (bt a0_1 x3_2) = 45
   ·rw [if_pos c16] at H
    have c16b0 := beq_iff_eq.mpr c16
    have c16b1 := bne_eq_false_iff_eq.mpr c16
    clear c16
    have H' := Aside0.mk H; clear H
    obtain ⟨hcz17_0, hcz17_1, hfz17_0, hfz17_1⟩ := zq2 BK137.out
    have p12 : 0 ≤ (x3_2 : Int) := zA
    have q12 : x3_2 < (a0_1.size : Int) := zA
    have hx12 := bt_at a0_1 x3_2
    replace p12 := eq_true p12
    replace q12 := eq_true q12
    have p15 : 0 ≤ (x3_2 : Int) := zA
    have q15 : x3_2 < (a0_1.size : Int) := zA
    have hx15 := bt_at a0_1 x3_2
    replace p15 := eq_true p15
    replace q15 := eq_true q15
    go_wp2
    go_roundg k2
    case measure => have := HJ1.out; have := HK2.out; omega
    case rel => exact ⟨(wrap64 (x3_2 + 1)), zF, H', ⟨by have := HJ1.out; have := HK2.out; omega⟩, ⟨zK BK137.out⟩, ⟨zG GE137.out⟩⟩
   rw [if_neg c16] at H
   have c16b0 := beq_eq_false_iff_ne.mpr c16
   have c16b1 := bne_iff_ne.mpr c16
   obtain rfl := Option.some.inj H
   obtain ⟨hcz18_0, hcz18_1, hfz18_0, hfz18_1⟩ := zq2 BK137.out
   have p12 : 0 ≤ (x3_2 : Int) := zA
   have q12 : x3_2 < (a0_1.size : Int) := zA
   have hx12 := bt_at a0_1 x3_2
   replace p12 := eq_true p12
   replace q12 := eq_true q12
   have p15 : 0 ≤ (x3_2 : Int) := zA
   have q15 : x3_2 < (a0_1.size : Int) := zA
   have hx15 := bt_at a0_1 x3_2
   replace p15 := eq_true p15
   replace q15 := eq_true q15
   go_wp2
   go_ret
   exact ⟨zE, zG GE137.out⟩
  rw [if_neg c11] at H
  exact absurd H (by simp)
 rw [if_neg c10] at H
 have c10b0 := decide_eq_false c10
 clear c10
 obtain rfl := Option.some.inj H
 obtain ⟨hcz19_0, hcz19_1, hfz19_0, hfz19_1⟩ := zq2 BK137.out
 go_wp2
 go_ret
 exact ⟨zE, zG GE137.out⟩
/-! ### impl_SignsText: function 16 -/
def impl_SignsText.f (k : Nat) (a0_0 : Int) (a0_1 : ByteArray) : Option (ByteArray) := (impl_AreSigns.f k a0_0 a0_1).bind fun t139 => (if t139 = true then ((impl_FormatInt.f a0_0).bind fun t140 => (if t140.size + 1 ≤ 9223372036854775807 then (if t140.size + 1 + a0_1.size ≤ 9223372036854775807 then (some ((t140 ++ (⟨#[58]⟩ : ByteArray)) ++ a0_1)) else (none)) else (none))) else (some (⟨#[]⟩ : ByteArray)))
def impl_SignsText.T3 : Bool × List (List Nat × List Nat) := (true, [([], []), ([0], [0]), ([1], [1]), ([2], [2]), ([], []), ([4], [4]), ([3, 5], [3, 5]), ([6, 2, 0, 1, 2, 3, 4, 5, 6], [6])])
def impl_SignsText.B3 : List Nat := [0, 1, 3, 7, 0, 16, 63, 127]
theorem impl_SignsText.tab3 : rtab .any (opsOf Tryd.f16 3) = impl_SignsText.T3 := by kernel_rfl
theorem impl_SignsText.bits3 : waitsOk impl_SignsText.T3.2 impl_SignsText.B3 = true := by kernel_rfl
theorem zl23_0 {p q p0 : Prop} (g : p) (g0 : p0) (h : p → p0 → q := by intro zg_ z0_; repeat (first | (with_reducible first | exact zg_ | apply below_alloc | apply pw_below_drewN | apply below_drew1 | refine below_set ?_ z0_) | exact zg_)) : q := h g g0
set_option maxHeartbeats 8000000 in
set_option maxRecDepth 100000 in
theorem impl_SignsText.calls (k : Nat) (a0_0 : Int) (a0_1 : ByteArray) (r : ByteArray) (w : World) (h : impl_SignsText.f k a0_0 a0_1 = some r) (hT : T1 w) :
  Calls Tryd.prog 16 #[.agg #[.int .i64 a0_0, .string a0_1]] w fun e w' => e = .returned (.string r) ∧ Below w.heap.size w w' := by
 have HT := Aside0.mk hT
 clear hT
 have hu28 := Tryd.underlying28
 have HB := Aside0.mk (Below.refl w.heap.size w)
 have H : ((impl_AreSigns.f k a0_0 a0_1).bind fun t139 => (if t139 = true then ((impl_FormatInt.f a0_0).bind fun t140 => (if t140.size + 1 ≤ 9223372036854775807 then (if t140.size + 1 + a0_1.size ≤ 9223372036854775807 then (some ((t140 ++ (⟨#[58]⟩ : ByteArray)) ++ a0_1)) else (none)) else (none))) else (some (⟨#[]⟩ : ByteArray)))) = some r := h
 clear h
 obtain ⟨t139, A2, H⟩ := zO H
 by_cases c3 : t139 = true
 ·subst c3
  replace H := (if_pos rfl).symm.trans H
  obtain ⟨t140, A4, H⟩ := zO H
  by_cases c5 : t140.size + 1 ≤ 9223372036854775807
  ·rw [if_pos c5] at H
   have c5b0 := eq_true c5
   have c5b1 := decide_eq_true c5
   try have c5b2 : (9223372036854775807 < t140.size + 1) = False := eq_false (Nat.not_lt.2 c5)
   by_cases c6 : t140.size + 1 + a0_1.size ≤ 9223372036854775807
   ·rw [if_pos c6] at H
    have c6b0 := eq_true c6
    have c6b1 := decide_eq_true c6
    try have c6b2 : (9223372036854775807 < t140.size + 1 + a0_1.size) = False := eq_false (Nat.not_lt.2 c6)
    obtain rfl := Option.some.inj H
    go_enter Tryd.func16, Tryd.ntmps16
    try go_wp2_with (first | ((with_reducible refine gate_dst (N := 1) rfl ?_); refine zBx (N := 1) #[.int .i64 a0_0, .string a0_1] 28 ?_; intro gb138 hg w7 hbox hb; have BK138 := Aside0.mk (hbox); have GW138 := zS hg; have GE138 := zS hg; replace HB := zX hb; clear hb hbox hg; obtain ⟨hcz8_0, hcz8_1, hfz8_0, hfz8_1⟩ := zq2 BK138.out) | ((with_reducible refine gate_callee (f := 38) rfl ?_); refine zD (some 4) Tryd.func38 #[.agg #[.int .i64 a0_0, .string a0_1]] ?_; (with_reducible refine (impl_AreSigns.calls k a0_0 a0_1 true _ A2.out).mono ?_); rintro e w9 ⟨rfl, hb⟩; refine ⟨_, rfl, ?_⟩; replace BK138 := zV BK138.out hb; replace HB := zX1 GE138.out hb; (try clear hb)))
    replace BK138 := Aside0.mk (blk_drew BK138.out)
    replace HB := Aside0.mk (below_drew1 HB.out)
    refine start_ (n := 8) (S := fun w' => w'.cell? ⟨gb138, 0, none⟩ = some (.int .i64 a0_0) ∧ w'.cell? ⟨gb138, 1, none⟩ = some (.string a0_1)) (ds := []) #[false, false, false, false, false, false, false, false] (by kernel_rfl) rfl rfl ⟨(blk_cell BK138.out 0).trans rfl, (blk_cell BK138.out 1).trans rfl⟩ (fun hHeld => ?_); refine with_tabW impl_SignsText.tab3 impl_SignsText.bits3 (fun HT_ HW_ => ?_)
    generalize w9.drew = w10 at BK138 HB hHeld ⊢
    refine zP 0 (some 6) rfl rfl ?_
    refine zP 4 (some 10) rfl rfl ?_
    refine zY2 1 (some 7) rfl rfl hHeld ?_
    refine zY2 5 (some 11) rfl rfl hHeld ?_
    refine zU 2 (some 8) rfl rfl (fun K hK => ?_)
    refine goes_ Tryd.func12 (by kernel_rfl) rfl #[.int .i64 a0_0] (by rfl) rfl rfl zM ?_
    with_reducible refine (impl_FormatInt.calls a0_0 t140 _ A4.out (HT.out.below ?sideT)).mono ?_
    case sideT => exact (zl23_0 HB.out GE138.out)
    rintro e w11 ⟨rfl, hb⟩
    refine ⟨_, rfl, ?_⟩
    replace BK138 := zV BK138.out hb
    replace HB := zX1 GE138.out hb
    (try clear hb)
    refine hK.out _ _ (zh2 BK138.out) (fun hHeld => ?_)
    clear hK K
    refine zN ?_
    refine zP 3 (some 9) rfl rfl ?_
    refine zP 6 (some 12) rfl rfl ?_
    refine zP 7 (some 2) rfl rfl ?_
    refine done_ (done_of HT_.out (by kernel_rfl)) ?_
    try go_wp2
    go_ret
    exact ⟨zE, zG GE138.out⟩
   rw [if_neg c6] at H
   exact absurd H (by simp)
  rw [if_neg c5] at H
  exact absurd H (by simp)
 replace c3 := Bool.eq_false_iff.mpr c3
 subst c3
 replace H := (if_neg zFf).symm.trans H
 obtain rfl := Option.some.inj H
 go_enter Tryd.func16, Tryd.ntmps16
 go_wp2_with (first | ((with_reducible refine gate_dst (N := 1) rfl ?_); refine zBx (N := 1) #[.int .i64 a0_0, .string a0_1] 28 ?_; intro gb138 hg w12 hbox hb; have BK138 := Aside0.mk (hbox); have GW138 := zS hg; have GE138 := zS hg; replace HB := zX hb; clear hb hbox hg; obtain ⟨hcz13_0, hcz13_1, hfz13_0, hfz13_1⟩ := zq2 BK138.out) | ((with_reducible refine gate_callee (f := 38) rfl ?_); refine zD (some 4) Tryd.func38 #[.agg #[.int .i64 a0_0, .string a0_1]] ?_; (with_reducible refine (impl_AreSigns.calls k a0_0 a0_1 false _ A2.out).mono ?_); rintro e w14 ⟨rfl, hb⟩; refine ⟨_, rfl, ?_⟩; replace BK138 := zV BK138.out hb; replace HB := zX1 GE138.out hb; (try clear hb)))
 go_ret
 exact ⟨zE, zG GE138.out⟩
/-! ### laws_FnExactSignsText: function 4 -/
def laws_FnExactSignsText.f (k : Nat) (a0_0 : Int) (a0_1 : ByteArray) : Option (Bool) := (laws_szSigns.f a0_0 a0_1 1048576).bind fun t142 => (if t142 < 0 then (some true) else ((laws_toSigns.f a0_0 a0_1).bind fun bt143 => ((spec_SignsText.f k bt143.1 bt143.2).bind fun t145 => ((laws_toSigns.f a0_0 a0_1).bind fun bt146 => ((impl_SignsText.f k bt146.1 bt146.2).bind fun t148 => (if t148.toList = t145.toList then (some true) else (some false)))))))
theorem zl24_0 {p q p0 : Prop} (g : p) (g0 : p0) (h : p → p0 → q := by intro zg_ z0_; repeat (first | (with_reducible first | exact zg_ | apply below_alloc | apply pw_below_drewN | apply below_drew1 | refine below_set ?_ z0_) | exact zg_)) : q := h g g0
set_option maxHeartbeats 8000000 in
set_option maxRecDepth 100000 in
theorem laws_FnExactSignsText.calls (k : Nat) (a0_0 : Int) (a0_1 : ByteArray) (r : Bool) (w : World) (h : laws_FnExactSignsText.f k a0_0 a0_1 = some r) (hr_ : r = true) (hT : T1 w) :
  Calls Tryd.prog 4 #[.agg #[.int .i64 a0_0, .string a0_1]] w fun e w' => e = .returned (.bool r) ∧ Below w.heap.size w w' := by
 have HT := Aside0.mk hT
 clear hT
 have hu25 := Tryd.underlying25
 have HB := Aside0.mk (Below.refl w.heap.size w)
 have H : ((laws_szSigns.f a0_0 a0_1 1048576).bind fun t142 => (if t142 < 0 then (some true) else ((laws_toSigns.f a0_0 a0_1).bind fun bt143 => ((spec_SignsText.f k bt143.1 bt143.2).bind fun t145 => ((laws_toSigns.f a0_0 a0_1).bind fun bt146 => ((impl_SignsText.f k bt146.1 bt146.2).bind fun t148 => (if t148.toList = t145.toList then (some true) else (some false)))))))) = some r := h
 clear h
 obtain ⟨t142, A2, H⟩ := zO H
 by_cases c3 : t142 < 0
 ·rw [if_pos c3] at H
  have c3b0 := decide_eq_true c3
  clear c3
  obtain rfl := Option.some.inj H
  go_enter Tryd.func4, Tryd.ntmps4
  go_wp2_with (first | ((with_reducible refine gate_dst (N := 1) rfl ?_); refine zBx (N := 1) #[.int .i64 a0_0, .string a0_1] 25 ?_; intro gb141 hg w4 hbox hb; have BK141 := Aside0.mk (hbox); have GW141 := zS hg; have GE141 := zS hg; replace HB := zX hb; clear hb hbox hg; obtain ⟨hcz5_0, hcz5_1, hfz5_0, hfz5_1⟩ := zq2 BK141.out) | ((with_reducible refine gate_callee (f := 13) rfl ?_); refine zD (some 8) Tryd.func13 #[.agg #[.int .i64 a0_0, .string a0_1], .int .i64 1048576] ?_; (with_reducible refine (laws_szSigns.calls a0_0 a0_1 1048576 t142 _ A2.out).mono ?_); rintro e w6 ⟨rfl, hb⟩; refine ⟨_, rfl, ?_⟩; replace BK141 := zV BK141.out hb; replace HB := zX1 GE141.out hb; (try clear hb)))
  go_ret
  exact ⟨zE, zG GE141.out⟩
 rw [if_neg c3] at H
 have c3b0 := decide_eq_false c3
 clear c3
 obtain ⟨⟨t143, t144⟩, A7, H⟩ := zO H
 dsimp only at H
 obtain ⟨t145, A8, H⟩ := zO H
 obtain ⟨⟨t146, t147⟩, A9, H⟩ := zO H
 dsimp only at H
 obtain ⟨t148, A10, H⟩ := zO H
 by_cases c11 : t148.toList = t145.toList
 ·rw [if_pos c11] at H
  have c11b0 := beq_iff_eq.mpr c11
  have c11b1 := bne_eq_false_iff_eq.mpr c11
  clear c11
  obtain rfl := Option.some.inj H
  go_enter Tryd.func4, Tryd.ntmps4
  go_wp2_with (first | ((with_reducible refine gate_dst (N := 1) rfl ?_); refine zBx (N := 1) #[.int .i64 a0_0, .string a0_1] 25 ?_; intro gb141 hg w12 hbox hb; have BK141 := Aside0.mk (hbox); have GW141 := zS hg; have GE141 := zS hg; replace HB := zX hb; clear hb hbox hg; obtain ⟨hcz13_0, hcz13_1, hfz13_0, hfz13_1⟩ := zq2 BK141.out) | ((with_reducible refine gate_callee (f := 13) rfl ?_); refine zD (some 8) Tryd.func13 #[.agg #[.int .i64 a0_0, .string a0_1], .int .i64 1048576] ?_; (with_reducible refine (laws_szSigns.calls a0_0 a0_1 1048576 t142 _ A2.out).mono ?_); rintro e w14 ⟨rfl, hb⟩; refine ⟨_, rfl, ?_⟩; replace BK141 := zV BK141.out hb; replace HB := zX1 GE141.out hb; (try clear hb); obtain ⟨hcz15_0, hcz15_1, hfz15_0, hfz15_1⟩ := zq2 BK141.out) | ((with_reducible refine gate_callee (f := 15) rfl ?_); refine zD (some 12) Tryd.func15 #[.agg #[.int .i64 a0_0, .string a0_1]] ?_; (with_reducible refine (laws_toSigns.calls a0_0 a0_1 t143 t144 _ A7.out).mono ?_); rintro e w16 ⟨rfl, hb⟩; refine ⟨_, rfl, ?_⟩; replace BK141 := zV BK141.out hb; replace HB := zX1 GE141.out hb; (try clear hb)) | ((with_reducible refine gate_callee (f := 14) rfl ?_); refine zD (some 13) Tryd.func14 #[.agg #[.int .i64 t143, .string t144]] ?_; (with_reducible refine (spec_SignsText.calls k t143 t144 t145 _ A8.out).mono ?_); rintro e w17 ⟨rfl, hb⟩; refine ⟨_, rfl, ?_⟩; replace BK141 := zV BK141.out hb; replace HB := zX1 GE141.out hb; (try clear hb); obtain ⟨hcz18_0, hcz18_1, hfz18_0, hfz18_1⟩ := zq2 BK141.out) | ((with_reducible refine gate_callee (f := 15) rfl ?_); refine zD (some 15) Tryd.func15 #[.agg #[.int .i64 a0_0, .string a0_1]] ?_; (with_reducible refine (laws_toSigns.calls a0_0 a0_1 t146 t147 _ A9.out).mono ?_); rintro e w19 ⟨rfl, hb⟩; refine ⟨_, rfl, ?_⟩; replace BK141 := zV BK141.out hb; replace HB := zX1 GE141.out hb; (try clear hb)) | ((with_reducible refine gate_callee (f := 16) rfl ?_); refine zD (some 16) Tryd.func16 #[.agg #[.int .i64 t146, .string t147]] ?_; (with_reducible refine (impl_SignsText.calls k t146 t147 t148 _ A10.out (HT.out.below ?sideT)).mono ?_); (case sideT => exact (zl24_0 HB.out GE141.out)); rintro e w20 ⟨rfl, hb⟩; refine ⟨_, rfl, ?_⟩; replace BK141 := zV BK141.out hb; replace HB := zX1 GE141.out hb; (try clear hb)))
  go_ret
  exact ⟨zE, zG GE141.out⟩
 rw [if_neg c11] at H
 have c11b0 := beq_eq_false_iff_ne.mpr c11
 have c11b1 := bne_iff_ne.mpr c11
 obtain rfl := Option.some.inj H
 cases hr_
end Go.Proofs.YthhgcdfdjlijjaaDoor.PX
namespace Go.Proofs.YthhgcdfdjlijjaaDoor.M
open Go.RowKit Go.Proofs.YthhgcdfdjlijjaaDoorW.PrintWords
section
variable {α β : Type} {r : α} {r' : β}
theorem ev_pos {c : Prop} [Decidable c] {a b : Nat → Option α} (h : c) (k : Ev a r) : Ev (fun n => if c then a n else b n) r := Ev.congr (fun _ => if_pos h) k
theorem ev_neg {c : Prop} [Decidable c] {a b : Nat → Option α} (h : ¬ c) (k : Ev b r) : Ev (fun n => if c then a n else b n) r := Ev.congr (fun _ => if_neg h) k
theorem ev_call {x : Option α} {a : α} {f : Nat → α → Option β} (h : x = some a) (k : Ev (fun n => f n a) r') : Ev (fun n => x.bind (f n)) r' := Ev.congr (fun n => by rw [h]; rfl) k
theorem ev_cast {g : Nat → Option α} {a b : α} (h : Ev g a) (e : a = b) : Ev g b := e ▸ h
theorem ev_step {g : Nat → Option α} (k : Ev (fun n => g (n + 1)) r) : Ev g r := Ev.step (fun _ => rfl) k
end
theorem wrap_id {x : Int} (h0 : -9223372036854775808 ≤ x) (h1 : x ≤ 9223372036854775807) : wrap64 x = x := by unfold wrap64; omega
theorem size_list (t : ByteArray) : t.size = t.data.toList.length := rfl
theorem bt_nat {t : ByteArray} {i : Nat} (h : i < t.data.toList.length) : bt t (i : Int) = ((t.data.toList[i]).toNat : Int) := by
 have h' : i < t.size := h
 unfold bt
 simp only [Int.toNat_natCast, h', dite_true]
 rfl
def isSg (c : UInt8) : Bool := c = 43 || c = 45
def cntW (n : Int) : Int := wrap64 (Int.tdiv (wrap64 ((wrap64 (n * (wrap64 (n - 1)))) * (wrap64 (n - 2)))) 6)
theorem cntW_3 : cntW 3 = 1 := by decide +kernel
theorem cntW_4 : cntW 4 = 4 := by decide +kernel
theorem cntW_5 : cntW 5 = 10 := by decide +kernel
theorem cntW_6 : cntW 6 = 20 := by decide +kernel
theorem cntW_7 : cntW 7 = 35 := by decide +kernel
def areOk (n : Int) (t : ByteArray) : Bool := decide (3 ≤ n) && decide (n ≤ 7) && decide ((t.size : Int) = cntW n) && t.data.toList.all isSg
theorem u8_43 (c : UInt8) : ((c.toNat : Int) = 43) ↔ c = 43 := by
 constructor
 ·intro h; apply UInt8.toNat_inj.1; show c.toNat = 43; omega
 ·rintro rfl; rfl
theorem u8_45 (c : UInt8) : ((c.toNat : Int) = 45) ↔ c = 45 := by
 constructor
 ·intro h; apply UInt8.toNat_inj.1; show c.toNat = 45; omega
 ·rintro rfl; rfl
theorem areOk_iff (n : Int) (t : ByteArray) : areOk n t = true ↔ (3 ≤ n ∧ n ≤ 7) ∧ (t.size : Int) = cntW n ∧ ∀ c ∈ t.data.toList, c = 43 ∨ c = 45 := by
 simp only [areOk, Bool.and_eq_true, decide_eq_true_eq, List.all_eq_true, isSg, Bool.or_eq_true, and_assoc]
theorem areOk_size {n : Int} {t : ByteArray} (h : areOk n t = true) : t.size ≤ 35 := by
 obtain ⟨⟨h0, h1⟩, h2, _⟩ := (areOk_iff n t).1 h
 have h3 : cntW n ≤ 35 := by
  have : n = 3 ∨ n = 4 ∨ n = 5 ∨ n = 6 ∨ n = 7 := by omega
  rcases this with rfl | rfl | rfl | rfl | rfl
  ·rw [cntW_3]; decide
  ·rw [cntW_4]; decide
  ·rw [cntW_5]; decide
  ·rw [cntW_6]; decide
  ·rw [cntW_7]; decide
 omega
end Go.Proofs.YthhgcdfdjlijjaaDoor.M
namespace Go.Proofs.YthhgcdfdjlijjaaDoor.M
open Go.RowKit Go.Proofs.YthhgcdfdjlijjaaDoorW.PrintWords Go.Proofs.YthhgcdfdjlijjaaDoor.PX
theorem impl_are_loop (n : Int) (t : ByteArray) (hs : t.data.toList.length ≤ 9223372036854775807) (d : Nat) : ∀ i : Nat, i + d = t.data.toList.length → Ev (fun k => impl_AreSigns.l0 k (i : Int) n t) ((t.data.toList.drop i).all isSg) := by
 induction d with
 | zero =>
  intro i hi
  rw [List.drop_of_length_le (by omega)]
  refine ev_step ?_
  simp only [impl_AreSigns.l0]
  exact ev_neg (by rw [size_list]; omega) (Ev.now _)
 | succ d ih =>
  intro i hi
  have hlt : i < t.data.toList.length := by omega
  rw [List.drop_eq_getElem_cons hlt, List.all_cons]
  refine ev_step ?_
  simp only [impl_AreSigns.l0]
  refine ev_pos (by rw [size_list]; omega) (ev_pos (by omega) ?_)
  rw [bt_nat hlt, wrap_id (by omega) (by omega)]
  have hn := ih (i + 1) (by omega)
  by_cases h1 : t.data.toList[i] = 43
  ·refine ev_pos ((u8_43 _).2 h1) ?_
   rw [show isSg t.data.toList[i] = true by simp [isSg, h1], Bool.true_and]
   exact hn
  ·refine ev_neg (fun h => h1 ((u8_43 _).1 h)) ?_
   by_cases h2 : t.data.toList[i] = 45
   ·refine ev_pos ((u8_45 _).2 h2) ?_
    rw [show isSg t.data.toList[i] = true by simp [isSg, h2], Bool.true_and]
    exact hn
   ·refine ev_neg (fun h => h2 ((u8_45 _).1 h)) ?_
    rw [show isSg t.data.toList[i] = false by unfold isSg; rw [decide_eq_false h1, decide_eq_false h2]; rfl, Bool.false_and]
    exact Ev.now _
theorem impl_are (n : Int) (t : ByteArray) (hs : t.size ≤ 9223372036854775807) : Ev (fun k => impl_AreSigns.f k n t) (areOk n t) := by
 rw [size_list] at hs
 unfold impl_AreSigns.f areOk
 have hj : ∀ r, Ev (fun k => impl_AreSigns.j0 k true n t) r ↔ r = false := fun r => by
  constructor
  ·rintro ⟨K, hK⟩
   have := hK (K + 1) (by omega)
   simp only [impl_AreSigns.j0, if_true] at this
   exact (Option.some.inj this).symm
  ·rintro rfl
   refine ev_step ?_
   simp only [impl_AreSigns.j0]
   exact ev_pos (by trivial) (Ev.now _)
 by_cases h0 : n < 3
 ·refine ev_pos h0 ((hj _).2 ?_)
  simp; omega
 ·refine ev_neg h0 ?_
  by_cases h1 : n > 7
  ·refine ev_pos h1 ((hj _).2 ?_)
   simp; omega
  ·refine ev_neg h1 ?_
   refine ev_step ?_
   simp only [impl_AreSigns.j0]
   rw [show decide (3 ≤ n) = true from decide_eq_true (by omega), show decide (n ≤ 7) = true from decide_eq_true (by omega), Bool.true_and, Bool.true_and]
   by_cases h2 : (t.size : Int) = cntW n
   ·refine ev_neg (by simp only [bne_iff_ne, ne_eq, Decidable.not_not]; exact h2) ?_
    rw [decide_eq_true h2, Bool.true_and]
    exact impl_are_loop n t hs t.data.toList.length 0 (by omega)
   ·refine ev_pos (by simp only [bne_iff_ne, ne_eq]; exact h2) ?_
    rw [decide_eq_false h2, Bool.false_and]
    exact Ev.now _
theorem spec_are_loop (n : Int) (t : ByteArray) (hs : t.data.toList.length ≤ 9223372036854775807) (d : Nat) : ∀ i : Nat, i + d = t.data.toList.length → Ev (fun k => spec_AreSigns.l0 k (i : Int) n t) ((t.data.toList.drop i).all isSg) := by
 induction d with
 | zero =>
  intro i hi
  rw [List.drop_of_length_le (by omega)]
  refine ev_step ?_
  simp only [spec_AreSigns.l0]
  exact ev_neg (by rw [size_list]; omega) (Ev.now _)
 | succ d ih =>
  intro i hi
  have hlt : i < t.data.toList.length := by omega
  rw [List.drop_eq_getElem_cons hlt, List.all_cons]
  refine ev_step ?_
  simp only [spec_AreSigns.l0]
  refine ev_pos (by rw [size_list]; omega) (ev_pos (by omega) ?_)
  rw [bt_nat hlt, wrap_id (by omega) (by omega)]
  have hn := ih (i + 1) (by omega)
  by_cases h1 : t.data.toList[i] = 43
  ·refine ev_pos ((u8_43 _).2 h1) ?_
   rw [show isSg t.data.toList[i] = true by simp [isSg, h1], Bool.true_and]
   exact hn
  ·refine ev_neg (fun h => h1 ((u8_43 _).1 h)) ?_
   by_cases h2 : t.data.toList[i] = 45
   ·refine ev_pos ((u8_45 _).2 h2) ?_
    rw [show isSg t.data.toList[i] = true by simp [isSg, h2], Bool.true_and]
    exact hn
   ·refine ev_neg (fun h => h2 ((u8_45 _).1 h)) ?_
    rw [show isSg t.data.toList[i] = false by unfold isSg; rw [decide_eq_false h1, decide_eq_false h2]; rfl, Bool.false_and]
    exact Ev.now _
theorem spec_in (x lo hi : Int) : spec_l1In.f x lo hi = some (decide (lo ≤ x) && decide (x ≤ hi)) := by
 unfold spec_l1In.f
 by_cases h : x ≥ lo
 ·rw [if_pos h, show decide (lo ≤ x) = true from decide_eq_true h, Bool.true_and]
 ·rw [if_neg h, show decide (lo ≤ x) = false from decide_eq_false h, Bool.false_and]
theorem spec_are (n : Int) (t : ByteArray) (hs : t.size ≤ 9223372036854775807) : Ev (fun k => spec_AreSigns.f k n t) (areOk n t) := by
 rw [size_list] at hs
 unfold spec_AreSigns.f areOk
 refine ev_call (spec_in n 3 7) ?_
 by_cases h0 : (decide (3 ≤ n) && decide (n ≤ 7)) = true
 ·refine ev_pos h0 ?_
  rw [h0, Bool.true_and]
  refine ev_step ?_
  simp only [spec_AreSigns.j0]
  by_cases h2 : (t.size : Int) = cntW n
  ·refine ev_neg (by simp only [bne_iff_ne, ne_eq, Decidable.not_not]; exact h2) ?_
   rw [decide_eq_true h2, Bool.true_and]
   exact spec_are_loop n t hs t.data.toList.length 0 (by omega)
  ·refine ev_pos (by simp only [bne_iff_ne, ne_eq]; exact h2) ?_
   rw [decide_eq_false h2, Bool.false_and]
   exact Ev.now _
 ·refine ev_neg h0 ?_
  rw [Bool.eq_false_iff.mpr h0, Bool.false_and, Bool.false_and]
  refine ev_step ?_
  simp only [spec_AreSigns.j0]
  exact ev_pos (by trivial) (Ev.now _)
end Go.Proofs.YthhgcdfdjlijjaaDoor.M
namespace Go.Proofs.YthhgcdfdjlijjaaDoor.M
open Go.RowKit Go.Proofs.YthhgcdfdjlijjaaDoorW.PrintWords Go.Proofs.YthhgcdfdjlijjaaDoor.PX Go.Proofs.YthhgcdfdjlijjaaDoor.G Go.Proofs.YthhgcdfdjlijjaaDoorW.PrintMore
open Go.Lib (decDigits itoa parseUint10 parseMag atoiAll)
theorem dec_one {u : Nat} (h : u < 10) : decDigits u = [UInt8.ofNat (48 + u)] := by rw [decDigits, dif_pos h]
theorem dec_step {u : Nat} (h : ¬ u < 10) : decDigits u = decDigits (u / 10) ++ [UInt8.ofNat (48 + u % 10)] := by rw [decDigits, dif_neg h]
/-! ### the library's reading -/
theorem itoaB_data (n : Int) : (itoaB n).data.toList = itoa n := rfl
/-! ### the reference's text -/
theorem app_list (a b : List UInt8) : (⟨a.toArray⟩ : ByteArray) ++ ⟨b.toArray⟩ = ⟨(a ++ b).toArray⟩ := by
 apply ByteArray.ext
 simp
theorem fmt_loop (neg : Bool) (d : Nat) : ∀ (x : Int) (l : List UInt8), x.natAbs < 10 ^ d → l.length + d ≤ 1000 → -9223372036854775808 ≤ x → x ≤ 9223372036854775807 →
  Ev (fun k => spec_FormatInt.l0 k x neg ⟨l.toArray⟩) ⟨((if neg = true then [45] else []) ++ ((if x = 0 then [] else decDigits x.natAbs) ++ l)).toArray⟩ := by
 have exit : ∀ (l : List UInt8), l.length ≤ 1000 → Ev (fun k => spec_FormatInt.l0 k 0 neg ⟨l.toArray⟩) ⟨((if neg = true then [45] else []) ++ ((if (0 : Int) = 0 then [] else decDigits (0 : Int).natAbs) ++ l)).toArray⟩ := by
  intro l hl
  refine ev_step ?_
  simp only [spec_FormatInt.l0]
  refine ev_pos (by first | rfl | trivial) ?_
  cases neg with
  | true =>
   refine ev_pos (by first | rfl | trivial) (ev_pos ?_ (ev_cast (Ev.now _) ?_))
   ·show 1 + l.length ≤ _
    omega
   ·exact app_list [45] l
  | false => exact ev_neg (by simp) (Ev.now _)
 induction d with
 | zero =>
  intro x l hx hl _ _
  have : x = 0 := by simp at hx; exact hx
  subst this
  exact exit l (by omega)
 | succ d ih =>
  intro x l hx hl h0 h1
  by_cases g : x = 0
  ·subst g
   exact exit l (by omega)
  ·have ml := Nat.mod_lt x.natAbs (show 0 < 10 by omega)
   have td : (Int.tdiv x 10).natAbs = x.natAbs / 10 := by
    rcases Int.natAbs_eq x with e | e
    ·rw [e]; exact Int.natAbs_natCast _
    ·rw [e, Int.neg_tdiv, Int.natAbs_neg, Int.natAbs_neg]; exact Int.natAbs_natCast _
   have tm : Int.tmod x 10 = if x < 0 then -((x.natAbs % 10 : Nat) : Int) else ((x.natAbs % 10 : Nat) : Int) := by
    rcases Int.natAbs_eq x with e | e
    ·rw [if_neg (by omega)]
     conv => lhs; rw [e]
     rfl
    ·rw [if_pos (by omega)]
     conv => lhs; rw [e, Int.neg_tmod]
     rfl
   have tz : Int.tdiv x 10 = 0 ↔ x.natAbs < 10 := by omega
   have tb : -9223372036854775808 ≤ Int.tdiv x 10 ∧ Int.tdiv x 10 ≤ 9223372036854775807 := by
    have : x.natAbs ≤ 9223372036854775808 := by omega
    omega
   have nx := ih (Int.tdiv x 10) (UInt8.ofNat (48 + x.natAbs % 10) :: l) (by rw [td]; rw [Nat.pow_succ] at hx; omega) (by rw [List.length_cons]; omega) tb.1 tb.2
   have fin : ((if neg = true then [45] else []) ++ ((if Int.tdiv x 10 = 0 then [] else decDigits (Int.tdiv x 10).natAbs) ++ UInt8.ofNat (48 + x.natAbs % 10) :: l) : List UInt8) = (if neg = true then [45] else []) ++ ((if x = 0 then [] else decDigits x.natAbs) ++ l) := by
    rw [if_neg g, td]
    by_cases s : x.natAbs < 10
    ·rw [if_pos (tz.2 s), dec_one s, Nat.mod_eq_of_lt s]
     rfl
    ·rw [if_neg (fun e => s (tz.1 e)), dec_step s, List.append_assoc]
     rfl
   rw [fin] at nx
   have go : ∀ y : Int, y = 48 + ((x.natAbs % 10 : Nat) : Int) → Ev (fun k => (some (([y % 256] : List Int) : List Int)).bind fun y101 => (if (strOfNums y101).size + (⟨l.toArray⟩ : ByteArray).size ≤ 9223372036854775807 then (spec_FormatInt.l0 k (wrap64 (Int.tdiv x 10)) neg ((strOfNums y101) ++ ⟨l.toArray⟩)) else (none)))
     ⟨((if neg = true then [45] else []) ++ ((if x = 0 then [] else decDigits x.natAbs) ++ l)).toArray⟩ := by
    intro y hy
    have e : y % 256 = ((48 + x.natAbs % 10 : Nat) : Int) := by omega
    rw [e]
    refine ev_call rfl (ev_pos ?_ ?_)
    ·show 1 + l.length ≤ _
     omega
    ·rw [wrap_id tb.1 tb.2]
     have e2 : strOfNums [((48 + x.natAbs % 10 : Nat) : Int)] ++ (⟨l.toArray⟩ : ByteArray) = ⟨(UInt8.ofNat (48 + x.natAbs % 10) :: l).toArray⟩ := app_list [UInt8.ofNat (48 + x.natAbs % 10)] l
     rw [e2]
     exact nx
   refine ev_step ?_
   simp only [spec_FormatInt.l0]
   refine ev_neg g ?_
   by_cases s : Int.tmod x 10 < 0
   ·refine ev_pos s (go _ ?_)
    rw [tm] at s ⊢
    split at s
    ·rename_i s'
     rw [if_pos s', wrap_id (x := -(-((x.natAbs % 10 : Nat) : Int))) (by omega) (by omega), wrap_id (by omega) (by omega)]
     omega
    ·omega
   ·refine ev_neg s (go _ ?_)
    rw [tm] at s ⊢
    split at s
    ·rename_i s'
     rw [if_pos s', wrap_id (by omega) (by omega)]
     omega
    ·rename_i s'
     rw [if_neg s', wrap_id (by omega) (by omega)]
theorem spec_fmt {n : Int} (h0 : -9223372036854775808 ≤ n) (h1 : n ≤ 9223372036854775807) : Ev (fun k => spec_FormatInt.f k n) (itoaB n) := by
 unfold spec_FormatInt.f
 by_cases g : n = 0
 ·subst g
  exact ev_pos rfl (ev_cast (Ev.now _) (show (⟨#[48]⟩ : ByteArray) = ⟨(decDigits 0).toArray⟩ by rw [dec_one (by decide)]; rfl))
 ·refine ev_neg g (ev_cast (fmt_loop (decide (n < 0)) 19 n [] (by omega) (by decide) h0 h1) ?_)
  unfold itoaB itoa
  rw [if_neg g, List.append_nil]
  by_cases s : n < 0
  ·rw [decide_eq_true s, if_pos rfl, if_pos s]
   rfl
  ·rw [decide_eq_false s, if_neg (by simp), if_neg s, show n.natAbs = n.toNat by omega]
   rfl
theorem impl_fmt {n : Int} (h0 : -9223372036854775808 ≤ n) (h1 : n ≤ 9223372036854775807) : impl_FormatInt.f n = some (itoaB n) := if_pos ⟨h0, h1⟩
end Go.Proofs.YthhgcdfdjlijjaaDoor.M
namespace Go.Proofs.YthhgcdfdjlijjaaDoor.PX
open Go.RowKit Go.Proofs.YthhgcdfdjlijjaaDoor.G Go.Proofs.YthhgcdfdjlijjaaDoorW.PrintWords Go.Proofs.YthhgcdfdjlijjaaDoorW.PrintLast Go.Proofs.YthhgcdfdjlijjaaDoorW.PrintMore
attribute [local go_sem] max2_int min2_int max_two min_two max_three min_three max_four min_four   -- for this text's walks alone
set_option linter.unusedVariables false
set_option linter.unusedSimpArgs false
/-! ### spec_l1Read: function 45 -/
/-! ### spec_ParseInt: function 22 -/
/-! ### impl_ParseInt: function 23 -/
/-! ### spec_ParseNumber: function 24 -/
/-! ### impl_ParseNumber: function 25 -/
end Go.Proofs.YthhgcdfdjlijjaaDoor.PX
namespace Go.Proofs.YthhgcdfdjlijjaaDoor.M
open Go.RowKit Go.Proofs.YthhgcdfdjlijjaaDoorW.PrintWords Go.Proofs.YthhgcdfdjlijjaaDoor.PX Go.Proofs.YthhgcdfdjlijjaaDoor.G Go.Proofs.YthhgcdfdjlijjaaDoorW.PrintMore
open Go.Lib (decDigits itoa parseUint10 parseMag atoiAll)
theorem p12 : ∀ i, i ≤ 12 → 10 ^ i ≤ 1000000000000 := fun i h => by
 have := Nat.pow_le_pow_right (n := 10) (by omega) h
 omega
end Go.Proofs.YthhgcdfdjlijjaaDoor.M
namespace Go.Proofs.YthhgcdfdjlijjaaDoor.M
open Go.RowKit Go.Proofs.YthhgcdfdjlijjaaDoorW.PrintWords
section
variable {σ τ ρ α β : Type}
def Goes (z : Except ρ σ) (K : σ → Nat → Option ρ) (g : Nat → Option ρ) : Prop :=
 match z with
 | .error v => Ev g v
 | .ok s => ∀ r, Ev (K s) r → Ev g r
variable {z : Except ρ σ} {K : σ → Nat → Option ρ}
theorem Goes.ok (s : σ) : Goes (.ok s) K (K s) := fun _ h => h
theorem Goes.error {g : Nat → Option ρ} {v : ρ} (h : Ev g v) : Goes (.error v) K g := h
theorem Goes.map {g g' : Nat → Option ρ} (hg : ∀ r, Ev g' r → Ev g r) (h : Goes z K g') : Goes z K g := by
 cases z with
 | error v => exact hg _ h
 | ok s => exact fun r hr => hg _ (h r hr)
theorem Goes.step {g : Nat → Option ρ} (h : Goes z K (fun k => g (k + 1))) : Goes z K g := Goes.map (fun _ => ev_step) h
theorem Goes.neg {c : Prop} [Decidable c] {a b : Nat → Option ρ} (hc : ¬ c) (h : Goes z K b) : Goes z K (fun k => if c then a k else b k) := Goes.map (fun _ => ev_neg hc) h
theorem Goes.ev {x : Nat → Option α} {a : α} {f : Nat → α → Option ρ} (hx : Ev x a) (h : Goes z K (fun k => f k a)) : Goes z K (fun k => (x k).bind (f k)) := Goes.map (fun _ => Ev.bind hx) h
theorem Goes.bind {y : Except ρ τ} {f : τ → Except ρ σ} {K' : τ → Nat → Option ρ} {g : Nat → Option ρ} (h : Goes y K' g) (h' : ∀ s, Goes (f s) K (K' s)) : Goes (y >>= f) K g := by
 cases y with
 | error v => exact h
 | ok s => exact Goes.map (h ·) (h' s)
theorem Goes.out {g : Nat → Option ρ} {r : ρ} (h : Goes z K g) (he : ∀ v, z = .error v → v = r) (ho : ∀ s, z = .ok s → Ev (K s) r) : Ev g r := by
 cases z with
 | error v => exact he v rfl ▸ h
 | ok s => exact h r (ho s rfl)
end
section
variable {σ ρ : Type} {n : Nat} {K : σ → Nat → Option ρ}
end
end Go.Proofs.YthhgcdfdjlijjaaDoor.M
namespace Go.Proofs.YthhgcdfdjlijjaaDoor.PX
open Go.RowKit Go.Proofs.YthhgcdfdjlijjaaDoor.G Go.Proofs.YthhgcdfdjlijjaaDoorW.PrintWords Go.Proofs.YthhgcdfdjlijjaaDoorW.PrintLast Go.Proofs.YthhgcdfdjlijjaaDoorW.PrintMore
attribute [local go_sem] max2_int min2_int max_two min_two max_three min_three max_four min_four   -- for this text's walks alone
set_option linter.unusedVariables false
set_option linter.unusedSimpArgs false
/-! ### spec_SplitByte: function 51 -/
/-! ### impl_SplitByte: function 52 -/
/-! ### spec_ParseSigns: function 29 -/
/-! ### impl_ParseSigns: function 30 -/
end Go.Proofs.YthhgcdfdjlijjaaDoor.PX
namespace Go.Proofs.YthhgcdfdjlijjaaDoor.M
open Go.RowKit Go.Proofs.YthhgcdfdjlijjaaDoorW.PrintWords Go.Proofs.YthhgcdfdjlijjaaDoor.PX Go.Proofs.YthhgcdfdjlijjaaDoor.G Go.Proofs.YthhgcdfdjlijjaaDoorW.PrintMore
open Go.Lib (decDigits itoa)
def sgT (n : Int) (t : ByteArray) : ByteArray := if areOk n t = true then (itoaB n ++ (⟨#[58]⟩ : ByteArray)) ++ t else ⟨#[]⟩
theorem itoa_small {n : Int} (h0 : 0 ≤ n) (h1 : n < 10) : (itoaB n).size = 1 := by
 rw [size_list, itoaB_data]
 unfold itoa
 rw [if_neg (by omega), dec_one (by omega)]
 rfl
theorem impl_sgT (n : Int) (t : ByteArray) (hs : t.size ≤ 9223372036854775807) : Ev (fun k => impl_SignsText.f k n t) (sgT n t) := by
 unfold impl_SignsText.f sgT
 refine Ev.bind (impl_are n t hs) ?_
 by_cases h : areOk n t = true
 ·obtain ⟨⟨h0, h1⟩, _, _⟩ := (areOk_iff _ _).1 h
  have z := areOk_size h
  have zi := itoa_small (n := n) (by omega) (by omega)
  exact ev_cast (ev_pos h (ev_call (impl_fmt (by omega) (by omega)) (ev_pos (by omega) (ev_pos (by omega) (Ev.now _))))) (if_pos h).symm
 ·exact ev_cast (ev_neg h (Ev.now _)) (if_neg h).symm
theorem spec_sgT (n : Int) (t : ByteArray) (hs : t.size ≤ 9223372036854775807) : Ev (fun k => spec_SignsText.f k n t) (sgT n t) := by
 unfold spec_SignsText.f sgT
 refine Ev.bind (spec_are n t hs) ?_
 by_cases h : areOk n t = true
 ·obtain ⟨⟨h0, h1⟩, _, _⟩ := (areOk_iff _ _).1 h
  have z := areOk_size h
  have zi := itoa_small (n := n) (by omega) (by omega)
  exact ev_cast (ev_pos h (Ev.bind (spec_fmt (by omega) (by omega)) (ev_pos (by omega) (ev_pos (by omega) (Ev.now _))))) (if_pos h).symm
 ·exact ev_cast (ev_neg h (Ev.now _)) (if_neg h).symm
end Go.Proofs.YthhgcdfdjlijjaaDoor.M
namespace Go.Proofs.YthhgcdfdjlijjaaDoor.M
open Go.RowKit Go.Proofs.YthhgcdfdjlijjaaDoorW.PrintWords Go.Proofs.YthhgcdfdjlijjaaDoor.PX
theorem sz_signs (n : Int) (t : ByteArray) : ∃ r, laws_szSigns.f n t 1048576 = some r := by
 unfold laws_szSigns.f
 split <;> exact ⟨_, rfl⟩
end Go.Proofs.YthhgcdfdjlijjaaDoor.M
namespace Go.Proofs.YthhgcdfdjlijjaaDoor.Pure
open Go.RowKit Go.Proofs.YthhgcdfdjlijjaaDoorW.PrintWords Go.Proofs.YthhgcdfdjlijjaaDoor.PX Go.Proofs.YthhgcdfdjlijjaaDoor.M Go.Proofs.YthhgcdfdjlijjaaDoor.G
theorem FnExactSignsText (n : Int) (t : ByteArray) (_ : (Lit.int .i64 n).wf = true) (hs : t.size ≤ 9223372036854775807) : ∃ k, laws_FnExactSignsText.f k n t = some true := by
 refine Ev.rounds (r := true) ?_
 unfold laws_FnExactSignsText.f
 obtain ⟨r, hr⟩ := sz_signs n t
 refine ev_call hr ?_
 by_cases h : r < 0
 ·exact ev_pos h (Ev.now _)
 ·exact ev_neg h (ev_call (a := (n, t)) rfl (Ev.bind (spec_sgT n t hs) (ev_call (a := (n, t)) rfl (Ev.bind (impl_sgT n t hs) (ev_pos rfl (Ev.now _))))))
end Go.Proofs.YthhgcdfdjlijjaaDoor.Pure
namespace Go.Proofs.YthhgcdfdjlijjaaDoor.fnExactSignsText
open Go.ChangeShapes Go.WideShapes Go.ChangeAt Go.RowKit Go.Joins
open Go.ChangeMaps (open_string shut_string)
set_option linter.unusedVariables false
theorem own : ownKnob Tryd.prog.godebug = none := by kernel_rfl
theorem str_mk {H : Type} {enc : TypeId × Value → H} {P : Program} {w : World} {base : Nat} {spare : Nat → Bool} {held : Bool} {t : TypeId} {s : ByteArray} (ht : P.underlying t = some .string) (hs : s.size ≤ maxLen) : DataW.trod enc P w base spare held 1 t [.string s] = some (.lit (.string s.data.toList), []) := by
 simp [DataW.trod, ht, hs]
set_option maxRecDepth 100000 in
theorem lifted (os : Os) (started : os.Started) (H : Type) (enc : TypeId × Value → H) :
  ReturnsInHanded {} Tryd.checked os 4 .any (fun w args => (Rows.fnExactSignsTextSpec.pre enc Tryd.prog Tryd.f4 Rows.fnExactSignsTextRow.domain false w args ∧ laidMetH Tryd.prog G.l3 w) ∧ sizedMet enc Tryd.prog Tryd.f4 (OpenSpec.ofChange Rows.fnExactSignsTextSpec) false w args) (Rows.fnExactSignsTextSpec.post enc Tryd.prog Tryd.f4 false true false false) := by
 refine returnsInHanded_of_change_and (C := Tryd.checked) (X := fun w _ => laidMetH Tryd.prog G.l3 w) (fun _ _ _ hh h => h.of_heap hh) own started (by kernel_rfl) Tryd.func4
  (ChangeSpec.witness_shaped (enc := enc) (C := Tryd.checked) (os := os) (X := fun w _ => laidMetH Tryd.prog G.l3 w) false (World.doorLaid Tryd.prog 24 os) #[.agg #[.int .i64 0, .string ByteArray.empty]] 8 rfl (World.shaped_of_RefB (by kernel_rfl) (by kernel_rfl)) (by kernel_rfl) (by kernel_rfl) (by kernel_rfl) (G.met3 os _)) ?_
 intro W base args ds gs before hval0 hW hcnd hsz0 hL _
 have hsz : (DataW.weightsEach Tryd.prog (Tryd.f4.params.toList ++ Rows.fnExactSignsTextSpec.plain.varTypes Tryd.prog) (ds ++ gs)).all (· ≤ reachBytes) = true := hsz0
 have hval : ∀ (j : Nat) t v, Tryd.f4.params[j]? = some t → args[j]? = some v → Value.okWide Tryd.prog W .any base t v := hval0
 have hW' := hW
 obtain ⟨p, q, hA0, hV, rfl, hfz, hnd⟩ := hW
 have hA : DataW.TrodAll enc Tryd.prog W 0 (fun _ => true) true Tryd.f4.params.toList args.toList ds p := hA0
 rw [Tryd.params4] at hA hval hsz
 obtain ⟨v0, vs0, d0, ds0, p0, q0, hargs, rfl, rfl, h0, r0⟩ := trodAll_cons hA
 obtain ⟨rfl, rfl, rfl⟩ := trodAll_nil r0
 obtain rfl : args = #[v0] := by cases args; simp_all
 obtain ⟨rfl, rfl⟩ := trodVars_none hV
 obtain ⟨c0_0, c0_1, y0_0, y0_1, m0, rfl, rfl, rfl, hy0_0, hy0_1⟩ := open_agg2 Tryd.underlying25 (by kernel_rfl) (by kernel_rfl) (hval 0 25 v0 rfl rfl) h0
 obtain ⟨a0_0, e0_0, rfl, wa0⟩ := DataW.trod_int Tryd.underlying3 hy0_0
 obtain ⟨a0_1, e0_1, rfl, ws0⟩ := DataW.trod_string Tryd.underlying9 hy0_1
 simp only [List.cons.injEq, and_true] at e0_0 e0_1
 subst e0_0 e0_1
 clear hA0 hval0 hsz0 hsz
 obtain ⟨k, hP⟩ := Pure.FnExactSignsText a0_0 a0_1 wa0 ws0
 refine (PX.laws_FnExactSignsText.calls k a0_0 a0_1 true W hP rfl (G.laid3_T1 hL)).mono fun e W' ⟨he, bel⟩ => ?_
 subst he
 exact ⟨_, rfl, _, _, _, [], _, [], hW', trodAll_mk1 (shut_bool Tryd.underlying4 _), (trodAll_cons_mk (shut_agg2 Tryd.underlying25 (by kernel_rfl) (by kernel_rfl) ⟨_, trod_int_mk 0 Tryd.underlying3 wa0⟩ ⟨_, str_mk Tryd.underlying9 ws0⟩) trodAll_mk0), rfl, bel.frame _, fun h => by cases h⟩
theorem over : Rows.fnExactSignsTextRow.holds Tryd.pinned (OpenSpec.ofChange Rows.fnExactSignsTextSpec) :=
 OpenClaim.holds_of_wide 4 Tryd.f4 rfl rfl rfl rfl rfl rfl rfl ⟨rfl, rfl, rfl, rfl, rfl⟩ rfl rfl rfl rfl rfl (by kernel_rfl) Tryd.func4 (by kernel_rfl)
  (of_decide_eq_true (by kernel_rfl)) (by unfold Func.isWrapper; first | (rw [if_pos (by decide +kernel)]; kernel_rfl) | (rw [if_neg (by decide +kernel)]; exact ⟨rfl, rfl⟩))
  (fun os started H enc _ => lifted os started H enc)
theorem proved : Rows.FnExactSignsTextCardSaid :=
 Claim7.holds_tied_plain_at .later [] [.data, .data, .data] true (true, "b6297fe4dff1945e15340171e309d32cd1111b5a543af04a2fb5a0138c81a0d9") true over (fun _ h => by cases h) (by kernel_rfl) (fun _ h => by cases h) fnExactSignsText_row_tie rfl ⟨rfl, rfl⟩ (by kernel_rfl) rfl
  (fun f fn hf hfn => by
   obtain rfl : f = 4 := Option.some.inj (hf.symm.trans (show Tryd.prog.funcNamed "loop.example/g03104/laws.FnExactSignsText" = some 4 by kernel_rfl))
   obtain rfl : fn = Tryd.f4 := (Option.some.inj (Tryd.func4.symm.trans hfn)).symm
   exact ⟨by kernel_rfl, fun j t ht => by
    have hm : t ∈ Tryd.f4.params.toList := Array.mem_toList_iff.2 (Array.mem_of_getElem? ht)
    have hall : (Tryd.f4.params.toList.all fun u => !Tryd.prog.wantsStandIn u) = true := by kernel_rfl
    exact (show Tryd.prog.wantsStandIn t = false by simpa using List.all_eq_true.1 hall t hm)⟩)
  (by kernel_rfl)
#print axioms proved
end Go.Proofs.YthhgcdfdjlijjaaDoor.fnExactSignsText
namespace Go.Proofs.YthhgcdfdjlijjaaDoor
theorem fnExactSignsText_holds : Rows.FnExactSignsTextCardSaid := fnExactSignsText.proved
end Go.Proofs.YthhgcdfdjlijjaaDoor
