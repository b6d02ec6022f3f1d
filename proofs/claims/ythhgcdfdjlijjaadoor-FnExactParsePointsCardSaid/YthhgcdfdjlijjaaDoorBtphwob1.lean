/- A part of proofs about signs and points: what some functions answer, and that their calls answer so. No condition. -/
import Derived.Test.YthhgcdfdjlijjaaDoorProg
import Derived.Shelf.Strconv.Itoa3
import Derived.Shelf.Strconv.AtoiAll
import Derived.Shelf.Strings.Cut
import Derived.Shelf.Strings.OnBuilder
import Derived.Lib.SmallJoins
import Derived.Lib.AppendIntMem
import Derived.Test.YthhgcdfdjlijjaaDoorRows
import Derived.ProofKit
import Derived.LaidMore
import Derived.OpenShut
import Derived.Stop.Joined
import Derived.Stop.LaidErr
import Derived.Lib.LaidTab
import Derived.LaidHandle
import Derived.Below
import Derived.Deep.Draws
import Derived.Deep.AppendLies
import Derived.Maps.AppendAt
import Derived.OwnWalk
import Derived.Laws.BytesArg
import Derived.Laws.MakeOwn
import Derived.Laws.OwnMore
import Derived.Deep.OwnRows
import Derived.Tactics
import Derived.Lib.ConvBytes
import Derived.Laws.Slices
import Derived.WalkKit
import Derived.KernelRfl
import Derived.RowKit3
import Derived.Deep.LoopGhost
import Derived.Deep.QuietTactic
import Derived.BigQuiet
import Derived.WideLaws
import Derived.Deep.DeepCutAuto
import Derived.Deep.CutBlock
import Derived.Deep.RegionHeld3
import Derived.Laws.Rows
import Derived.Lib.AppendStr
import Derived.ArgAppend
import Derived.Laws.IdiomCopy
import Derived.OrdersHeld
import Derived.Laws.BitsLemmas
import Derived.RowKit
import Derived.Handed
import Derived.HandedShaped
import Derived.SizedLaws
import Derived.LaidLaws
import Derived.Shelf.Vars
import Derived.Test.YthhgcdfdjlijjaaDoorV1
set_option linter.unusedVariables false
set_option linter.unusedSimpArgs false
namespace Go.Proofs
open Go.Shelf
set_option linter.unusedVariables false
open Go.RowKit in
open Go.RowKit in
def Tryd.laysM171_ren : Go.Shelf.Ren := ⟨fun | 171 => 36 | 243 => 54 | 246 => 66 | 283 => 79 | 284 => 80 | 285 => 81 | 286 => 82 | 129 => 97 | 317 => 96 | 318 => 98 | 319 => 99 | 320 => 100 | 337 => 109 | 338 => 110 | n => n, fun | 3 => 3 | 9 => 9 | 2 => 2 | 4 => 4 | 171 => 98 | 0 => 0 | 53 => 99 | 37 => 41 | 5 => 5 | 173 => 102 | 212 => 116 | 51 => 117 | 20 => 20 | 213 => 118 | 46 => 113 | 232 => 136 | 233 => 137 | n => n, fun | 17 => 1 | 18 => 4 | 19 => 5 | n => n⟩
theorem Tryd.laysM171 : Go.Proofs.LaysM.n171 Tryd.prog Tryd.laysM171_ren := {
 mixed := by kernel_rfl
 f129 := Tryd.func97.trans (congrArg some (by kernel_rfl))
 f171 := Tryd.func36.trans (congrArg some (by kernel_rfl))
 f243 := Tryd.func54.trans (congrArg some (by kernel_rfl))
 f246 := Tryd.func66.trans (congrArg some (by kernel_rfl))
 f283 := Tryd.func79.trans (congrArg some (by kernel_rfl))
 f284 := Tryd.func80.trans (congrArg some (by kernel_rfl))
 f285 := Tryd.func81.trans (congrArg some (by kernel_rfl))
 f286 := Tryd.func82.trans (congrArg some (by kernel_rfl))
 f317 := Tryd.func96.trans (congrArg some (by kernel_rfl))
 f318 := Tryd.func98.trans (congrArg some (by kernel_rfl))
 f319 := Tryd.func99.trans (congrArg some (by kernel_rfl))
 f320 := Tryd.func100.trans (congrArg some (by kernel_rfl))
 f337 := Tryd.func109.trans (congrArg some (by kernel_rfl))
 f338 := Tryd.func110.trans (congrArg some (by kernel_rfl))
 t0 := Tryd.underlying0
 a0 := Tryd.isAgg0
 z0 := Tryd.sizeOf0
 v0 := Tryd.zeroValue0
 t2 := Tryd.underlying2
 a2 := Tryd.isAgg2
 z2 := Tryd.sizeOf2
 v2 := Tryd.zeroValue2
 t3 := Tryd.underlying3
 a3 := Tryd.isAgg3
 z3 := Tryd.sizeOf3
 v3 := Tryd.zeroValue3
 t4 := Tryd.underlying4
 a4 := Tryd.isAgg4
 z4 := Tryd.sizeOf4
 v4 := Tryd.zeroValue4
 t5 := Tryd.underlying5
 a5 := Tryd.isAgg5
 z5 := Tryd.sizeOf5
 v5 := Tryd.zeroValue5
 t9 := Tryd.underlying9
 a9 := Tryd.isAgg9
 z9 := Tryd.sizeOf9
 v9 := Tryd.zeroValue9
 t20 := Tryd.underlying20
 a20 := Tryd.isAgg20
 z20 := Tryd.sizeOf20
 v20 := Tryd.zeroValue20
 t37 := Tryd.underlying41
 a37 := Tryd.isAgg41
 z37 := Tryd.sizeOf41
 v37 := Tryd.zeroValue41
 t46 := Tryd.underlying113
 a46 := Tryd.isAgg113
 z46 := Tryd.sizeOf113
 v46 := Tryd.zeroValue113
 t51 := Tryd.underlying117
 a51 := Tryd.isAgg117
 z51 := Tryd.sizeOf117
 v51 := Tryd.zeroValue117
 t53 := Tryd.underlying99
 a53 := Tryd.isAgg99
 z53 := Tryd.sizeOf99
 v53 := Tryd.zeroValue99
 t171 := Tryd.underlying98
 a171 := Tryd.isAgg98
 z171 := Tryd.sizeOf98
 v171 := Tryd.zeroValue98
 t173 := Tryd.underlying102
 a173 := Tryd.isAgg102
 z173 := Tryd.sizeOf102
 v173 := Tryd.zeroValue102
 t212 := Tryd.underlying116
 a212 := Tryd.isAgg116
 z212 := Tryd.sizeOf116
 v212 := Tryd.zeroValue116
 t213 := Tryd.underlying118
 a213 := Tryd.isAgg118
 z213 := Tryd.sizeOf118
 t232 := Tryd.underlying136
 a232 := Tryd.isAgg136
 z232 := Tryd.sizeOf136
 v232 := Tryd.zeroValue136
 t233 := Tryd.underlying137
 a233 := Tryd.isAgg137
 z233 := Tryd.sizeOf137
 v233 := Tryd.zeroValue137
 g17 := by kernel_rfl
 g18 := by kernel_rfl
 g19 := by kernel_rfl
 i0 := by kernel_rfl
 i2 := by kernel_rfl
 i3 := by kernel_rfl
 i4 := by kernel_rfl
 i5 := by kernel_rfl
 i9 := by kernel_rfl
 i20 := by kernel_rfl
 i37 := by kernel_rfl
 i46 := by kernel_rfl
 i51 := by kernel_rfl
 i53 := by kernel_rfl
 i171 := by kernel_rfl
 i173 := by kernel_rfl
 i212 := by kernel_rfl
 i232 := by kernel_rfl
 i233 := by kernel_rfl
 m17 := by kernel_rfl
 m18 := by kernel_rfl
 m19 := by kernel_rfl }
open Go.RowKit Go.Sort Go.Lib in
theorem Tryd.strconv_Itoa (n : Int) (h0 : -9223372036854775808 ≤ n) (h1 : n ≤ 9223372036854775807) (w : World) (htab : Lib.TabIs Tryd.prog w "internal/strconv.uint64pow10" .u64 Lib.pow10Tab) :
  Calls Tryd.prog 36 #[.int .i64 n] w fun e w' => e = .returned (.string ⟨(Lib.itoa n).toArray⟩) ∧ ∃ k os, w' = grow (w.drewN k) os := Any.strconv_Itoa Tryd.laysM171 n h0 h1 w htab
def Tryd.laysC172_ren : Go.Shelf.Ren := ⟨fun | 172 => 62 | 244 => 75 | 245 => 76 | 247 => 87 | 279 => 88 | 280 => 89 | 281 => 90 | 282 => 91 | 287 => 104 | 316 => 105 | 171 => 36 | 205 => 106 | 321 => 111 | 322 => 112 | 243 => 54 | 246 => 66 | 283 => 79 | 284 => 80 | 285 => 81 | 286 => 82 | 129 => 97 | 317 => 96 | 318 => 98 | 319 => 99 | 320 => 100 | 337 => 109 | 338 => 110 | n => n, fun | 9 => 9 | 3 => 3 | 75 => 78 | 76 => 79 | 4 => 4 | 5 => 5 | 167 => 107 | 37 => 41 | 0 => 0 | 85 => 108 | 2 => 2 | 168 => 110 | 53 => 99 | 175 => 123 | 46 => 113 | 210 => 127 | 127 => 106 | 145 => 135 | 143 => 133 | 21 => 21 | 171 => 98 | 173 => 102 | 212 => 116 | 51 => 117 | 20 => 20 | 213 => 118 | 232 => 136 | 233 => 137 | 80 => 95 | n => n, fun | 15 => 2 | 16 => 3 | 17 => 1 | 18 => 4 | 19 => 5 | n => n⟩
theorem Tryd.laysC172 : Go.Proofs.LaysC.n172 Tryd.prog Tryd.laysC172_ren := {
 mixed := by kernel_rfl
 f129 := Tryd.func97.trans (congrArg some (by kernel_rfl))
 f171 := Tryd.func36.trans (congrArg some (by kernel_rfl))
 f172 := Tryd.func62.trans (congrArg some (by kernel_rfl))
 f205 := Tryd.func106.trans (congrArg some (by kernel_rfl))
 f243 := Tryd.func54.trans (congrArg some (by kernel_rfl))
 f244 := Tryd.func75.trans (congrArg some (by kernel_rfl))
 f245 := Tryd.func76.trans (congrArg some (by kernel_rfl))
 f246 := Tryd.func66.trans (congrArg some (by kernel_rfl))
 f247 := Tryd.func87.trans (congrArg some (by kernel_rfl))
 f279 := Tryd.func88.trans (congrArg some (by kernel_rfl))
 f280 := Tryd.func89.trans (congrArg some (by kernel_rfl))
 f281 := Tryd.func90.trans (congrArg some (by kernel_rfl))
 f282 := Tryd.func91.trans (congrArg some (by kernel_rfl))
 f283 := Tryd.func79.trans (congrArg some (by kernel_rfl))
 f284 := Tryd.func80.trans (congrArg some (by kernel_rfl))
 f285 := Tryd.func81.trans (congrArg some (by kernel_rfl))
 f286 := Tryd.func82.trans (congrArg some (by kernel_rfl))
 f287 := Tryd.func104.trans (congrArg some (by kernel_rfl))
 f316 := Tryd.func105.trans (congrArg some (by kernel_rfl))
 f317 := Tryd.func96.trans (congrArg some (by kernel_rfl))
 f318 := Tryd.func98.trans (congrArg some (by kernel_rfl))
 f319 := Tryd.func99.trans (congrArg some (by kernel_rfl))
 f320 := Tryd.func100.trans (congrArg some (by kernel_rfl))
 f321 := Tryd.func111.trans (congrArg some (by kernel_rfl))
 f322 := Tryd.func112.trans (congrArg some (by kernel_rfl))
 f337 := Tryd.func109.trans (congrArg some (by kernel_rfl))
 f338 := Tryd.func110.trans (congrArg some (by kernel_rfl))
 t0 := Tryd.underlying0
 a0 := Tryd.isAgg0
 z0 := Tryd.sizeOf0
 v0 := Tryd.zeroValue0
 t2 := Tryd.underlying2
 a2 := Tryd.isAgg2
 z2 := Tryd.sizeOf2
 v2 := Tryd.zeroValue2
 t3 := Tryd.underlying3
 a3 := Tryd.isAgg3
 z3 := Tryd.sizeOf3
 v3 := Tryd.zeroValue3
 t4 := Tryd.underlying4
 a4 := Tryd.isAgg4
 z4 := Tryd.sizeOf4
 v4 := Tryd.zeroValue4
 t5 := Tryd.underlying5
 a5 := Tryd.isAgg5
 z5 := Tryd.sizeOf5
 v5 := Tryd.zeroValue5
 t9 := Tryd.underlying9
 a9 := Tryd.isAgg9
 z9 := Tryd.sizeOf9
 v9 := Tryd.zeroValue9
 t20 := Tryd.underlying20
 a20 := Tryd.isAgg20
 z20 := Tryd.sizeOf20
 v20 := Tryd.zeroValue20
 t21 := Tryd.underlying21
 a21 := Tryd.isAgg21
 z21 := Tryd.sizeOf21
 v21 := Tryd.zeroValue21
 t37 := Tryd.underlying41
 a37 := Tryd.isAgg41
 z37 := Tryd.sizeOf41
 v37 := Tryd.zeroValue41
 t46 := Tryd.underlying113
 a46 := Tryd.isAgg113
 z46 := Tryd.sizeOf113
 v46 := Tryd.zeroValue113
 t51 := Tryd.underlying117
 a51 := Tryd.isAgg117
 z51 := Tryd.sizeOf117
 v51 := Tryd.zeroValue117
 t53 := Tryd.underlying99
 a53 := Tryd.isAgg99
 z53 := Tryd.sizeOf99
 v53 := Tryd.zeroValue99
 t75 := Tryd.underlying78
 a75 := Tryd.isAgg78
 z75 := Tryd.sizeOf78
 v75 := Tryd.zeroValue78
 t76 := Tryd.underlying79
 a76 := Tryd.isAgg79
 z76 := Tryd.sizeOf79
 v76 := Tryd.zeroValue79
 t85 := Tryd.underlying108
 a85 := Tryd.isAgg108
 z85 := Tryd.sizeOf108
 v85 := Tryd.zeroValue108
 t127 := Tryd.underlying106
 a127 := Tryd.isAgg106
 z127 := Tryd.sizeOf106
 v127 := Tryd.zeroValue106
 t143 := Tryd.underlying133
 a143 := Tryd.isAgg133
 z143 := Tryd.sizeOf133
 v143 := Tryd.zeroValue133
 t145 := Tryd.underlying135
 a145 := Tryd.isAgg135
 z145 := Tryd.sizeOf135
 v145 := Tryd.zeroValue135
 t167 := Tryd.underlying107
 a167 := Tryd.isAgg107
 z167 := Tryd.sizeOf107
 v167 := Tryd.zeroValue107
 t168 := Tryd.underlying110
 a168 := Tryd.isAgg110
 z168 := Tryd.sizeOf110
 v168 := Tryd.zeroValue110
 t171 := Tryd.underlying98
 a171 := Tryd.isAgg98
 z171 := Tryd.sizeOf98
 v171 := Tryd.zeroValue98
 t173 := Tryd.underlying102
 a173 := Tryd.isAgg102
 z173 := Tryd.sizeOf102
 v173 := Tryd.zeroValue102
 t175 := Tryd.underlying123
 a175 := Tryd.isAgg123
 z175 := Tryd.sizeOf123
 v175 := Tryd.zeroValue123
 t210 := Tryd.underlying127
 a210 := Tryd.isAgg127
 z210 := Tryd.sizeOf127
 v210 := Tryd.zeroValue127
 t212 := Tryd.underlying116
 a212 := Tryd.isAgg116
 z212 := Tryd.sizeOf116
 v212 := Tryd.zeroValue116
 t213 := Tryd.underlying118
 a213 := Tryd.isAgg118
 z213 := Tryd.sizeOf118
 t232 := Tryd.underlying136
 a232 := Tryd.isAgg136
 z232 := Tryd.sizeOf136
 v232 := Tryd.zeroValue136
 t233 := Tryd.underlying137
 a233 := Tryd.isAgg137
 z233 := Tryd.sizeOf137
 v233 := Tryd.zeroValue137
 g15 := by kernel_rfl
 g16 := by kernel_rfl
 g17 := by kernel_rfl
 g18 := by kernel_rfl
 g19 := by kernel_rfl
 t80 := Tryd.underlying95
 a80 := Tryd.isAgg95
 z80 := Tryd.sizeOf95
 v80 := Tryd.zeroValue95
 i0 := by kernel_rfl
 i2 := by kernel_rfl
 i3 := by kernel_rfl
 i4 := by kernel_rfl
 i5 := by kernel_rfl
 i9 := by kernel_rfl
 i20 := by kernel_rfl
 i21 := by kernel_rfl
 i37 := by kernel_rfl
 i46 := by kernel_rfl
 i51 := by kernel_rfl
 i53 := by kernel_rfl
 i75 := by kernel_rfl
 i76 := by kernel_rfl
 i80 := by kernel_rfl
 i85 := by kernel_rfl
 i127 := by kernel_rfl
 i143 := by kernel_rfl
 i145 := by kernel_rfl
 i167 := by kernel_rfl
 i168 := by kernel_rfl
 i171 := by kernel_rfl
 i173 := by kernel_rfl
 i175 := by kernel_rfl
 i210 := by kernel_rfl
 i212 := by kernel_rfl
 i232 := by kernel_rfl
 i233 := by kernel_rfl
 m15 := by kernel_rfl
 m16 := by kernel_rfl
 m17 := by kernel_rfl
 m18 := by kernel_rfl
 m19 := by kernel_rfl
 c0 := by kernel_rfl
 c2 := by kernel_rfl
 c3 := by kernel_rfl
 c4 := by kernel_rfl
 c5 := by kernel_rfl
 c9 := by kernel_rfl
 c20 := by kernel_rfl
 c21 := by kernel_rfl
 c37 := by kernel_rfl
 c46 := by kernel_rfl
 c51 := by kernel_rfl
 c53 := by kernel_rfl
 c75 := by kernel_rfl
 c76 := by kernel_rfl
 c80 := by kernel_rfl
 c85 := by kernel_rfl
 c127 := by kernel_rfl
 c143 := by kernel_rfl
 c145 := by kernel_rfl
 c167 := by kernel_rfl
 c168 := by kernel_rfl
 c171 := by kernel_rfl
 c173 := by kernel_rfl
 c175 := by kernel_rfl
 c210 := by kernel_rfl
 c212 := by kernel_rfl
 c213 := by kernel_rfl
 c232 := by kernel_rfl
 c233 := by kernel_rfl }
open Go.RowKit in
theorem Tryd.strconv_Atoi_ok (s : ByteArray) (hmax : s.size ≤ 9223372036854775806) (v : Int) (h : Lib.atoiAll s.data.toList = .ok v) (w : World) :
  Calls Tryd.prog 62 #[.string s] w fun e w' => e = .returned (.tuple #[.int .i64 v, .nilIface]) ∧ (w' = w ∨ ∃ t, w' = Lib.bytesWorld w 5 t) := Any.strconv_Atoi_ok Tryd.laysC172 s hmax v h w
def Tryd.lays145_ren : Go.Shelf.Ren := ⟨fun | 145 => 53 | 220 => 65 | 219 => 78 | 217 => 92 | 225 => 93 | 224 => 94 | 267 => 95 | 266 => 107 | 314 => 108 | n => n, fun | 9 => 9 | 4 => 4 | 59 => 68 | 3 => 3 | 5 => 5 | 46 => 113 | 146 => 129 | 51 => 117 | n => n, fun | 1 => 0 | n => n⟩
theorem Tryd.lays145 : Go.Proofs.Lays.n145 Tryd.prog Tryd.lays145_ren := {
 mixed := by kernel_rfl
 f145 := Tryd.func53.trans (congrArg some (by kernel_rfl))
 f217 := Tryd.func92.trans (congrArg some (by kernel_rfl))
 f219 := Tryd.func78.trans (congrArg some (by kernel_rfl))
 f220 := Tryd.func65.trans (congrArg some (by kernel_rfl))
 f224 := Tryd.func94.trans (congrArg some (by kernel_rfl))
 f225 := Tryd.func93.trans (congrArg some (by kernel_rfl))
 f266 := Tryd.func107.trans (congrArg some (by kernel_rfl))
 f267 := Tryd.func95.trans (congrArg some (by kernel_rfl))
 f314 := Tryd.func108.trans (congrArg some (by kernel_rfl))
 t3 := Tryd.underlying3
 a3 := Tryd.isAgg3
 z3 := Tryd.sizeOf3
 v3 := Tryd.zeroValue3
 t4 := Tryd.underlying4
 a4 := Tryd.isAgg4
 z4 := Tryd.sizeOf4
 v4 := Tryd.zeroValue4
 t5 := Tryd.underlying5
 a5 := Tryd.isAgg5
 z5 := Tryd.sizeOf5
 v5 := Tryd.zeroValue5
 t9 := Tryd.underlying9
 a9 := Tryd.isAgg9
 z9 := Tryd.sizeOf9
 v9 := Tryd.zeroValue9
 t46 := Tryd.underlying113
 a46 := Tryd.isAgg113
 z46 := Tryd.sizeOf113
 v46 := Tryd.zeroValue113
 t51 := Tryd.underlying117
 a51 := Tryd.isAgg117
 z51 := Tryd.sizeOf117
 v51 := Tryd.zeroValue117
 t59 := Tryd.underlying68
 a59 := Tryd.isAgg68
 z59 := Tryd.sizeOf68
 v59 := Tryd.zeroValue68
 t146 := Tryd.underlying129
 a146 := Tryd.isAgg129
 z146 := Tryd.sizeOf129
 v146 := Tryd.zeroValue129
 g1 := by kernel_rfl }
open Go.RowKit Go.Lib in
theorem Tryd.strings_Cut (s sep : ByteArray) (m : Int) (w : World) (hs : s.size < 4294967281) (hm : w.cell? ⟨0, 0, none⟩ = some (.int .i64 m)) :
  Calls Tryd.prog 53 #[.string s, .string sep] w fun e w' => e = .returned (.tuple #[.string ⟨(Lib.cut s.data.toList sep.data.toList).1.toArray⟩, .string ⟨(Lib.cut s.data.toList sep.data.toList).2.1.toArray⟩, .bool (Lib.cut s.data.toList sep.data.toList).2.2]) ∧ ∃ n, w' = w.drewN n := Any.strings_Cut Tryd.lays145 s sep m w hs hm
end Go.Proofs
namespace Go.Proofs.YthhgcdfdjlijjaaDoor.G
open Go.RowKit Go.Proofs.YthhgcdfdjlijjaaDoorW.PrintWords Go.Proofs.YthhgcdfdjlijjaaDoorW.PrintLast Go.Proofs.YthhgcdfdjlijjaaDoorW.PrintMore
set_option linter.unusedVariables false
set_option linter.unusedSimpArgs false
noncomputable def gOf (n : String) : Nat := (Tryd.prog.globalNamed n).getD 0
def T1 (w : World) : Prop := Lib.TabIs Tryd.prog w "internal/strconv.uint64pow10" .u64 Lib.pow10Tab
def T2 (w : World) : Prop := T1 w ∧ (∃ ev, w.cell? ⟨gOf "strconv.ErrSyntax", 0, none⟩ = some ev ∧ (ev = .nilIface ∨ ∃ te pe, ev = .iface te pe)) ∧ (∃ ev, w.cell? ⟨gOf "strconv.ErrRange", 0, none⟩ = some ev ∧ (ev = .nilIface ∨ ∃ te pe, ev = .iface te pe))
def T3 (w : World) : Prop := T2 w ∧ ∃ m, w.cell? ⟨gOf "internal/bytealg.MaxLen", 0, none⟩ = some (.int .i64 m)
theorem T1.below {w w' : World} (h : T1 w) (hb : Below w.heap.size w w') : T1 w' := Go.Joins.tab_stays (g := gOf "internal/strconv.uint64pow10") (by kernel_rfl) h hb (Nat.le_refl _)
theorem cell_stays {w w' : World} {g : Nat} {v : Value} (h : w.cell? ⟨g, 0, none⟩ = some v) (hb : Below w.heap.size w w') : w'.cell? ⟨g, 0, none⟩ = some v := (hb.cell (World.block_lt_of_cell? w _ h)).trans h
theorem T2.below {w w' : World} (h : T2 w) (hb : Below w.heap.size w w') : T2 w' := by
 obtain ⟨h1, ⟨e, he, h2⟩, ⟨e', he', h3⟩⟩ := h
 exact ⟨h1.below hb, ⟨e, cell_stays he hb, h2⟩, ⟨e', cell_stays he' hb, h3⟩⟩
theorem T3.below {w w' : World} (h : T3 w) (hb : Below w.heap.size w w') : T3 w' := by
 obtain ⟨h1, m, hm⟩ := h
 exact ⟨h1.below hb, m, cell_stays hm hb⟩
theorem T2.to1 {w : World} (h : T2 w) : T1 w := h.1
theorem T3.to2 {w : World} (h : T3 w) : T2 w := h.1
theorem T3.to1 {w : World} (h : T3 w) : T1 w := h.1.1
def itoaB (n : Int) : ByteArray := ⟨(Lib.itoa n).toArray⟩
theorem itoa_calls {n : Int} (h0 : -9223372036854775808 ≤ n) (h1 : n ≤ 9223372036854775807) {w : World} (hT : T1 w) : Calls Tryd.prog 36 #[.int .i64 n] w fun e w' => e = .returned (.string (itoaB n)) ∧ Below w.heap.size w w' :=
 (Tryd.strconv_Itoa n h0 h1 w hT).mono fun e w' ⟨he, k, os, hw⟩ => ⟨he, hw ▸ Lib.below_grow _ w (Nat.le_refl _) k os⟩
def impl_whole.f (s : ByteArray) (least most : Int) : Option (Int × Bool) :=
 if s.size ≤ 281474976710656 then
  match Lib.atoiAll s.data.toList with
  | .ok v => if v < least then some (0, false) else if v > most then some (0, false) else if (itoaB v).toList = s.toList then some (v, true) else some (0, false)
  | _ => some (0, false)
 else none
theorem bytes_below' {w w' : World} {t : TypeId} {s : ByteArray} (h : w' = w ∨ ∃ t', w' = Lib.bytesWorld w t t') : Below w.heap.size w w' := by
 rcases h with rfl | ⟨s, rfl⟩
 ·exact Below.refl _ _
 exact bytes_below (Below.refl _ _) (Nat.le_refl _) _ _
theorem atoi_err {s : ByteArray} (hs : s.size ≤ 281474976710656) (h : ∀ v, Lib.atoiAll s.data.toList ≠ .ok v) {w : World} (hT : T2 w) :
  Calls Tryd.prog 62 #[.string s] w fun e w' => ∃ v t p, e = .returned (.tuple #[.int .i64 v, .iface t p]) ∧ Below w.heap.size w w' := by
 obtain ⟨hT1, ⟨e1, he1, k1⟩, ⟨e2, he2, k2⟩⟩ := hT
 cases ha : Lib.atoiAll s.data.toList
 ·exact absurd ha (h _)
 ·exact (Any.strconv_Atoi_syntax Tryd.laysC172 s hs ha e1 w he1 k1).mono fun e w' ⟨N, he, _, _, hb⟩ => ⟨_, _, _, he, hb⟩
 exact (Any.strconv_Atoi_range Tryd.laysC172 s hs ha e2 w he2 k2).mono fun e w' ⟨N, he, _, _, hb⟩ => ⟨_, _, _, he, hb⟩
theorem impl_whole.calls (a0 : ByteArray) (a1 : Int) (a2 : Int) (r1 : Int) (r2 : Bool) (w : World) (h : impl_whole.f a0 a1 a2 = some (r1, r2)) (hT : T2 w) :
  Calls Tryd.prog 46 #[.string a0, .int .i64 a1, .int .i64 a2] w fun e w' => e = .returned (.tuple #[.int .i64 r1, .bool r2]) ∧ Below w.heap.size w w' := by
 unfold impl_whole.f at h
 by_cases hs : a0.size ≤ 281474976710656
 ·rw [if_pos hs] at h
  by_cases ha' : ∀ v, Lib.atoiAll a0.data.toList ≠ .ok v
  ·have A := atoi_err hs ha' hT
   have h' : some ((0 : Int), false) = some (r1, r2) := by
    revert h
    cases ha : Lib.atoiAll a0.data.toList
    ·exact absurd ha (ha' _)
    ·exact id
    ·exact id
   simp only [Option.some.injEq, Prod.mk.injEq] at h'
   obtain ⟨rfl, rfl⟩ := h'
   clear h ha'
   go_enter Tryd.func46, Tryd.ntmps46
   go_wp2_with (go_at_call 62; refine A.mono ?_; rintro e w1 ⟨v, t, p, rfl, hb1⟩; have HB1 := Aside0.mk hb1; clear hb1)
   go_ret2
   exact ⟨rfl, HB1.out⟩
  obtain ⟨v, ha⟩ : ∃ v, Lib.atoiAll a0.data.toList = .ok v := Classical.byContradiction fun hn => ha' fun v hv => hn ⟨v, hv⟩
  clear ha'
  have hT1 := hT.to1
  rw [ha] at h
  simp only at h
  have vb : -9223372036854775808 ≤ v ∧ v ≤ 9223372036854775807 := Lib.atoiAll_bounds ha
  have A := (Tryd.strconv_Atoi_ok a0 (by omega) v ha w)
  by_cases c1 : v < a1
  ·rw [if_pos c1] at h
   have c1b : decide (v < a1) = true := decide_eq_true c1
   simp only [Option.some.injEq, Prod.mk.injEq] at h
   obtain ⟨rfl, rfl⟩ := h
   go_enter Tryd.func46, Tryd.ntmps46
   go_wp2_with (go_at_call 62; refine A.mono ?_; rintro e w1 ⟨rfl, hb1⟩; have HB1 := Aside0.mk (bytes_below' (s := a0) hb1); clear hb1)
   go_ret2
   exact ⟨rfl, HB1.out⟩
  rw [if_neg c1] at h
  have c1b : decide (v < a1) = false := decide_eq_false c1
  by_cases c2 : v > a2
  ·rw [if_pos c2] at h
   have c2b : decide (a2 < v) = true := decide_eq_true c2
   simp only [Option.some.injEq, Prod.mk.injEq] at h
   obtain ⟨rfl, rfl⟩ := h
   go_enter Tryd.func46, Tryd.ntmps46
   go_wp2_with (go_at_call 62; refine A.mono ?_; rintro e w1 ⟨rfl, hb1⟩; have HB1 := Aside0.mk (bytes_below' (s := a0) hb1); clear hb1)
   go_ret2
   exact ⟨rfl, HB1.out⟩
  rw [if_neg c2] at h
  have c2b : decide (a2 < v) = false := decide_eq_false c2
  by_cases c3 : (itoaB v).toList = a0.toList
  ·rw [if_pos c3] at h
   have c3b0 := beq_iff_eq.mpr c3
   have c3b1 := bne_eq_false_iff_eq.mpr c3
   simp only [Option.some.injEq, Prod.mk.injEq] at h
   obtain ⟨rfl, rfl⟩ := h
   go_enter Tryd.func46, Tryd.ntmps46
   go_wp2_with (first | (go_at_call 62; refine A.mono ?_; rintro e w1 ⟨rfl, hb1⟩; have HB1 := Aside0.mk (bytes_below' (s := a0) hb1); clear hb1) | (go_at_call 36; refine (itoa_calls vb.1 vb.2 (hT1.below HB1.out)).mono ?_; rintro e w2 ⟨rfl, hb2⟩; have HB2 := Aside0.mk (below_step HB1.out hb2); clear hb2))
   go_ret2
   exact ⟨rfl, HB2.out⟩
  rw [if_neg c3] at h
  have c3b0 := beq_eq_false_iff_ne.mpr c3
  have c3b1 := bne_iff_ne.mpr c3
  simp only [Option.some.injEq, Prod.mk.injEq] at h
  obtain ⟨rfl, rfl⟩ := h
  go_enter Tryd.func46, Tryd.ntmps46
  go_wp2_with (first | (go_at_call 62; refine A.mono ?_; rintro e w1 ⟨rfl, hb1⟩; have HB1 := Aside0.mk (bytes_below' (s := a0) hb1); clear hb1) | (go_at_call 36; refine (itoa_calls vb.1 vb.2 (hT1.below HB1.out)).mono ?_; rintro e w2 ⟨rfl, hb2⟩; have HB2 := Aside0.mk (below_step HB1.out hb2); clear hb2))
  go_ret2
  exact ⟨rfl, HB2.out⟩
 rw [if_neg hs] at h
 cases h
def strings_Cut.f (s t : ByteArray) : Option (ByteArray × ByteArray × Bool) :=
 if s.size < 4294967281 then some (⟨(Lib.cut s.data.toList t.data.toList).1.toArray⟩, ⟨(Lib.cut s.data.toList t.data.toList).2.1.toArray⟩, (Lib.cut s.data.toList t.data.toList).2.2) else none
theorem strings_Cut.calls (a0 : ByteArray) (a1 : ByteArray) (r1 : ByteArray) (r2 : ByteArray) (r3 : Bool) (w : World) (h : strings_Cut.f a0 a1 = some (r1, r2, r3)) (hT : T3 w) :
  Calls Tryd.prog 53 #[.string a0, .string a1] w fun e w' => e = .returned (.tuple #[.string r1, .string r2, .bool r3]) ∧ Below w.heap.size w w' := by
 unfold strings_Cut.f at h
 by_cases hs : a0.size < 4294967281
 ·rw [if_pos hs] at h
  simp only [Option.some.injEq, Prod.mk.injEq] at h
  obtain ⟨rfl, rfl, rfl⟩ := h
  obtain ⟨_, m, hm⟩ := hT
  refine (Tryd.strings_Cut a0 a1 m w hs hm).mono fun e w' ⟨he, k, hw⟩ => ⟨he, ?_⟩
  subst hw
  exact Lib.below_grow _ w (Nat.le_refl _) k #[]
 rw [if_neg hs] at h
 cases h
end Go.Proofs.YthhgcdfdjlijjaaDoor.G
namespace Go.Proofs.YthhgcdfdjlijjaaDoor.G
open Go.RowKit
set_option linter.unusedVariables false
def l5 : List (String × DataW Unit) := [("math/bits.deBruijn32tab", Rows.laid_math_bits_deBruijn32tab), ("math/bits.deBruijn64tab", Rows.laid_math_bits_deBruijn64tab), ("internal/strconv.uint64pow10", Rows.laid_internal_strconv_uint64pow10), ("strconv.ErrRange", Rows.laid_strconv_ErrRange), ("strconv.ErrSyntax", Rows.laid_strconv_ErrSyntax)]
noncomputable def tabT : Nat := ((Tryd.prog.globals[gOf "internal/strconv.uint64pow10"]?).map (·.type)).getD 0
theorem tab_of {r : List (String × DataW Unit)} {W : World} (h : laidMet Tryd.prog (("internal/strconv.uint64pow10", Rows.laid_internal_strconv_uint64pow10) :: r) W) : T1 W :=
 Lib.tabIs_of_head (g := gOf "internal/strconv.uint64pow10") (t := tabT) (e := 99) (n := 20) (by kernel_rfl) (by kernel_rfl) (by kernel_rfl) (by kernel_rfl) (by kernel_rfl) (by kernel_rfl) h
theorem star : "*" ++ "errors.errorString" = "*errors.errorString" := by decide
theorem rowE (u : TypeId) (h : Tryd.prog.typeName? 3 u = some "*errors.errorString") : u = 133 :=
 typeName_ptr_named (nm := "errors.errorString") (by rw [star]; kernel_rfl) (by kernel_rfl) (by decide) u (by rw [star]; exact h)
theorem err_of {n : String} {text : List UInt8} {r : List (String × DataW Unit)} {W : World} (hg : Tryd.prog.globalNamed n = some (gOf n)) (ht : (Tryd.prog.globals[gOf n]?).map (·.type) = some 78)
  (h : laidMet Tryd.prog ((n, .iface "*errors.errorString" (.ptr (.agg [.lit (.string text)]))) :: r) W) : ∃ ev, W.cell? ⟨gOf n, 0, none⟩ = some ev ∧ (ev = .nilIface ∨ ∃ te pe, ev = .iface te pe) := by
 obtain ⟨a, s, hv, _⟩ := laid_sentinel h hg ht Tryd.underlying78 rowE Tryd.underlying133 Tryd.underlying135 rfl rfl Tryd.underlying9 (by kernel_rfl) (by kernel_rfl)
 exact ⟨_, by simpa using World.var?_cell hg hv 0, .inr ⟨_, _, rfl⟩⟩
theorem laid5_T1 {W : World} (h : laidMetH Tryd.prog l5 W) : T1 W := by
 rw [MakeChecks.laidMetH_plain _ _ _ (by kernel_rfl)] at h
 exact tab_of h.tail.tail
theorem laid5_T2 {W : World} (h : laidMetH Tryd.prog l5 W) : T2 W := by
 refine ⟨laid5_T1 h, ?_, ?_⟩
 ·rw [MakeChecks.laidMetH_plain _ _ _ (by kernel_rfl)] at h
  exact err_of (by kernel_rfl) (by kernel_rfl) h.tail.tail.tail.tail
 ·rw [MakeChecks.laidMetH_plain _ _ _ (by kernel_rfl)] at h
  exact err_of (by kernel_rfl) (by kernel_rfl) h.tail.tail.tail
set_option maxRecDepth 100000 in
theorem met5 (os : Os) (args : Array Value) : laidMetH Tryd.prog l5 ((World.doorLaid Tryd.prog 62 os).forCall (fun _ _ => 0) ⟨#[], args, []⟩).memory :=
 laidMetH_of_parts3 (fuel := 8) (laidMet_of_run' 8 (by kernel_rfl) (by kernel_rfl)) (by kernel_rfl) (by kernel_rfl)
end Go.Proofs.YthhgcdfdjlijjaaDoor.G
namespace Go.Proofs.YthhgcdfdjlijjaaDoor.PX
open Go.RowKit Go.Proofs.YthhgcdfdjlijjaaDoor.G Go.Proofs.YthhgcdfdjlijjaaDoorW.PrintWords Go.Proofs.YthhgcdfdjlijjaaDoorW.PrintLast Go.Proofs.YthhgcdfdjlijjaaDoorW.PrintMore
attribute [local go_sem] max2_int min2_int max_two min_two max_three min_three max_four min_four   -- for this text's walks alone
set_option linter.unusedVariables false
set_option linter.unusedSimpArgs false
def errW : Option Int → Value
 | none => .nilIface
 | some c => .iface 107 (.int .i64 c)
theorem errW_none : errW none = .nilIface := rfl
theorem errW_some (c : Int) : errW (some c) = .iface 107 (.int .i64 c) := rfl
theorem info9 : (Tryd.prog.info? 9).map (fun i => (i.zero, i.size, i.bytes)) = some (some (.string ⟨#[]⟩), 1, 16) := by kernel_rfl
theorem info55 : (Tryd.prog.info? 55).map (fun i => (i.zero, i.size, i.bytes)) = some (some (.agg #[(.int .i64 0), (.int .i64 0)]), 2, 16) := by kernel_rfl
theorem info76 : (Tryd.prog.info? 76).map (fun i => (i.zero, i.size, i.bytes)) = some (some (.agg #[(.int .i64 0), (.int .i64 0), (.int .i64 0)]), 3, 24) := by kernel_rfl
/-! #### struct type 58 -/
structure S58 where
 f0 : Int
 f1 : Int
/-! #### struct type 55 -/
structure S55 where
 f0 : Int
 f1 : Int
def z55 : S55 := ⟨(0 : Int), (0 : Int)⟩
def k55 : Kd S55 := Kd.iso (Kd.pair (Kd.int .i64) (Kd.int .i64)) (fun x : S55 => (x.f0, x.f1))
theorem k55_open {w : World} {x : S55} {cs : List Value} (h : k55.K w x cs) : cs = [.int .i64 x.f0, .int .i64 x.f1] := by
 obtain ⟨_, _, rfl, rfl, rfl⟩ := h
 exact rfl
theorem k55_openM {w : World} {base : Nat} {ok : Nat → Prop} {x : S55} {cs : List Value} (h : k55.M w base ok x cs) : cs = [.int .i64 x.f0, .int .i64 x.f1] := by
 obtain ⟨_, _, rfl, rfl, rfl⟩ := h
 exact rfl
theorem k55_mkM (w : World) (base : Nat) (ok : Nat → Prop) (x : S55)  : k55.M w base ok x [.int .i64 x.f0, .int .i64 x.f1] := ⟨[.int .i64 x.f0], [.int .i64 x.f1], rfl, rfl, rfl⟩
def rd_T55 (xs : List S55) (i : Int) : S55 := xs.getD i.toNat z55
theorem at_T55 {w : World} {A : Option Addr} {n : Nat} {xs : List S55} (h : Kd.C k55 w A n xs) (i : Int) (h0 : 0 ≤ i) (h1 : i < n) : ∃ ad , A = some ad ∧ w.cell? (ad.add (i.toNat * 2)) = some (.int .i64 (rd_T55 xs i).f0) ∧ w.cell? ⟨(ad.add (i.toNat * 2)).block, (ad.add (i.toNat * 2)).off + 1, none⟩ = some (.int .i64 (rd_T55 xs i).f1) := by
 obtain ⟨ad, c, e, _, hK, hc0⟩ := Kd.C_get h z55 i h0 h1
 have hc : ∀ j u, c[j]? = some u → w.cell? (ad.add (i.toNat * 2 + j)) = some u := hc0
 obtain rfl := k55_open hK
 exact ⟨ad, e, hc 0 _ rfl, by rw [← add_field _ _ 1 (by omega)]; exact hc 1 _ rfl⟩
/-! #### struct type 76 -/
structure S76 where
 f0 : Int
 f1 : Int
 f2 : Int
def z76 : S76 := ⟨(0 : Int), (0 : Int), (0 : Int)⟩
def k76 : Kd S76 := Kd.iso (Kd.pair (Kd.int .i64) (Kd.pair (Kd.int .i64) (Kd.int .i64))) (fun x : S76 => (x.f0, x.f1, x.f2))
theorem k76_open {w : World} {x : S76} {cs : List Value} (h : k76.K w x cs) : cs = [.int .i64 x.f0, .int .i64 x.f1, .int .i64 x.f2] := by
 obtain ⟨_, _, rfl, rfl, ⟨_, _, rfl, rfl, rfl⟩⟩ := h
 exact rfl
theorem k76_mkM (w : World) (base : Nat) (ok : Nat → Prop) (x : S76)  : k76.M w base ok x [.int .i64 x.f0, .int .i64 x.f1, .int .i64 x.f2] := ⟨[.int .i64 x.f0], [.int .i64 x.f1, .int .i64 x.f2], rfl, rfl, ⟨[.int .i64 x.f1], [.int .i64 x.f2], rfl, rfl, rfl⟩⟩
def rd_T76 (xs : List S76) (i : Int) : S76 := xs.getD i.toNat z76
theorem at_T76 {w : World} {A : Option Addr} {n : Nat} {xs : List S76} (h : Kd.C k76 w A n xs) (i : Int) (h0 : 0 ≤ i) (h1 : i < n) : ∃ ad , A = some ad ∧ w.cell? (ad.add (i.toNat * 3)) = some (.int .i64 (rd_T76 xs i).f0) ∧ w.cell? ⟨(ad.add (i.toNat * 3)).block, (ad.add (i.toNat * 3)).off + 1, none⟩ = some (.int .i64 (rd_T76 xs i).f1) ∧ w.cell? ⟨(ad.add (i.toNat * 3)).block, (ad.add (i.toNat * 3)).off + 2, none⟩ = some (.int .i64 (rd_T76 xs i).f2) := by
 obtain ⟨ad, c, e, _, hK, hc0⟩ := Kd.C_get h z76 i h0 h1
 have hc : ∀ j u, c[j]? = some u → w.cell? (ad.add (i.toNat * 3 + j)) = some u := hc0
 obtain rfl := k76_open hK
 exact ⟨ad, e, hc 0 _ rfl, by rw [← add_field _ _ 1 (by omega)]; exact hc 1 _ rfl, by rw [← add_field _ _ 2 (by omega)]; exact hc 2 _ rfl⟩
end Go.Proofs.YthhgcdfdjlijjaaDoor.PX
namespace Go.Proofs.YthhgcdfdjlijjaaDoor.G
open Go.RowKit Go.Proofs.YthhgcdfdjlijjaaDoorW.PrintWords Go.Proofs.YthhgcdfdjlijjaaDoorW.PrintLast Go.Proofs.YthhgcdfdjlijjaaDoorW.PrintMore Go.Proofs.YthhgcdfdjlijjaaDoor.PX
set_option linter.unusedVariables false
set_option linter.unusedSimpArgs false
def farQ (x most : Int) : Bool := decide (x < wrap64 (-most)) || decide (most < x)
set_option maxHeartbeats 8000000 in
set_option maxRecDepth 100000 in
theorem near_pred (most : Int) (B : Nat) (w : World) (x y : Int) (hB : B < w.heap.size) (hc : w.cell? ⟨B, 0, none⟩ = some (.int .i64 most)) :
  Calls Tryd.prog 68 #[.agg #[.int .i64 x, .int .i64 y], .pointer (some ⟨B, 0, none⟩)] w fun e w' => e = .returned (.bool (farQ x most || farQ y most)) ∧ Below w.heap.size w w' := by
 have hu := Tryd.underlying55
 have hne : B ≠ w.heap.size := by omega
 go_enter Tryd.func68, Tryd.ntmps68
 go_wp2
 all_goals (go_ret; exact ⟨by unfold farQ; simp_all; try omega, (Below.refl _ w).alloc (Nat.le_refl _) _⟩)
def nearIdx (most : Int) (l : List S55) : Nat → Int → Int
 | 0, _ => -1
 | d + 1, i => if (farQ (rd_T55 l i).f0 most || farQ (rd_T55 l i).f1 most) = true then i else nearIdx most l d (i + 1)
set_option maxHeartbeats 8000000 in
set_option maxRecDepth 100000 in
theorem index_near (most : Int) (B : Nat) (w : World) (A : Option Addr) (c : Nat) (l : List S55) (hB : B < w.heap.size) (hc : w.cell? ⟨B, 0, none⟩ = some (.int .i64 most)) (hr : Kd.C k55 w A l.length l) (hl : l.length ≤ c) :
  Calls Tryd.prog 83 #[.slice A l.length c, .func (.func 68) #[] #[.pointer (some ⟨B, 0, none⟩)]] w fun e w' => e = .returned (.int .i64 (nearIdx most l l.length 0)) ∧ Below w.heap.size w w' := by
 have hu := Tryd.underlying55
 go_enter Tryd.func83, Tryd.ntmps83
 go_wp2
 have HR := Aside0.mk hr
 have HC := Aside0.mk hc
 have HB0 := Aside0.mk (Below.refl w.heap.size w)
 clear hr hc
 go_loopg [8] (l.length + 1) (fun kq v8 w' => ∃ (i : Nat), v8 = .int .i64 (i : Int) ∧ Aside0 (i + kq = l.length + 1) ∧ Aside0 (1 ≤ kq) ∧ Aside0 (nearIdx most l (l.length - i) (i : Int) = nearIdx most l l.length 0) ∧ Aside0 (Below w.heap.size w w'))
 case atStart => exact ⟨0, rfl, ⟨by omega⟩, ⟨by omega⟩, ⟨rfl⟩, HB0⟩
 case round =>
 obtain ⟨i, rfl, HI, HK, HN, HB⟩ := hrel
 cases gk with
 | zero => exact absurd HK.out (by omega)
 | succ k1 =>
 by_cases g : i < l.length
 ·have g' : decide ((i : Int) < (l.length : Int)) = true := decide_eq_true (by omega)
  obtain ⟨ad, e, hx0, hx1⟩ := at_T55 (Kd.C_below HR.out HB.out) (i : Int) (by omega) (by omega)
  cases e
  have hcw : wr.cell? ⟨B, 0, none⟩ = some (.int .i64 most) := (HB.out.cell (p := ⟨B, 0, none⟩) hB).trans HC.out
  simp only [Int.toNat_natCast] at hx0 hx1
  have hBw : B < wr.heap.size := Nat.lt_of_lt_of_le hB HB.out.size
  have hp := near_pred most B wr (rd_T55 l (i : Int)).f0 (rd_T55 l (i : Int)).f1 hBw hcw
  have hd : l.length - i = (l.length - (i + 1)) + 1 := by omega
  have HN' := HN.out
  rw [hd, nearIdx] at HN'
  cases hq : (farQ (rd_T55 l (i : Int)).f0 most || farQ (rd_T55 l (i : Int)).f1 most) with
  | true =>
   rw [hq] at hp
   rw [hq, if_pos rfl] at HN'
   have HN2 := Aside0.mk HN'
   clear HN'
   go_wp2_with (go_at_call 68; refine hp.mono ?_; rintro e w1 ⟨rfl, hb1⟩; have HB1 := Aside0.mk (HB.out.trans (hb1.mono HB.out.size)))
   go_ret
   exact ⟨by rw [← HN2.out]; rfl, HB1.out⟩
  | false =>
  rw [hq] at hp
  rw [hq, if_neg (by decide)] at HN'
  have HN2 := Aside0.mk HN'
  clear HN'
  go_wp2_with (go_at_call 68; refine hp.mono ?_; rintro e w1 ⟨rfl, hb1⟩; have HB1 := Aside0.mk (HB.out.trans (hb1.mono HB.out.size)))
  have wrap_i : wrap64 ((i : Int) + 1) = ((i + 1 : Nat) : Int) := by
   have hx := HR.out.2.1
   unfold wrap64
   omega
  go_roundg k1
  case measure => exact Nat.lt_succ_self _
  case rel => exact ⟨i + 1, by rw [wrap_i], ⟨by have := HI.out; omega⟩, ⟨by have := HI.out; omega⟩, HN2, HB1⟩
 have g' : decide ((i : Int) < (l.length : Int)) = false := decide_eq_false (by omega)
 have g2 : decide (i < l.length) = false := decide_eq_false g
 have g3 : l.length ≤ i := by omega
 go_wp2
 go_ret
 have e : l.length - i = 0 := by omega
 have HN' := HN.out
 rw [e] at HN'
 exact ⟨by rw [← HN']; rfl, HB.out⟩
set_option maxHeartbeats 8000000 in
set_option maxRecDepth 100000 in
theorem contains_near (most : Int) (B : Nat) (w : World) (A : Option Addr) (c : Nat) (l : List S55) (hB : B < w.heap.size) (hc : w.cell? ⟨B, 0, none⟩ = some (.int .i64 most)) (hr : Kd.C k55 w A l.length l) (hl : l.length ≤ c) :
  Calls Tryd.prog 67 #[.slice A l.length c, .func (.func 68) #[] #[.pointer (some ⟨B, 0, none⟩)]] w fun e w' => e = .returned (.bool (decide (0 ≤ nearIdx most l l.length 0))) ∧ Below w.heap.size w w' := by
 have hi := index_near most B w A c l hB hc hr hl
 generalize nearIdx most l l.length 0 = v at hi ⊢
 go_enter Tryd.func67, Tryd.ntmps67
 go_wp2_with (go_at_call 83; refine hi.mono ?_; rintro e w1 ⟨rfl, hb1⟩; have HB1 := Aside0.mk hb1; clear hb1)
 go_ret
 exact ⟨by first | rfl | simp, HB1.out⟩
def impl_areNear.f (most : Int) (l : List S55) : Option Bool := some (!decide (0 ≤ nearIdx most l l.length 0))
set_option maxHeartbeats 8000000 in
set_option maxRecDepth 100000 in
theorem impl_areNear.calls (a0 : Int) (A1 : Option Addr) (c1 : Nat) (l1 : List S55) (r : Bool) (w : World) (hr1 : Kd.C k55 w A1 l1.length l1) (hc1 : l1.length ≤ c1) (h : impl_areNear.f a0 l1 = some r) :
  Calls Tryd.prog 58 #[.int .i64 a0, .slice A1 l1.length c1] w fun e w' => e = .returned (.bool r) ∧ Below w.heap.size w w' := by
 obtain rfl := Option.some.inj h
 clear h
 have hcon := fun W h1 h2 h3 => contains_near a0 w.heap.size W A1 c1 l1 h1 h2 h3 hc1
 generalize nearIdx a0 l1 l1.length 0 = v at hcon ⊢
 have HR := Aside0.mk hr1
 have HC := Aside0.mk hcon
 clear hr1 hcon
 go_enter Tryd.func58, Tryd.ntmps58
 go_wp2_with (go_at_call 67; refine (HC.out _ ?h1 ?h2 ?h3).mono ?_; (case h1 => simp); (case h2 => simp); (case h3 => exact Kd.C_below HR.out ((Below.refl _ w).alloc (Nat.le_refl _) _)); rintro e w1 ⟨rfl, hb1⟩; have HB1 := Aside0.mk (((Below.refl w.heap.size w).alloc (Nat.le_refl _) _).trans (hb1.mono (by simp))); clear hb1)
 go_ret
 exact ⟨by first | rfl | simp, HB1.out⟩
end Go.Proofs.YthhgcdfdjlijjaaDoor.G
namespace Go.Proofs.YthhgcdfdjlijjaaDoor.G
open Go.RowKit
set_option linter.unusedVariables false
theorem handed_and_shaped {H : Type} {enc : TypeId × Value → H} {a : Assume} {C : Checked} {os : Os} {f : FuncId} {fn : Func} {s : ChangeSpec} {conds : List PathCond} {apart fresh handsOn again : Bool} {X : World → Array Value → Prop}
  (hX : ∀ (w w' : World) (args : Array Value), w.heap = w'.heap → X w args → X w' args)
  (own : ownKnob C.prog.godebug = none) (started : os.Started) (noInit : C.prog.inits.idxOf? f = none) (hfn : C.prog.funcs[f]? = some fn)
  (witness : ∃ (w : World) (tape : Tape) (i : Input), w.os = os ∧ (w.forCall tape i).Shaped C.prog ∧ i.vars = [] ∧ Input.okWide C.prog (w.forCall tape i) .any w.heap.size f i ∧
   ((s.pre enc C.prog fn conds apart (w.forCall tape i).memory i.args ∧ X (w.forCall tape i).memory i.args) ∧ sizedMet enc C.prog fn (OpenSpec.ofChange s) apart (w.forCall tape i).memory i.args) ∧ a.holds C.prog (lone (Frame.enter C.prog f i.args .normal) [] (w.forCall tape i)))
  (contract : ∀ (W : World) (base : Nat) (args : Array Value) (ds gs : List (DataW H)) (before : List MemPlace),
   (∀ (j : Nat) t v, fn.params[j]? = some t → args[j]? = some v → Value.okWide C.prog W .any base t v) →
   DataW.Whole enc C.prog fn.params.toList s.vars apart W args.toList ds gs before →
   conds.all (PathCond.test C.prog ⟨fn.params.toList, ds, s.plain.varTypes C.prog, gs⟩) = true →
   (DataW.weightsEach C.prog (fn.params.toList ++ s.plain.varTypes C.prog) (ds ++ gs)).all (· ≤ reachBytes) = true → X W args → W.ShapedOpen C.prog →
   a.holds C.prog (lone (Frame.enter C.prog f args .normal) [] W) →
   Calls C.prog f args W fun e W' => ∃ v, e = .returned v ∧ s.post enc C.prog fn apart fresh handsOn again W args v W') :
  ReturnsInHanded a C os f .any (fun w args => (s.pre enc C.prog fn conds apart w args ∧ X w args) ∧ sizedMet enc C.prog fn (OpenSpec.ofChange s) apart w args) (s.post enc C.prog fn apart fresh handsOn again) := by
 refine returnsInHanded_of_calls own started noInit witness ?_
 intro w tape i _ hsh _ hok hpre hholds
 obtain ⟨_, _, _, fn', hfn', _, _, _, _, hval⟩ := hok
 have e : fn' = fn := Option.some.inj (hfn'.symm.trans hfn)
 subst e
 obtain ⟨⟨⟨ds, gs, before, hw, hc⟩, hx⟩, hz⟩ := hpre
 have hw' := DataW.Whole.of_heap (w' := w.forCall tape i) (by rfl) hw
 refine (contract (w.forCall tape i) w.heap.size i.args ds gs before hval hw' hc (hz.weights hw) (hX _ _ _ (by rfl) hx) hsh hholds).mono fun e W' ⟨v, he, hp⟩ => ?_
 subst he
 exact ChangeSpec.post_blind hp
theorem laid5_T3 {W : World} (h : laidMetH Tryd.prog l5 W) (hsh : W.ShapedOpen Tryd.prog) : T3 W :=
 ⟨laid5_T2 h, Go.Proofs.cell_of_shapedOpen_int (t := 3) (zero := #[.int .i64 0]) hsh (of_decide_eq_true (by kernel_rfl)) (by kernel_rfl) rfl (by kernel_rfl) (by kernel_rfl) Tryd.underlying3⟩
end Go.Proofs.YthhgcdfdjlijjaaDoor.G
namespace Go.Proofs.YthhgcdfdjlijjaaDoor.PX
open Go.RowKit Go.Proofs.YthhgcdfdjlijjaaDoor.G Go.Proofs.YthhgcdfdjlijjaaDoorW.PrintWords Go.Proofs.YthhgcdfdjlijjaaDoorW.PrintLast Go.Proofs.YthhgcdfdjlijjaaDoorW.PrintMore
attribute [local go_sem] max2_int min2_int max_two min_two max_three min_three max_four min_four   -- for this text's walks alone
set_option linter.unusedVariables false
set_option linter.unusedSimpArgs false
/-! ### impl_triplesOf: function 59 -/
mutual
def impl_triplesOf.l0 : Nat → Int → List (S76) → Int → Option ((List (S76)))
 | 0, _, _, _ => none
 | k + 1, x0, x3, x4 => if x4 < x0 then (impl_triplesOf.l1 k x0 x3 x4 (wrap64 (x4 + 1))) else (some x3)
def impl_triplesOf.l1 : Nat → Int → List (S76) → Int → Int → Option ((List (S76)))
 | 0, _, _, _, _ => none
 | k + 1, x0, x3, x4, x5 => if x5 < x0 then (impl_triplesOf.l2 k x0 x3 x4 x5 (wrap64 (x5 + 1))) else (impl_triplesOf.l0 k x0 x3 (wrap64 (x4 + 1)))
def impl_triplesOf.l2 : Nat → Int → List (S76) → Int → Int → Int → Option ((List (S76)))
 | 0, _, _, _, _, _ => none
 | k + 1, x0, x3, x4, x5, x6 => if x6 < x0 then (if x3.length < 5864062014805 then (impl_triplesOf.l2 k x0 (x3 ++ [(⟨x4, x5, x6⟩ : S76)]) x4 x5 (wrap64 (x6 + 1))) else (none)) else (impl_triplesOf.l1 k x0 x3 x4 (wrap64 (x5 + 1)))
end
def impl_triplesOf.f (k : Nat) (a0 : Int) : Option ((List (S76))) := impl_triplesOf.l0 k a0 ([] : List (S76)) 0
theorem impl_triplesOf.mono_l : ∀ k, (∀ y0 y1 y2, LeO (impl_triplesOf.l0 k y0 y1 y2) (impl_triplesOf.l0 (k + 1) y0 y1 y2)) ∧ (∀ y0 y1 y2 y3, LeO (impl_triplesOf.l1 k y0 y1 y2 y3) (impl_triplesOf.l1 (k + 1) y0 y1 y2 y3)) ∧ (∀ y0 y1 y2 y3 y4, LeO (impl_triplesOf.l2 k y0 y1 y2 y3 y4) (impl_triplesOf.l2 (k + 1) y0 y1 y2 y3 y4))
 | 0 => ⟨fun _ _ _ r h => by simp [impl_triplesOf.l0] at h, fun _ _ _ _ r h => by simp [impl_triplesOf.l1] at h, fun _ _ _ _ _ r h => by simp [impl_triplesOf.l2] at h⟩
 | k + 1 => by
  obtain ⟨ih0, ih1, ih2⟩ := impl_triplesOf.mono_l k
  refine ⟨?_, ?_, ?_⟩ <;> intros <;> (first | unfold impl_triplesOf.l0 | unfold impl_triplesOf.l1 | unfold impl_triplesOf.l2) <;> repeat' first
  | (with_reducible first | exact ih0 .. | exact ih1 .. | exact ih2 .. | exact LeO.refl _ | exact LeO.none _ | refine LeO.ite ?_ ?_ | refine LeO.bind ?_ (fun _ => ?_))
  | exact ih0 .. | exact ih1 .. | exact ih2 .. | exact LeO.none _ | refine LeO.ite ?_ ?_ | refine LeO.bind ?_ (fun _ => ?_)
theorem impl_triplesOf.mono : ∀ a0 k, LeO (impl_triplesOf.f k a0) (impl_triplesOf.f (k + 1) a0) := by
 intro a0 k
 obtain ⟨ih0, ih1, ih2⟩ := impl_triplesOf.mono_l k
 unfold impl_triplesOf.f
 repeat' first
   | (with_reducible first | exact ih0 .. | exact ih1 .. | exact ih2 .. | exact LeO.refl _ | exact LeO.none _ | refine LeO.ite ?_ ?_ | refine LeO.bind ?_ (fun _ => ?_))
   | exact ih0 .. | exact ih1 .. | exact ih2 .. | exact LeO.none _ | refine LeO.ite ?_ ?_ | refine LeO.bind ?_ (fun _ => ?_)
set_option maxHeartbeats 8000000 in
set_option maxRecDepth 100000 in
theorem impl_triplesOf.calls (k : Nat) (a0 : Int) (r : List (S76)) (w : World) (h : impl_triplesOf.f k a0 = some r) :
  Calls Tryd.prog 59 #[.int .i64 a0] w fun e w' => ∃ v0_ : Value, e = .returned (v0_) ∧ Kd.R k76 76 w' w.heap.size (fun _ => True) v0_ r ∧ Below w.heap.size w w' := by
 have hu76 := Tryd.underlying76
 have HB := Aside0.mk (Below.refl w.heap.size w)
 have H : (impl_triplesOf.l0 k a0 ([] : List (S76)) 0) = some r := h
 clear h
 have H' := Aside0.mk H; clear H
 go_enter Tryd.func59, Tryd.ntmps59
 go_wp2
 go_loopg [3, 4] k (fun kq v3 v4 w' => ∃ (x3_1 : List (S76)) (x4_1 : Int), v4 = .int .i64 x4_1 ∧ Aside0 (impl_triplesOf.l0 kq a0 x3_1 x4_1 = some r) ∧ Aside0 (kq ≤ k) ∧ Aside0 (Kd.R k76 76 w' w.heap.size (fun _ => True) v3 x3_1) ∧ Aside0 (Below w.heap.size w w'))
 case atStart => exact ⟨(([] : List (S76))), (0), zF, H', ⟨Nat.le_refl _⟩, ⟨by first | exact Kd.R_nil _ _ _ _ _ | exact Kd.N_nil _ _ _ _ _ | exact Kd.V_nil _ _ _ _ _ | exact Kd.Q_nil _ _ _ _ _ | exact Kd.S_nil _ _ _ _ _⟩, ⟨zB⟩⟩
 case round =>
 clear H'
 obtain ⟨x3_1, x4_1, rfl, HA, HK1, HO_3, HB⟩ := hrel
 cases gk with
 | zero => exact absurd HA.out (by simp [impl_triplesOf.l0])
 | succ k1 =>
 have H := HA.out
 clear HA
 simp only [impl_triplesOf.l0] at H
 by_cases c2 : x4_1 < a0
 ·rw [if_pos c2] at H
  have c2b0 := decide_eq_true c2
  clear c2
  have H' := Aside0.mk H; clear H
  go_wp2
  go_loopg [3, 5] k1 (fun kq v3 v5 w' => ∃ (x3_2 : List (S76)) (x5_2 : Int), v5 = .int .i64 x5_2 ∧ Aside0 (impl_triplesOf.l1 kq a0 x3_2 x4_1 x5_2 = some r) ∧ Aside0 (kq ≤ k1) ∧ Aside0 (Kd.R k76 76 w' w.heap.size (fun _ => True) v3 x3_2) ∧ Aside0 (Below w.heap.size w w'))
  case atStart => exact ⟨(x3_1), (wrap64 (x4_1 + 1)), zF, H', ⟨Nat.le_refl _⟩, ⟨zR HO_3.out⟩, ⟨zB⟩⟩
  case round =>
  clear H'
  try clear c2
  try clear c2b0
  obtain ⟨x3_2, x5_2, rfl, HA, HK2, HO_3, HB⟩ := hrel
  cases gk with
  | zero => exact absurd HA.out (by simp [impl_triplesOf.l1])
  | succ k2 =>
  have H := HA.out
  clear HA
  simp only [impl_triplesOf.l1] at H
  by_cases c3 : x5_2 < a0
  ·rw [if_pos c3] at H
   have c3b0 := decide_eq_true c3
   clear c3
   have H' := Aside0.mk H; clear H
   go_wp2
   go_loopg [3, 6] k2 (fun kq v3 v6 w' => ∃ (x3_3 : List (S76)) (x6_3 : Int), v6 = .int .i64 x6_3 ∧ Aside0 (impl_triplesOf.l2 kq a0 x3_3 x4_1 x5_2 x6_3 = some r) ∧ Aside0 (kq ≤ k2) ∧ Aside0 (Kd.R k76 76 w' w.heap.size (fun _ => True) v3 x3_3) ∧ Aside0 (Below w.heap.size w w'))
   case atStart => exact ⟨(x3_2), (wrap64 (x5_2 + 1)), zF, H', ⟨Nat.le_refl _⟩, ⟨zR HO_3.out⟩, ⟨zB⟩⟩
   case round =>
   clear H'
   try clear c2
   try clear c2b0
   try clear c3
   try clear c3b0
   obtain ⟨x3_3, x6_3, rfl, HA, HK3, HO_3, HB⟩ := hrel
   cases gk with
   | zero => exact absurd HA.out (by simp [impl_triplesOf.l2])
   | succ k3 =>
   have H := HA.out
   clear HA
   simp only [impl_triplesOf.l2] at H
   by_cases c4 : x6_3 < a0
   ·rw [if_pos c4] at H
    have c4b0 := decide_eq_true c4
    clear c4
    by_cases c5 : x3_3.length < 5864062014805
    ·rw [if_pos c5] at H
     have LMc5 := Aside0.mk c5
     clear c5
     obtain ⟨y198, hy198⟩ : ∃ y_ : List (S76), y_ = (x3_3 ++ [(⟨x4_1, x5_2, x6_3⟩ : S76)]) := ⟨_, rfl⟩
     replace H : (impl_triplesOf.l2 k3 a0 y198 x4_1 x5_2 (wrap64 (x6_3 + 1))) = some r := by first | (rw [hy198]; with_reducible exact H) | (have H2_ := (Option.bind_some _ _).symm.trans H; rw [hy198]; with_reducible exact H2_) | (have H2_ := (Option.bind_some _ _).symm.trans H; with_reducible exact H2_) | with_reducible exact H | (rw [hy198]; exact H) | exact H
     have Ny198 := Aside0.mk hy198
     clear hy198
     have H' := Aside0.mk H; clear H
     go_wp2_with (first | ((with_reducible refine gate_builtin (b := .append) (xs := #[.tmp 26, .tmp 31]) rfl ?_); at_builtin; refine Kd.R_append k76 (w0 := w) w.heap.size rfl (.tmp 26) (.tmp 31) 74 76 (.agg #[(.int .i64 0), (.int .i64 0), (.int .i64 0)]) 24 rfl Tryd.underlying74 info76 rfl (by decide) (by omega) u3 x3_3 (⟨x4_1, x5_2, x6_3⟩ : S76) [.int .i64 x4_1, .int .i64 x5_2, .int .i64 x6_3] (fun _ => True) (fun _ => False) rfl rfl ?aP (fun _ hk => hk.elim) ?aF ?aO ?aB ?aS ?aL ?_; (case aP => exact k76_mkM _ _ _ (⟨x4_1, x5_2, x6_3⟩ : S76)); (case aB => exact zB); (case aF => exact (fun _ _ => trivial)); (case aO => exact (zR HO_3.out)); (case aS => exact (below_size zB)); (case aL => have := LMc5.out; omega); intro v199 w6 ho hb hg hat; rw [← Ny198.out] at ho; have n0_ := Aside0.mk (hb); have n1_ := Aside0.mk (ho); clear HB; clear HO_3; have HB := n0_; have HO200 := n1_; clear n0_ n1_; clear ho hb hg hat))
     go_roundg k3
     case measure => have := HK1.out; have := HK2.out; have := HK3.out; omega
     case rel => exact ⟨(y198), (wrap64 (x6_3 + 1)), zF, H', ⟨by have := HK1.out; have := HK2.out; have := HK3.out; omega⟩, ⟨zR HO200.out⟩, ⟨zB⟩⟩
    rw [if_neg c5] at H
    exact absurd H (by simp)
   rw [if_neg c4] at H
   have c4b0 := decide_eq_false c4
   clear c4
   have H' := Aside0.mk H; clear H
   go_wp2
   go_roundg k3
   case measure => have := HK1.out; have := HK2.out; have := HK3.out; omega
   case rel => exact ⟨(x3_3), (wrap64 (x5_2 + 1)), zF, H', ⟨by have := HK1.out; have := HK2.out; have := HK3.out; omega⟩, ⟨zR HO_3.out⟩, ⟨zB⟩⟩
  rw [if_neg c3] at H
  have c3b0 := decide_eq_false c3
  clear c3
  have H' := Aside0.mk H; clear H
  go_wp2
  go_roundg k2
  case measure => have := HK1.out; have := HK2.out; omega
  case rel => exact ⟨(x3_2), (wrap64 (x4_1 + 1)), zF, H', ⟨by have := HK1.out; have := HK2.out; omega⟩, ⟨zR HO_3.out⟩, ⟨zB⟩⟩
 rw [if_neg c2] at H
 have c2b0 := decide_eq_false c2
 clear c2
 obtain rfl := Option.some.inj H
 go_wp2
 go_ret
 exact ⟨_, zE, zR HO_3.out, zB⟩
/-! ### cmp_isNaN_int: function 101 -/
def cmp_isNaN_int.f (a0 : Int) : Option (Bool) := some (a0 != a0)
set_option maxHeartbeats 8000000 in
set_option maxRecDepth 100000 in
theorem cmp_isNaN_int.calls (a0 : Int) (r : Bool) (w : World) (h : cmp_isNaN_int.f a0 = some r) :
  Calls Tryd.prog 101 #[.int .i64 a0] w fun e w' => e = .returned (.bool r) ∧ Drawn0 w w' := by
 have H : (some (a0 != a0)) = some r := h
 clear h
 obtain rfl := Option.some.inj H
 go_enter Tryd.func101, Tryd.ntmps101
 go_wp2
 go_ret
 exact ⟨by first | rfl | (simp; done) | (simp [*]; done), by repeat (first | exact Drawn0.refl _ | apply Drawn0.step)⟩
/-! ### cmp_Compare_int: function 84 -/
def cmp_Compare_int.f (a0 : Int) (a1 : Int) : Option (Int) := (cmp_isNaN_int.f a0).bind fun t201 => ((cmp_isNaN_int.f a1).bind fun t202 => (if t201 = true then (if t202 = true then (some 0) else (some (-1))) else (if t202 = true then (some 1) else (if a0 < a1 then (some (-1)) else (if a0 > a1 then (some 1) else (some 0))))))
set_option maxHeartbeats 8000000 in
set_option maxRecDepth 100000 in
theorem cmp_Compare_int.calls (a0 : Int) (a1 : Int) (r : Int) (w : World) (h : cmp_Compare_int.f a0 a1 = some r) :
  Calls Tryd.prog 84 #[.int .i64 a0, .int .i64 a1] w fun e w' => e = .returned (.int .i64 r) ∧ Drawn0 w w' := by
 have H : ((cmp_isNaN_int.f a0).bind fun t201 => ((cmp_isNaN_int.f a1).bind fun t202 => (if t201 = true then (if t202 = true then (some 0) else (some (-1))) else (if t202 = true then (some 1) else (if a0 < a1 then (some (-1)) else (if a0 > a1 then (some 1) else (some 0))))))) = some r := h
 clear h
 obtain ⟨t201, A3, H⟩ := zO H
 obtain ⟨t202, A4, H⟩ := zO H
 by_cases c5 : t201 = true
 ·subst c5
  replace H := (if_pos rfl).symm.trans H
  by_cases c6 : t202 = true
  ·subst c6
   replace H := (if_pos rfl).symm.trans H
   obtain rfl := Option.some.inj H
   go_enter Tryd.func84, Tryd.ntmps84
   go_wp2_with (first | ((with_reducible refine gate_callee (f := 101) rfl ?_); refine zD (some 8) Tryd.func101 #[.int .i64 a0] ?_; (with_reducible refine (cmp_isNaN_int.calls a0 true _ A3.out).mono ?_); rintro e w' ⟨rfl, ⟨nd, rfl⟩⟩; refine ⟨_, rfl, ?_⟩) | ((with_reducible refine gate_callee (f := 101) rfl ?_); refine zD (some 10) Tryd.func101 #[.int .i64 a1] ?_; (with_reducible refine (cmp_isNaN_int.calls a1 true _ A4.out).mono ?_); rintro e w' ⟨rfl, ⟨nd, rfl⟩⟩; refine ⟨_, rfl, ?_⟩))
   go_ret
   exact ⟨by first | rfl | (simp; done) | (simp [*]; done), by repeat (first | exact Drawn0.refl _ | apply Drawn0.step)⟩
  replace c6 := Bool.eq_false_iff.mpr c6
  subst c6
  replace H := (if_neg zFf).symm.trans H
  obtain rfl := Option.some.inj H
  go_enter Tryd.func84, Tryd.ntmps84
  go_wp2_with (first | ((with_reducible refine gate_callee (f := 101) rfl ?_); refine zD (some 8) Tryd.func101 #[.int .i64 a0] ?_; (with_reducible refine (cmp_isNaN_int.calls a0 true _ A3.out).mono ?_); rintro e w' ⟨rfl, ⟨nd, rfl⟩⟩; refine ⟨_, rfl, ?_⟩) | ((with_reducible refine gate_callee (f := 101) rfl ?_); refine zD (some 10) Tryd.func101 #[.int .i64 a1] ?_; (with_reducible refine (cmp_isNaN_int.calls a1 false _ A4.out).mono ?_); rintro e w' ⟨rfl, ⟨nd, rfl⟩⟩; refine ⟨_, rfl, ?_⟩))
  go_ret
  exact ⟨by first | rfl | (simp; done) | (simp [*]; done), by repeat (first | exact Drawn0.refl _ | apply Drawn0.step)⟩
 replace c5 := Bool.eq_false_iff.mpr c5
 subst c5
 replace H := (if_neg zFf).symm.trans H
 by_cases c7 : t202 = true
 ·subst c7
  replace H := (if_pos rfl).symm.trans H
  obtain rfl := Option.some.inj H
  go_enter Tryd.func84, Tryd.ntmps84
  go_wp2_with (first | ((with_reducible refine gate_callee (f := 101) rfl ?_); refine zD (some 8) Tryd.func101 #[.int .i64 a0] ?_; (with_reducible refine (cmp_isNaN_int.calls a0 false _ A3.out).mono ?_); rintro e w' ⟨rfl, ⟨nd, rfl⟩⟩; refine ⟨_, rfl, ?_⟩) | ((with_reducible refine gate_callee (f := 101) rfl ?_); refine zD (some 10) Tryd.func101 #[.int .i64 a1] ?_; (with_reducible refine (cmp_isNaN_int.calls a1 true _ A4.out).mono ?_); rintro e w' ⟨rfl, ⟨nd, rfl⟩⟩; refine ⟨_, rfl, ?_⟩))
  go_ret
  exact ⟨by first | rfl | (simp; done) | (simp [*]; done), by repeat (first | exact Drawn0.refl _ | apply Drawn0.step)⟩
 replace c7 := Bool.eq_false_iff.mpr c7
 subst c7
 replace H := (if_neg zFf).symm.trans H
 by_cases c8 : a0 < a1
 ·rw [if_pos c8] at H
  have c8b0 := decide_eq_true c8
  clear c8
  obtain rfl := Option.some.inj H
  go_enter Tryd.func84, Tryd.ntmps84
  go_wp2_with (first | ((with_reducible refine gate_callee (f := 101) rfl ?_); refine zD (some 8) Tryd.func101 #[.int .i64 a0] ?_; (with_reducible refine (cmp_isNaN_int.calls a0 false _ A3.out).mono ?_); rintro e w' ⟨rfl, ⟨nd, rfl⟩⟩; refine ⟨_, rfl, ?_⟩) | ((with_reducible refine gate_callee (f := 101) rfl ?_); refine zD (some 10) Tryd.func101 #[.int .i64 a1] ?_; (with_reducible refine (cmp_isNaN_int.calls a1 false _ A4.out).mono ?_); rintro e w' ⟨rfl, ⟨nd, rfl⟩⟩; refine ⟨_, rfl, ?_⟩))
  go_ret
  exact ⟨by first | rfl | (simp; done) | (simp [*]; done), by repeat (first | exact Drawn0.refl _ | apply Drawn0.step)⟩
 rw [if_neg c8] at H
 have c8b0 := decide_eq_false c8
 clear c8
 by_cases c9 : a0 > a1
 ·rw [if_pos c9] at H
  have c9b0 : decide (a1 < a0) = true := decide_eq_true c9
  clear c9
  obtain rfl := Option.some.inj H
  go_enter Tryd.func84, Tryd.ntmps84
  go_wp2_with (first | ((with_reducible refine gate_callee (f := 101) rfl ?_); refine zD (some 8) Tryd.func101 #[.int .i64 a0] ?_; (with_reducible refine (cmp_isNaN_int.calls a0 false _ A3.out).mono ?_); rintro e w' ⟨rfl, ⟨nd, rfl⟩⟩; refine ⟨_, rfl, ?_⟩) | ((with_reducible refine gate_callee (f := 101) rfl ?_); refine zD (some 10) Tryd.func101 #[.int .i64 a1] ?_; (with_reducible refine (cmp_isNaN_int.calls a1 false _ A4.out).mono ?_); rintro e w' ⟨rfl, ⟨nd, rfl⟩⟩; refine ⟨_, rfl, ?_⟩))
  go_ret
  exact ⟨by first | rfl | (simp; done) | (simp [*]; done), by repeat (first | exact Drawn0.refl _ | apply Drawn0.step)⟩
 rw [if_neg c9] at H
 have c9b0 : decide (a1 < a0) = false := decide_eq_false c9
 clear c9
 obtain rfl := Option.some.inj H
 go_enter Tryd.func84, Tryd.ntmps84
 go_wp2_with (first | ((with_reducible refine gate_callee (f := 101) rfl ?_); refine zD (some 8) Tryd.func101 #[.int .i64 a0] ?_; (with_reducible refine (cmp_isNaN_int.calls a0 false _ A3.out).mono ?_); rintro e w' ⟨rfl, ⟨nd, rfl⟩⟩; refine ⟨_, rfl, ?_⟩) | ((with_reducible refine gate_callee (f := 101) rfl ?_); refine zD (some 10) Tryd.func101 #[.int .i64 a1] ?_; (with_reducible refine (cmp_isNaN_int.calls a1 false _ A4.out).mono ?_); rintro e w' ⟨rfl, ⟨nd, rfl⟩⟩; refine ⟨_, rfl, ?_⟩))
 go_ret
 exact ⟨by first | rfl | (simp; done) | (simp [*]; done), by repeat (first | exact Drawn0.refl _ | apply Drawn0.step)⟩
/-! ### impl_signOf: function 70 -/
def impl_signOf.f (a0 : Int) : Option (Int) := (cmp_Compare_int.f a0 0).bind fun t203 => (some t203)
set_option maxHeartbeats 8000000 in
set_option maxRecDepth 100000 in
theorem impl_signOf.calls (a0 : Int) (r : Int) (w : World) (h : impl_signOf.f a0 = some r) :
  Calls Tryd.prog 70 #[.int .i64 a0] w fun e w' => e = .returned (.int .i64 r) ∧ Drawn0 w w' := by
 have H : ((cmp_Compare_int.f a0 0).bind fun t203 => (some t203)) = some r := h
 clear h
 obtain ⟨t203, A2, H⟩ := zO H
 obtain rfl := Option.some.inj H
 go_enter Tryd.func70, Tryd.ntmps70
 go_wp2_with (first | ((with_reducible refine gate_callee (f := 84) rfl ?_); refine zD (some 4) Tryd.func84 #[.int .i64 a0, .int .i64 0] ?_; (with_reducible refine (cmp_Compare_int.calls a0 0 t203 _ A2.out).mono ?_); rintro e w' ⟨rfl, ⟨nd, rfl⟩⟩; refine ⟨_, rfl, ?_⟩))
 go_ret
 exact ⟨by first | rfl | (simp; done) | (simp [*]; done), by repeat (first | exact Drawn0.refl _ | apply Drawn0.step)⟩
/-! ### impl_area: function 71 -/
def impl_area.f (a0_0 : Int) (a0_1 : Int) (a1_0 : Int) (a1_1 : Int) (a2_0 : Int) (a2_1 : Int) : Option (Int) := some (wrap64 ((wrap64 ((wrap64 (a1_0 - a0_0)) * (wrap64 (a2_1 - a0_1)))) - (wrap64 ((wrap64 (a1_1 - a0_1)) * (wrap64 (a2_0 - a0_0))))))
set_option maxHeartbeats 8000000 in
set_option maxRecDepth 100000 in
theorem impl_area.calls (a0_0 : Int) (a0_1 : Int) (a1_0 : Int) (a1_1 : Int) (a2_0 : Int) (a2_1 : Int) (r : Int) (w : World) (h : impl_area.f a0_0 a0_1 a1_0 a1_1 a2_0 a2_1 = some r) :
  Calls Tryd.prog 71 #[.agg #[.int .i64 a0_0, .int .i64 a0_1], .agg #[.int .i64 a1_0, .int .i64 a1_1], .agg #[.int .i64 a2_0, .int .i64 a2_1]] w fun e w' => e = .returned (.int .i64 r) ∧ Below w.heap.size w w' := by
 have hu55 := Tryd.underlying55
 have HB := Aside0.mk (Below.refl w.heap.size w)
 have H : (some (wrap64 ((wrap64 ((wrap64 (a1_0 - a0_0)) * (wrap64 (a2_1 - a0_1)))) - (wrap64 ((wrap64 (a1_1 - a0_1)) * (wrap64 (a2_0 - a0_0))))))) = some r := h
 clear h
 obtain rfl := Option.some.inj H
 go_enter Tryd.func71, Tryd.ntmps71
 go_wp2_with (first | ((with_reducible refine gate_dst (N := 3) rfl ?_); refine zBx (N := 3) #[.int .i64 a0_0, .int .i64 a0_1] 55 ?_; intro gb204 hg w4 hbox hb; have BK204 := Aside0.mk (hbox); have GW204 := zS hg; have GE204 := zS hg; replace HB := zX hb; clear hb hbox hg) | ((with_reducible refine gate_dst (N := 4) rfl ?_); refine zBx (N := 4) #[.int .i64 a1_0, .int .i64 a1_1] 55 ?_; intro gb205 hg w5 hbox hb; have BK205 := Aside0.mk (hbox); have GW205 := zSg hg (zG GE204.out); have GE205 := zSg hg (zG GE204.out); have NB204_205 := zL hg BK204.out; have NB205_204 := zLg hg BK204.out; replace BK204 := zV BK204.out hb; replace HB := zX1 GE204.out hb; clear hb hbox hg) | ((with_reducible refine gate_dst (N := 5) rfl ?_); refine zBx (N := 5) #[.int .i64 a2_0, .int .i64 a2_1] 55 ?_; intro gb206 hg w6 hbox hb; have BK206 := Aside0.mk (hbox); have GW206 := zSg hg (zG2 GE204.out GE205.out); have GE206 := zSg hg (zG2 GE204.out GE205.out); have NB204_206 := zL hg BK204.out; have NB206_204 := zLg hg BK204.out; replace BK204 := zV BK204.out hb; have NB205_206 := zL hg BK205.out; have NB206_205 := zLg hg BK205.out; replace BK205 := zV BK205.out hb; replace HB := Aside0.mk (below_step (zG2 GE204.out GE205.out) hb); clear hb hbox hg; have hnb7 := NB205_204.out; have hnc7 := NB204_205.out; have hnb8 := NB205_206.out; have hnc8 := NB206_205.out; obtain ⟨hcz9_0, hcz9_1, hfz9_0, hfz9_1⟩ := zq2 BK205.out; have hnb10 := NB204_206.out; have hnc10 := NB206_204.out; obtain ⟨hcz11_0, hcz11_1, hfz11_0, hfz11_1⟩ := zq2 BK204.out; obtain ⟨hcz12_0, hcz12_1, hfz12_0, hfz12_1⟩ := zq2 BK206.out))
 go_ret
 exact ⟨zE, zG3 GE204.out GE205.out GE206.out⟩
/-! ### impl_TurnOf: function 60 -/
def impl_TurnOf.f (a0_0 : Int) (a0_1 : Int) (a1_0 : Int) (a1_1 : Int) (a2_0 : Int) (a2_1 : Int) : Option (Int) := (impl_areNear.f 1000 (([(⟨a0_0, a0_1⟩ : S55), (⟨a1_0, a1_1⟩ : S55), (⟨a2_0, a2_1⟩ : S55)] : List (S55)))).bind fun t213 => (if t213 = true then ((impl_area.f a0_0 a0_1 a1_0 a1_1 a2_0 a2_1).bind fun t214 => ((impl_signOf.f t214).bind fun t215 => (some t215))) else (some 0))
set_option maxHeartbeats 8000000 in
set_option maxRecDepth 100000 in
theorem impl_TurnOf.calls (a0_0 : Int) (a0_1 : Int) (a1_0 : Int) (a1_1 : Int) (a2_0 : Int) (a2_1 : Int) (r : Int) (w : World) (h : impl_TurnOf.f a0_0 a0_1 a1_0 a1_1 a2_0 a2_1 = some r) :
  Calls Tryd.prog 60 #[.agg #[.int .i64 a0_0, .int .i64 a0_1], .agg #[.int .i64 a1_0, .int .i64 a1_1], .agg #[.int .i64 a2_0, .int .i64 a2_1]] w fun e w' => e = .returned (.int .i64 r) ∧ Below w.heap.size w w' := by
 have hu55 := Tryd.underlying55
 have HB := Aside0.mk (Below.refl w.heap.size w)
 have H : ((impl_areNear.f 1000 (([(⟨a0_0, a0_1⟩ : S55), (⟨a1_0, a1_1⟩ : S55), (⟨a2_0, a2_1⟩ : S55)] : List (S55)))).bind fun t213 => (if t213 = true then ((impl_area.f a0_0 a0_1 a1_0 a1_1 a2_0 a2_1).bind fun t214 => ((impl_signOf.f t214).bind fun t215 => (some t215))) else (some 0))) = some r := h
 clear h
 obtain ⟨y210, hy210⟩ : ∃ y_ : List (S55), y_ = (([(⟨a0_0, a0_1⟩ : S55), (⟨a1_0, a1_1⟩ : S55), (⟨a2_0, a2_1⟩ : S55)] : List (S55))) := ⟨_, rfl⟩
 replace H : ((impl_areNear.f 1000 y210).bind fun t213 => (if t213 = true then ((impl_area.f a0_0 a0_1 a1_0 a1_1 a2_0 a2_1).bind fun t214 => ((impl_signOf.f t214).bind fun t215 => (some t215))) else (some 0))) = some r := by first | (rw [hy210]; with_reducible exact H) | (have H2_ := (Option.bind_some _ _).symm.trans H; rw [hy210]; with_reducible exact H2_) | (have H2_ := (Option.bind_some _ _).symm.trans H; with_reducible exact H2_) | with_reducible exact H | (rw [hy210]; exact H) | exact H
 have Ny210 := Aside0.mk hy210
 clear hy210
 obtain ⟨t213, A4, H⟩ := zO H
 by_cases c5 : t213 = true
 ·subst c5
  replace H := (if_pos rfl).symm.trans H
  obtain ⟨t214, A6, H⟩ := zO H
  obtain ⟨t215, A7, H⟩ := zO H
  obtain rfl := Option.some.inj H
  go_enter Tryd.func60, Tryd.ntmps60
  go_wp2_with (first | ((with_reducible refine gate_dst (N := 3) rfl ?_); refine zBx (N := 3) #[.int .i64 a0_0, .int .i64 a0_1] 55 ?_; intro gb207 hg w8 hbox hb; have BK207 := Aside0.mk (hbox); have GW207 := zS hg; have GE207 := zS hg; replace HB := zX hb; clear hb hbox hg) | ((with_reducible refine gate_dst (N := 4) rfl ?_); refine zBx (N := 4) #[.int .i64 a1_0, .int .i64 a1_1] 55 ?_; intro gb208 hg w9 hbox hb; have BK208 := Aside0.mk (hbox); have GW208 := zSg hg (zG GE207.out); have GE208 := zSg hg (zG GE207.out); have NB207_208 := zL hg BK207.out; have NB208_207 := zLg hg BK207.out; replace BK207 := zV BK207.out hb; replace HB := zX1 GE207.out hb; clear hb hbox hg) | ((with_reducible refine gate_dst (N := 5) rfl ?_); refine zBx (N := 5) #[.int .i64 a2_0, .int .i64 a2_1] 55 ?_; intro gb209 hg w10 hbox hb; have BK209 := Aside0.mk (hbox); have GW209 := zSg hg (zG2 GE207.out GE208.out); have GE209 := zSg hg (zG2 GE207.out GE208.out); have NB207_209 := zL hg BK207.out; have NB209_207 := zLg hg BK207.out; replace BK207 := zV BK207.out hb; have NB208_209 := zL hg BK208.out; have NB209_208 := zLg hg BK208.out; replace BK208 := zV BK208.out hb; replace HB := Aside0.mk (below_step (zG2 GE207.out GE208.out) hb); clear hb hbox hg; have hnb11 := NB207_208.out; have hnc11 := NB208_207.out; have hnb12 := NB207_209.out; have hnc12 := NB209_207.out; obtain ⟨hcz13_0, hcz13_1, hfz13_0, hfz13_1⟩ := zq2 BK207.out; have hnb14 := NB208_209.out; have hnc14 := NB209_208.out; obtain ⟨hcz15_0, hcz15_1, hfz15_0, hfz15_1⟩ := zq2 BK208.out; obtain ⟨hcz16_0, hcz16_1, hfz16_0, hfz16_1⟩ := zq2 BK209.out) | ((with_reducible refine gate_dst (N := 10) rfl ?_); refine Kd.R_lit k55 _ 55 ?hg (N := 10) ?hd (xs := ([(⟨a0_0, a0_1⟩ : S55), (⟨a1_0, a1_1⟩ : S55), (⟨a2_0, a2_1⟩ : S55)] : List (S55))) (inner := [.int .i64 a0_0, .int .i64 a0_1, .int .i64 a1_0, .int .i64 a1_1, .int .i64 a2_0, .int .i64 a2_1]) (ok := fun _ => True) (okp := fun _ => True) ?hr ?hp (fun _ hk => hk) trivial (Below.refl _ _) (Nat.le_refl _) (by simp) ?_; (case hd => rfl); (case hg => rfl); (case hr => first | (go_simp; done) | (go_simp; rfl)); (case hp => exact (Reps.c2 (show Kd.M k55 _ _ _ (⟨a0_0, a0_1⟩ : S55) [.int .i64 a0_0, .int .i64 a0_1] from (k55_mkM _ _ _ (⟨a0_0, a0_1⟩ : S55) )) (Reps.c2 (show Kd.M k55 _ _ _ (⟨a1_0, a1_1⟩ : S55) [.int .i64 a1_0, .int .i64 a1_1] from (k55_mkM _ _ _ (⟨a1_0, a1_1⟩ : S55) )) (Reps.c2 (show Kd.M k55 _ _ _ (⟨a2_0, a2_1⟩ : S55) [.int .i64 a2_0, .int .i64 a2_1] from (k55_mkM _ _ _ (⟨a2_0, a2_1⟩ : S55) )) (Reps.none _ _))))); intro v211 w17 ho18 hb hg_ hnew_; clear hg_ hnew_; (first | rw [← Ny210.out] at ho18 | (simp only [Int.reduceToNat] at ho18; rw [← Ny210.out] at ho18)); have HO212 := Aside0.mk (Kd.R_lower (Kd.R_newB (Kd.R_newB (Kd.R_newB ho18 (g := gb207) (o := .cells #[.int .i64 a0_0, .int .i64 a0_1] 55 (0, 0)) (zK BK207.out)) (g := gb208) (o := .cells #[.int .i64 a1_0, .int .i64 a1_1] 55 (0, 0)) (zK BK208.out)) (g := gb209) (o := .cells #[.int .i64 a2_0, .int .i64 a2_1] 55 (0, 0)) (zK BK209.out)) (below_size (zG3 GE207.out GE208.out GE209.out))); replace BK207 := zV BK207.out hb; replace BK208 := zV BK208.out hb; replace BK209 := zV BK209.out hb; replace HB := Aside0.mk (below_step (zG3 GE207.out GE208.out GE209.out) hb); clear hb ho18; obtain ⟨Ao19, co19, eo19⟩ := Kd.R_slice HO212.out; subst eo19) | ((with_reducible refine gate_callee (f := 58) rfl ?_); refine zD (some 11) Tryd.func58 #[.int .i64 1000, .slice Ao19 y210.length co19] ?_; (with_reducible refine (impl_areNear.calls 1000 _ _ y210 true _ ?side1 ?side2 A4.out).mono ?_); (case side1 => repeat (first | exact (Kd.R_reads' HO212.out).2.2 | (with_reducible refine Kd.C_alloc ?_ _) | (with_reducible refine Kd.C_drewN ?_ _) | (with_reducible refine Kd.C_drew ?_))); (case side2 => exact (Kd.R_reads' HO212.out).2.1); rintro e w20 ⟨rfl, hb⟩; refine ⟨_, rfl, ?_⟩; replace HO212 := zW HO212.out hb; replace BK207 := zV BK207.out hb; replace BK208 := zV BK208.out hb; replace BK209 := zV BK209.out hb; replace HB := Aside0.mk (below_step (zG3 GE207.out GE208.out GE209.out) hb); (try clear hb); obtain ⟨hcz21_0, hcz21_1, hfz21_0, hfz21_1⟩ := zq2 BK207.out; obtain ⟨hcz22_0, hcz22_1, hfz22_0, hfz22_1⟩ := zq2 BK208.out; obtain ⟨hcz23_0, hcz23_1, hfz23_0, hfz23_1⟩ := zq2 BK209.out) | ((with_reducible refine gate_callee (f := 71) rfl ?_); refine zD (some 16) Tryd.func71 #[.agg #[.int .i64 a0_0, .int .i64 a0_1], .agg #[.int .i64 a1_0, .int .i64 a1_1], .agg #[.int .i64 a2_0, .int .i64 a2_1]] ?_; (with_reducible refine (impl_area.calls a0_0 a0_1 a1_0 a1_1 a2_0 a2_1 t214 _ A6.out).mono ?_); rintro e w24 ⟨rfl, hb⟩; refine ⟨_, rfl, ?_⟩; replace HO212 := zW HO212.out hb; replace BK207 := zV BK207.out hb; replace BK208 := zV BK208.out hb; replace BK209 := zV BK209.out hb; replace HB := Aside0.mk (below_step (zG3 GE207.out GE208.out GE209.out) hb); (try clear hb)) | ((with_reducible refine gate_callee (f := 70) rfl ?_); refine zD (some 17) Tryd.func70 #[.int .i64 t214] ?_; (with_reducible refine (impl_signOf.calls t214 t215 _ A7.out).mono ?_); rintro e w' ⟨rfl, ⟨nd, rfl⟩⟩; refine ⟨_, rfl, ?_⟩))
  go_ret
  exact ⟨zE, zG3 GE207.out GE208.out GE209.out⟩
 replace c5 := Bool.eq_false_iff.mpr c5
 subst c5
 replace H := (if_neg zFf).symm.trans H
 obtain rfl := Option.some.inj H
 go_enter Tryd.func60, Tryd.ntmps60
 go_wp2_with (first | ((with_reducible refine gate_dst (N := 3) rfl ?_); refine zBx (N := 3) #[.int .i64 a0_0, .int .i64 a0_1] 55 ?_; intro gb207 hg w25 hbox hb; have BK207 := Aside0.mk (hbox); have GW207 := zS hg; have GE207 := zS hg; replace HB := zX hb; clear hb hbox hg) | ((with_reducible refine gate_dst (N := 4) rfl ?_); refine zBx (N := 4) #[.int .i64 a1_0, .int .i64 a1_1] 55 ?_; intro gb208 hg w26 hbox hb; have BK208 := Aside0.mk (hbox); have GW208 := zSg hg (zG GE207.out); have GE208 := zSg hg (zG GE207.out); have NB207_208 := zL hg BK207.out; have NB208_207 := zLg hg BK207.out; replace BK207 := zV BK207.out hb; replace HB := zX1 GE207.out hb; clear hb hbox hg) | ((with_reducible refine gate_dst (N := 5) rfl ?_); refine zBx (N := 5) #[.int .i64 a2_0, .int .i64 a2_1] 55 ?_; intro gb209 hg w27 hbox hb; have BK209 := Aside0.mk (hbox); have GW209 := zSg hg (zG2 GE207.out GE208.out); have GE209 := zSg hg (zG2 GE207.out GE208.out); have NB207_209 := zL hg BK207.out; have NB209_207 := zLg hg BK207.out; replace BK207 := zV BK207.out hb; have NB208_209 := zL hg BK208.out; have NB209_208 := zLg hg BK208.out; replace BK208 := zV BK208.out hb; replace HB := Aside0.mk (below_step (zG2 GE207.out GE208.out) hb); clear hb hbox hg; have hnb28 := NB207_208.out; have hnc28 := NB208_207.out; have hnb29 := NB207_209.out; have hnc29 := NB209_207.out; obtain ⟨hcz30_0, hcz30_1, hfz30_0, hfz30_1⟩ := zq2 BK207.out; have hnb31 := NB208_209.out; have hnc31 := NB209_208.out; obtain ⟨hcz32_0, hcz32_1, hfz32_0, hfz32_1⟩ := zq2 BK208.out; obtain ⟨hcz33_0, hcz33_1, hfz33_0, hfz33_1⟩ := zq2 BK209.out) | ((with_reducible refine gate_dst (N := 10) rfl ?_); refine Kd.R_lit k55 _ 55 ?hg (N := 10) ?hd (xs := ([(⟨a0_0, a0_1⟩ : S55), (⟨a1_0, a1_1⟩ : S55), (⟨a2_0, a2_1⟩ : S55)] : List (S55))) (inner := [.int .i64 a0_0, .int .i64 a0_1, .int .i64 a1_0, .int .i64 a1_1, .int .i64 a2_0, .int .i64 a2_1]) (ok := fun _ => True) (okp := fun _ => True) ?hr ?hp (fun _ hk => hk) trivial (Below.refl _ _) (Nat.le_refl _) (by simp) ?_; (case hd => rfl); (case hg => rfl); (case hr => first | (go_simp; done) | (go_simp; rfl)); (case hp => exact (Reps.c2 (show Kd.M k55 _ _ _ (⟨a0_0, a0_1⟩ : S55) [.int .i64 a0_0, .int .i64 a0_1] from (k55_mkM _ _ _ (⟨a0_0, a0_1⟩ : S55) )) (Reps.c2 (show Kd.M k55 _ _ _ (⟨a1_0, a1_1⟩ : S55) [.int .i64 a1_0, .int .i64 a1_1] from (k55_mkM _ _ _ (⟨a1_0, a1_1⟩ : S55) )) (Reps.c2 (show Kd.M k55 _ _ _ (⟨a2_0, a2_1⟩ : S55) [.int .i64 a2_0, .int .i64 a2_1] from (k55_mkM _ _ _ (⟨a2_0, a2_1⟩ : S55) )) (Reps.none _ _))))); intro v211 w34 ho35 hb hg_ hnew_; clear hg_ hnew_; (first | rw [← Ny210.out] at ho35 | (simp only [Int.reduceToNat] at ho35; rw [← Ny210.out] at ho35)); have HO212 := Aside0.mk (Kd.R_lower (Kd.R_newB (Kd.R_newB (Kd.R_newB ho35 (g := gb207) (o := .cells #[.int .i64 a0_0, .int .i64 a0_1] 55 (0, 0)) (zK BK207.out)) (g := gb208) (o := .cells #[.int .i64 a1_0, .int .i64 a1_1] 55 (0, 0)) (zK BK208.out)) (g := gb209) (o := .cells #[.int .i64 a2_0, .int .i64 a2_1] 55 (0, 0)) (zK BK209.out)) (below_size (zG3 GE207.out GE208.out GE209.out))); replace BK207 := zV BK207.out hb; replace BK208 := zV BK208.out hb; replace BK209 := zV BK209.out hb; replace HB := Aside0.mk (below_step (zG3 GE207.out GE208.out GE209.out) hb); clear hb ho35; obtain ⟨Ao36, co36, eo36⟩ := Kd.R_slice HO212.out; subst eo36) | ((with_reducible refine gate_callee (f := 58) rfl ?_); refine zD (some 11) Tryd.func58 #[.int .i64 1000, .slice Ao36 y210.length co36] ?_; (with_reducible refine (impl_areNear.calls 1000 _ _ y210 false _ ?side1 ?side2 A4.out).mono ?_); (case side1 => repeat (first | exact (Kd.R_reads' HO212.out).2.2 | (with_reducible refine Kd.C_alloc ?_ _) | (with_reducible refine Kd.C_drewN ?_ _) | (with_reducible refine Kd.C_drew ?_))); (case side2 => exact (Kd.R_reads' HO212.out).2.1); rintro e w37 ⟨rfl, hb⟩; refine ⟨_, rfl, ?_⟩; replace HO212 := zW HO212.out hb; replace BK207 := zV BK207.out hb; replace BK208 := zV BK208.out hb; replace BK209 := zV BK209.out hb; replace HB := Aside0.mk (below_step (zG3 GE207.out GE208.out GE209.out) hb); (try clear hb)))
 go_ret
 exact ⟨zE, zG3 GE207.out GE208.out GE209.out⟩
/-! ### impl_ArePoints: function 42 -/
mutual
def impl_ArePoints.j0 : Nat → List (S55) → Bool → Option (Bool)
 | 0, _, _ => none
 | k + 1, x0, x17 => if x17 = true then (some false) else ((impl_triplesOf.f k (x0.length : Int)).bind fun t217 => (impl_ArePoints.l0 k x0 t217 (t217.length : Int) 0))
def impl_ArePoints.l0 : Nat → List (S55) → List (S76) → Int → Int → Option (Bool)
 | 0, _, _, _, _ => none
 | k + 1, x0, x20, x21, x22 => if x22 < x21 then (if 0 ≤ x22 then (if x22 < (x20.length : Int) then (if 0 ≤ ((rd_T76 x20 x22).f0) then (if ((rd_T76 x20 x22).f0) < (x0.length : Int) then (if 0 ≤ ((rd_T76 x20 x22).f1) then (if ((rd_T76 x20 x22).f1) < (x0.length : Int) then (if 0 ≤ ((rd_T76 x20 x22).f2) then (if ((rd_T76 x20 x22).f2) < (x0.length : Int) then ((impl_TurnOf.f ((rd_T55 x0 ((rd_T76 x20 x22).f0)).f0) ((rd_T55 x0 ((rd_T76 x20 x22).f0)).f1) ((rd_T55 x0 ((rd_T76 x20 x22).f1)).f0) ((rd_T55 x0 ((rd_T76 x20 x22).f1)).f1) ((rd_T55 x0 ((rd_T76 x20 x22).f2)).f0) ((rd_T55 x0 ((rd_T76 x20 x22).f2)).f1)).bind fun t225 => (if t225 = 0 then (some false) else (impl_ArePoints.l0 k x0 x20 x21 (wrap64 (x22 + 1))))) else (none)) else (none)) else (none)) else (none)) else (none)) else (none)) else (none)) else (none)) else (some true)
end
def impl_ArePoints.f (k : Nat) (l0 : List (S55)) : Option (Bool) := if (l0.length : Int) < 3 then (impl_ArePoints.j0 k l0 true) else (if (l0.length : Int) > 7 then (impl_ArePoints.j0 k l0 true) else ((impl_areNear.f 50 l0).bind fun t216 => (impl_ArePoints.j0 k l0 (!t216))))
def impl_ArePoints.T6 : Bool × List (List Nat × List Nat) := (true, [([], []), ([], []), ([1], [1]), ([0, 2], [0, 2]), ([3], [3]), ([], []), ([], []), ([6], [6]), ([5, 7], [5, 7]), ([8], [8]), ([], []), ([], []), ([11], [11]), ([10, 12], [10, 12]), ([13], [13]), ([4, 9, 14], [4, 9, 14]), ([15], [15])])
def impl_ArePoints.B6 : List Nat := [0, 0, 2, 7, 15, 0, 0, 64, 224, 480, 0, 0, 2048, 7168, 15360, 32767, 65535]
theorem impl_ArePoints.tab6 : rtab .any (opsOf Tryd.f42 6) = impl_ArePoints.T6 := by kernel_rfl
theorem impl_ArePoints.bits6 : waitsOk impl_ArePoints.T6.2 impl_ArePoints.B6 = true := by kernel_rfl
set_option maxHeartbeats 8000000 in
set_option maxRecDepth 100000 in
theorem impl_ArePoints.calls (k : Nat) (A0 : Option Addr) (c0 : Nat) (l0 : List (S55)) (r : Bool) (w : World) (hr0 : Kd.C k55 w A0 l0.length l0) (hc0 : l0.length ≤ c0) (h : impl_ArePoints.f k l0 = some r) :
  Calls Tryd.prog 42 #[.slice A0 l0.length c0] w fun e w' => e = .returned (.bool r) ∧ Below w.heap.size w w' := by
 have hu76 := Tryd.underlying76
 have hu55 := Tryd.underlying55
 have HR0 := Aside0.mk hr0
 have HC0 := Aside0.mk hc0
 clear hr0 hc0
 have HB := Aside0.mk (Below.refl w.heap.size w)
 have H : (if (l0.length : Int) < 3 then (impl_ArePoints.j0 k l0 true) else (if (l0.length : Int) > 7 then (impl_ArePoints.j0 k l0 true) else ((impl_areNear.f 50 l0).bind fun t216 => (impl_ArePoints.j0 k l0 (!t216))))) = some r := h
 clear h
 have HC2 := Aside0.mk H
 clear H
 go_enter Tryd.func42, Tryd.ntmps42
 go_upto_region 1 with (fail)
 go_cut [17] (fun v17 wc => ∃ (kq : Nat) (x17_1 : Bool), v17 = .bool x17_1 ∧ Aside0 (impl_ArePoints.j0 kq l0 x17_1 = some r) ∧ Aside0 (kq ≤ k) ∧ Aside0 (Below w.heap.size w wc))
 case first =>
  have H := HC2.out
  clear HC2
  by_cases c3 : (l0.length : Int) < 3
  ·rw [if_pos c3] at H
   have c3b0 := decide_eq_true c3
   have c3b1 : decide (l0.length < 3) = true := decide_eq_true (by omega)
   clear c3
   (first | rw [c3b0] | (simp only [i64_w, i32_w]; rw [c3b0]) | skip)
   have H' := Aside0.mk H; clear H
   go_wp2
   go_meet
   case rel => exact ⟨_, (true), zF, H', ⟨by first | omega | exact Nat.le_refl _⟩, ⟨zB⟩⟩
  rw [if_neg c3] at H
  have c3b0 := decide_eq_false c3
  have c3b1 : decide (l0.length < 3) = false := decide_eq_false (by omega)
  clear c3
  (first | rw [c3b0] | (simp only [i64_w, i32_w]; rw [c3b0]) | skip)
  by_cases c4 : (l0.length : Int) > 7
  ·rw [if_pos c4] at H
   have c4b0 : decide (7 < (l0.length : Int)) = true := decide_eq_true c4
   have c4b1 : decide (7 < l0.length) = true := decide_eq_true (by omega)
   clear c4
   have H' := Aside0.mk H; clear H
   go_wp2
   go_meet
   case rel => exact ⟨_, (true), zF, H', ⟨by first | omega | exact Nat.le_refl _⟩, ⟨zB⟩⟩
  rw [if_neg c4] at H
  have c4b0 : decide (7 < (l0.length : Int)) = false := decide_eq_false c4
  have c4b1 : decide (7 < l0.length) = false := decide_eq_false (by omega)
  clear c4
  obtain ⟨t216, A5, H⟩ := zO H
  have H' := Aside0.mk H; clear H
  go_wp2_with (first | (go_at_call 58; (with_reducible refine (impl_areNear.calls 50 _ _ l0 t216 _ ?side1 ?side2 A5.out).mono ?_); (case side1 => repeat (first | exact (Kd.C_below HR0.out HB.out) | (with_reducible refine Kd.C_alloc ?_ _) | (with_reducible refine Kd.C_drewN ?_ _) | (with_reducible refine Kd.C_drew ?_))); (case side2 => exact HC0.out); rintro e w6 ⟨rfl, hb⟩; replace HB := zX hb; (try clear hb); (try clear hb2); (try clear hk); (try clear hi)))
  go_meet
  case rel => exact ⟨_, (!t216), zF, H', ⟨by first | omega | exact Nat.le_refl _⟩, ⟨zB⟩⟩
 case rest =>
 clear HC2
 obtain ⟨kq, x17_1, rfl, HA, HJ1, HB⟩ := hcut
 cases kq with
 | zero => exact absurd HA.out (by simp [impl_ArePoints.j0])
 | succ kj1 =>
 have H := HA.out
 clear HA
 simp only [impl_ArePoints.j0] at H
 by_cases c7 : x17_1 = true
 ·subst c7
  replace H := (if_pos rfl).symm.trans H
  obtain rfl := Option.some.inj H
  go_wp2
  go_ret
  exact ⟨zE, zB⟩
 replace c7 := Bool.eq_false_iff.mpr c7
 subst c7
 replace H := (if_neg zFf).symm.trans H
 obtain ⟨t217, A8, H⟩ := zO H
 have H' := Aside0.mk H; clear H
 go_wp2_with (first | ((with_reducible refine gate_callee (f := 59) rfl ?_); refine zD (some 20) Tryd.func59 #[.int .i64 (l0.length : Int)] ?_; (with_reducible refine (impl_triplesOf.calls kj1 (l0.length : Int) t217 _ A8.out).mono ?_); rintro e w9 ⟨v218, rfl, ho0, hb⟩; refine ⟨_, rfl, ?_⟩; have HO219 := Aside0.mk (Kd.R_lower ho0 (below_size zB)); replace HB := zX hb; (try clear hb); (try clear ho0); obtain ⟨Ao10, co10, eo10⟩ := Kd.R_slice HO219.out; subst eo10))
 go_loopg [22] kj1 (fun kq v22 w' => ∃ (x22_2 : Int), v22 = .int .i64 x22_2 ∧ Aside0 (impl_ArePoints.l0 kq l0 t217 (t217.length : Int) x22_2 = some r) ∧ Aside0 (kq ≤ kj1) ∧ Aside0 (Kd.R k76 76 w' w.heap.size (fun _ => True) (.slice Ao10 t217.length co10) t217) ∧ Aside0 (Below w.heap.size w w'))
 case atStart => exact ⟨(0), zF, H', ⟨Nat.le_refl _⟩, ⟨zR HO219.out⟩, ⟨zB⟩⟩
 case round =>
 clear H'
 try clear c7
 obtain ⟨x22_2, rfl, HA, HK2, HO_20, HB⟩ := hrel
 cases gk with
 | zero => exact absurd HA.out (by simp [impl_ArePoints.l0])
 | succ k2 =>
 have H := HA.out
 clear HA
 simp only [impl_ArePoints.l0] at H
 by_cases c11 : x22_2 < (t217.length : Int)
 ·rw [if_pos c11] at H
  have c11b0 := decide_eq_true c11
  clear c11
  by_cases c12 : 0 ≤ x22_2
  ·rw [if_pos c12] at H
   have c12b0 := decide_eq_true c12
   clear c12
   by_cases c13 : x22_2 < (t217.length : Int)
   ·rw [if_pos c13] at H
    have c13b0 := decide_eq_true c13
    clear c13
    by_cases c14 : 0 ≤ ((rd_T76 t217 x22_2).f0)
    ·rw [if_pos c14] at H
     have c14b0 := decide_eq_true c14
     clear c14
     by_cases c15 : ((rd_T76 t217 x22_2).f0) < (l0.length : Int)
     ·rw [if_pos c15] at H
      have c15b0 := decide_eq_true c15
      clear c15
      by_cases c16 : 0 ≤ ((rd_T76 t217 x22_2).f1)
      ·rw [if_pos c16] at H
       have c16b0 := decide_eq_true c16
       clear c16
       by_cases c17 : ((rd_T76 t217 x22_2).f1) < (l0.length : Int)
       ·rw [if_pos c17] at H
        have c17b0 := decide_eq_true c17
        clear c17
        by_cases c18 : 0 ≤ ((rd_T76 t217 x22_2).f2)
        ·rw [if_pos c18] at H
         have c18b0 := decide_eq_true c18
         clear c18
         by_cases c19 : ((rd_T76 t217 x22_2).f2) < (l0.length : Int)
         ·rw [if_pos c19] at H
          have c19b0 := decide_eq_true c19
          clear c19
          obtain ⟨t225, A20, H⟩ := zO H
          by_cases c21 : t225 = 0
          ·rw [if_pos c21] at H
           have c21b0 := beq_iff_eq.mpr c21
           have c21b1 := bne_eq_false_iff_eq.mpr c21
           clear c21
           obtain rfl := Option.some.inj H
           have p220 : 0 ≤ (x22_2 : Int) := zA
           have q220 : x22_2 < (t217.length : Int) := zA
           obtain ⟨ad220, e220, hx220_0, hx220_1, hx220_2⟩ := at_T76 (Kd.R_reads' HO_20.out).2.2 x22_2 p220 q220
           cases e220
           replace p220 := eq_true p220
           replace q220 := eq_true q220
           try go_wp2_with (first | ((with_reducible refine gate_dst (N := 4) rfl ?_); (try (refine gate_guard (by rfl) ?_; dsimp only)); refine zBx (N := 4) #[.int .i64 0, .int .i64 0, .int .i64 0] 76 ?_; intro gb221 hg w22 hbox hb; replace HO_20 := Aside0.mk (Kd.R_below (Kd.R_elderB (zR HO_20.out) gb221 (Nat.le_of_eq hg.symm)) hb); have BK221 := Aside0.mk (hbox); have GW221 := zS hg; have GE221 := zS hg; replace HB := zX hb; clear hb hbox hg; obtain ⟨hcz23_0, hcz23_1, hcz23_2, hfz23_0, hfz23_1, hfz23_2⟩ := zq3 BK221.out))
           have n0_ : Aside0 (Kd.R k76 76 (((w22.setCell ⟨gb221, 0, none⟩ (.int .i64 ((rd_T76 t217 x22_2).f0))).setCell ⟨gb221, 1, none⟩ (.int .i64 ((rd_T76 t217 x22_2).f1))).setCell ⟨gb221, 2, none⟩ (.int .i64 ((rd_T76 t217 x22_2).f2))) w.heap.size (fun k_ => k_ ≠ gb221) (.slice (some ad220) t217.length co10) t217) := ⟨by (with_reducible repeat (first | apply Kd.R_alloc | apply Kd.R_drewN | apply Kd.R_drew)); exact Kd.R_mono (Kd.R_far (p := ⟨gb221, 2, none⟩) (Kd.R_far (p := ⟨gb221, 1, none⟩) (Kd.R_far (p := ⟨gb221, 0, none⟩) (Kd.R_mono HO_20.out (fun k_ hk => (⟨hk, hk.2⟩ : _ ∧ k_ ≠ gb221))) (fun _ hk => hk.2) (.int .i64 ((rd_T76 t217 x22_2).f0))) (fun _ hk => hk.2) (.int .i64 ((rd_T76 t217 x22_2).f1))) (fun _ hk => hk.2) (.int .i64 ((rd_T76 t217 x22_2).f2))) (fun _ hk => hk.1.2)⟩
           have n1_ : Aside0 ((((w22.setCell ⟨gb221, 0, none⟩ (.int .i64 ((rd_T76 t217 x22_2).f0))).setCell ⟨gb221, 1, none⟩ (.int .i64 ((rd_T76 t217 x22_2).f1))).setCell ⟨gb221, 2, none⟩ (.int .i64 ((rd_T76 t217 x22_2).f2))).heap[gb221]? = some (.cells #[.int .i64 ((rd_T76 t217 x22_2).f0), .int .i64 ((rd_T76 t217 x22_2).f1), .int .i64 ((rd_T76 t217 x22_2).f2)] 76 (0, 0))) := ⟨zk0 BK221.out⟩
           have n2_ : Aside0 (Below w.heap.size w (((w22.setCell ⟨gb221, 0, none⟩ (.int .i64 ((rd_T76 t217 x22_2).f0))).setCell ⟨gb221, 1, none⟩ (.int .i64 ((rd_T76 t217 x22_2).f1))).setCell ⟨gb221, 2, none⟩ (.int .i64 ((rd_T76 t217 x22_2).f2)))) := ⟨zG GE221.out⟩
           (try clear HO_20)
           (try clear BK221)
           (try clear HB)
           generalize (((w22.setCell ⟨gb221, 0, none⟩ (.int .i64 ((rd_T76 t217 x22_2).f0))).setCell ⟨gb221, 1, none⟩ (.int .i64 ((rd_T76 t217 x22_2).f1))).setCell ⟨gb221, 2, none⟩ (.int .i64 ((rd_T76 t217 x22_2).f2))) = w24 at n0_ n1_ n2_ ⊢
           have HO_20 := n0_
           have BK221 := n1_
           have HB := n2_
           clear n0_ n1_ n2_
           replace HO_20 := Aside0.mk (Kd.R_drew HO_20.out)
           replace BK221 := Aside0.mk (blk_drew BK221.out)
           replace HB := Aside0.mk (below_drew1 HB.out)
           have p222 : 0 ≤ (((rd_T76 t217 x22_2).f0) : Int) := zA
           have q222 : ((rd_T76 t217 x22_2).f0) < (l0.length : Int) := zA
           obtain ⟨ad222, e222, hx222_0, hx222_1⟩ := at_T55 HR0.out ((rd_T76 t217 x22_2).f0) p222 q222
           have hw222_1 := hx222_1
           have hw222_0 := hx222_0
           cases e222
           replace hx222_0 := (HB.out.cell (World.block_lt_of_cell? w _ hx222_0)).trans hx222_0
           replace hx222_1 := (HB.out.cell (World.block_lt_of_cell? w _ hx222_1)).trans hx222_1
           replace p222 := eq_true p222
           replace q222 := eq_true q222
           have p223 : 0 ≤ (((rd_T76 t217 x22_2).f1) : Int) := zA
           have q223 : ((rd_T76 t217 x22_2).f1) < (l0.length : Int) := zA
           obtain ⟨ad223, e223, hx223_0, hx223_1⟩ := at_T55 HR0.out ((rd_T76 t217 x22_2).f1) p223 q223
           have hw223_1 := hx223_1
           have hw223_0 := hx223_0
           obtain rfl : ad222 = ad223 := (by injection e223)
           replace hx223_0 := (HB.out.cell (World.block_lt_of_cell? w _ hx223_0)).trans hx223_0
           replace hx223_1 := (HB.out.cell (World.block_lt_of_cell? w _ hx223_1)).trans hx223_1
           replace p223 := eq_true p223
           replace q223 := eq_true q223
           have p224 : 0 ≤ (((rd_T76 t217 x22_2).f2) : Int) := zA
           have q224 : ((rd_T76 t217 x22_2).f2) < (l0.length : Int) := zA
           obtain ⟨ad224, e224, hx224_0, hx224_1⟩ := at_T55 HR0.out ((rd_T76 t217 x22_2).f2) p224 q224
           have hw224_1 := hx224_1
           have hw224_0 := hx224_0
           obtain rfl : ad222 = ad224 := (by injection e224)
           replace hx224_0 := (HB.out.cell (World.block_lt_of_cell? w _ hx224_0)).trans hx224_0
           replace hx224_1 := (HB.out.cell (World.block_lt_of_cell? w _ hx224_1)).trans hx224_1
           replace p224 := eq_true p224
           replace q224 := eq_true q224
           refine start_ (n := 17) (S := fun w' => w'.cell? ⟨gb221, 0, none⟩ = some (.int .i64 ((rd_T76 t217 x22_2).f0)) ∧ w'.cell? ⟨gb221, 1, none⟩ = some (.int .i64 ((rd_T76 t217 x22_2).f1)) ∧ w'.cell? ⟨gb221, 2, none⟩ = some (.int .i64 ((rd_T76 t217 x22_2).f2)) ∧ w'.cell? (ad222.add ((((rd_T76 t217 x22_2).f0)).toNat * 2)) = some (.int .i64 ((rd_T55 l0 ((rd_T76 t217 x22_2).f0)).f0)) ∧ w'.cell? ⟨(ad222.add ((((rd_T76 t217 x22_2).f0)).toNat * 2)).block, (ad222.add ((((rd_T76 t217 x22_2).f0)).toNat * 2)).off + 1, none⟩ = some (.int .i64 ((rd_T55 l0 ((rd_T76 t217 x22_2).f0)).f1)) ∧ w'.cell? (ad222.add ((((rd_T76 t217 x22_2).f1)).toNat * 2)) = some (.int .i64 ((rd_T55 l0 ((rd_T76 t217 x22_2).f1)).f0)) ∧ w'.cell? ⟨(ad222.add ((((rd_T76 t217 x22_2).f1)).toNat * 2)).block, (ad222.add ((((rd_T76 t217 x22_2).f1)).toNat * 2)).off + 1, none⟩ = some (.int .i64 ((rd_T55 l0 ((rd_T76 t217 x22_2).f1)).f1)) ∧ w'.cell? (ad222.add ((((rd_T76 t217 x22_2).f2)).toNat * 2)) = some (.int .i64 ((rd_T55 l0 ((rd_T76 t217 x22_2).f2)).f0)) ∧ w'.cell? ⟨(ad222.add ((((rd_T76 t217 x22_2).f2)).toNat * 2)).block, (ad222.add ((((rd_T76 t217 x22_2).f2)).toNat * 2)).off + 1, none⟩ = some (.int .i64 ((rd_T55 l0 ((rd_T76 t217 x22_2).f2)).f1))) (ds := []) #[false, false, false, false, false, false, false, false, false, false, false, false, false, false, false, false, false] (by kernel_rfl) rfl rfl ⟨(blk_cell BK221.out 0).trans rfl, (blk_cell BK221.out 1).trans rfl, (blk_cell BK221.out 2).trans rfl, ((HB.out.cell (World.block_lt_of_cell? w _ hw222_0)).trans hw222_0), ((HB.out.cell (World.block_lt_of_cell? w _ hw222_1)).trans hw222_1), ((HB.out.cell (World.block_lt_of_cell? w _ hw223_0)).trans hw223_0), ((HB.out.cell (World.block_lt_of_cell? w _ hw223_1)).trans hw223_1), ((HB.out.cell (World.block_lt_of_cell? w _ hw224_0)).trans hw224_0), ((HB.out.cell (World.block_lt_of_cell? w _ hw224_1)).trans hw224_1)⟩ (fun hHeld => ?_); refine with_tabW impl_ArePoints.tab6 impl_ArePoints.bits6 (fun HT_ HW_ => ?_)
           generalize w24.drew = w25 at HO_20 BK221 HB hx222_0 hx222_1 hx223_0 hx223_1 hx224_0 hx224_1 hHeld ⊢
           refine zP 0 (some 26) rfl rfl ?_
           refine zP 1 (some 27) rfl rfl ?_
           refine zP 5 (some 31) rfl rfl ?_
           refine zP 6 (some 32) rfl rfl ?_
           refine zP 10 (some 36) rfl rfl ?_
           refine zP 11 (some 37) rfl rfl ?_
           refine zY9 2 (some 28) rfl rfl hHeld ?_
           refine zP 3 (some 29) rfl rfl ?_
           refine zY9 4 (some 30) rfl rfl hHeld ?_
           refine zY9 7 (some 33) rfl rfl hHeld ?_
           refine zP 8 (some 34) rfl rfl ?_
           refine zY9 9 (some 35) rfl rfl hHeld ?_
           refine zY9 12 (some 38) rfl rfl hHeld ?_
           refine zP 13 (some 39) rfl rfl ?_
           refine zY9 14 (some 40) rfl rfl hHeld ?_
           refine zU 15 (some 41) rfl rfl (fun K hK => ?_)
           refine goes_ Tryd.func60 (by kernel_rfl) rfl #[.agg #[.int .i64 ((rd_T55 l0 ((rd_T76 t217 x22_2).f0)).f0), .int .i64 ((rd_T55 l0 ((rd_T76 t217 x22_2).f0)).f1)], .agg #[.int .i64 ((rd_T55 l0 ((rd_T76 t217 x22_2).f1)).f0), .int .i64 ((rd_T55 l0 ((rd_T76 t217 x22_2).f1)).f1)], .agg #[.int .i64 ((rd_T55 l0 ((rd_T76 t217 x22_2).f2)).f0), .int .i64 ((rd_T55 l0 ((rd_T76 t217 x22_2).f2)).f1)]] (by rfl) rfl rfl zM ?_
           with_reducible refine (impl_TurnOf.calls ((rd_T55 l0 ((rd_T76 t217 x22_2).f0)).f0) ((rd_T55 l0 ((rd_T76 t217 x22_2).f0)).f1) ((rd_T55 l0 ((rd_T76 t217 x22_2).f1)).f0) ((rd_T55 l0 ((rd_T76 t217 x22_2).f1)).f1) ((rd_T55 l0 ((rd_T76 t217 x22_2).f2)).f0) ((rd_T55 l0 ((rd_T76 t217 x22_2).f2)).f1) t225 _ A20.out).mono ?_
           rintro e w26 ⟨rfl, hb⟩
           refine ⟨_, rfl, ?_⟩
           replace HO_20 := zW HO_20.out hb
           replace BK221 := zV BK221.out hb
           replace HB := zX1 GE221.out hb
           (try clear hb)
           refine hK.out _ _ ⟨(blk_cell BK221.out 0).trans rfl, (blk_cell BK221.out 1).trans rfl, (blk_cell BK221.out 2).trans rfl, ((HB.out.cell (World.block_lt_of_cell? w _ hw222_0)).trans hw222_0), ((HB.out.cell (World.block_lt_of_cell? w _ hw222_1)).trans hw222_1), ((HB.out.cell (World.block_lt_of_cell? w _ hw223_0)).trans hw223_0), ((HB.out.cell (World.block_lt_of_cell? w _ hw223_1)).trans hw223_1), ((HB.out.cell (World.block_lt_of_cell? w _ hw224_0)).trans hw224_0), ((HB.out.cell (World.block_lt_of_cell? w _ hw224_1)).trans hw224_1)⟩ (fun hHeld => ?_)
           clear hK K
           refine zN ?_
           refine zP 16 (some 42) rfl rfl ?_
           refine done_ (done_of HT_.out (by kernel_rfl)) ?_
           try go_wp2
           go_ret
           exact ⟨zE, zG GE221.out⟩
          rw [if_neg c21] at H
          have c21b0 := beq_eq_false_iff_ne.mpr c21
          have c21b1 := bne_iff_ne.mpr c21
          have H' := Aside0.mk H; clear H
          have p220 : 0 ≤ (x22_2 : Int) := zA
          have q220 : x22_2 < (t217.length : Int) := zA
          obtain ⟨ad220, e220, hx220_0, hx220_1, hx220_2⟩ := at_T76 (Kd.R_reads' HO_20.out).2.2 x22_2 p220 q220
          cases e220
          replace p220 := eq_true p220
          replace q220 := eq_true q220
          try go_wp2_with (first | ((with_reducible refine gate_dst (N := 4) rfl ?_); (try (refine gate_guard (by rfl) ?_; dsimp only)); refine zBx (N := 4) #[.int .i64 0, .int .i64 0, .int .i64 0] 76 ?_; intro gb221 hg w27 hbox hb; replace HO_20 := Aside0.mk (Kd.R_below (Kd.R_elderB (zR HO_20.out) gb221 (Nat.le_of_eq hg.symm)) hb); have BK221 := Aside0.mk (hbox); have GW221 := zS hg; have GE221 := zS hg; replace HB := zX hb; clear hb hbox hg; obtain ⟨hcz28_0, hcz28_1, hcz28_2, hfz28_0, hfz28_1, hfz28_2⟩ := zq3 BK221.out))
          have n0_ : Aside0 (Kd.R k76 76 (((w27.setCell ⟨gb221, 0, none⟩ (.int .i64 ((rd_T76 t217 x22_2).f0))).setCell ⟨gb221, 1, none⟩ (.int .i64 ((rd_T76 t217 x22_2).f1))).setCell ⟨gb221, 2, none⟩ (.int .i64 ((rd_T76 t217 x22_2).f2))) w.heap.size (fun k_ => k_ ≠ gb221) (.slice (some ad220) t217.length co10) t217) := ⟨by (with_reducible repeat (first | apply Kd.R_alloc | apply Kd.R_drewN | apply Kd.R_drew)); exact Kd.R_mono (Kd.R_far (p := ⟨gb221, 2, none⟩) (Kd.R_far (p := ⟨gb221, 1, none⟩) (Kd.R_far (p := ⟨gb221, 0, none⟩) (Kd.R_mono HO_20.out (fun k_ hk => (⟨hk, hk.2⟩ : _ ∧ k_ ≠ gb221))) (fun _ hk => hk.2) (.int .i64 ((rd_T76 t217 x22_2).f0))) (fun _ hk => hk.2) (.int .i64 ((rd_T76 t217 x22_2).f1))) (fun _ hk => hk.2) (.int .i64 ((rd_T76 t217 x22_2).f2))) (fun _ hk => hk.1.2)⟩
          have n1_ : Aside0 ((((w27.setCell ⟨gb221, 0, none⟩ (.int .i64 ((rd_T76 t217 x22_2).f0))).setCell ⟨gb221, 1, none⟩ (.int .i64 ((rd_T76 t217 x22_2).f1))).setCell ⟨gb221, 2, none⟩ (.int .i64 ((rd_T76 t217 x22_2).f2))).heap[gb221]? = some (.cells #[.int .i64 ((rd_T76 t217 x22_2).f0), .int .i64 ((rd_T76 t217 x22_2).f1), .int .i64 ((rd_T76 t217 x22_2).f2)] 76 (0, 0))) := ⟨zk0 BK221.out⟩
          have n2_ : Aside0 (Below w.heap.size w (((w27.setCell ⟨gb221, 0, none⟩ (.int .i64 ((rd_T76 t217 x22_2).f0))).setCell ⟨gb221, 1, none⟩ (.int .i64 ((rd_T76 t217 x22_2).f1))).setCell ⟨gb221, 2, none⟩ (.int .i64 ((rd_T76 t217 x22_2).f2)))) := ⟨zG GE221.out⟩
          (try clear HO_20)
          (try clear BK221)
          (try clear HB)
          generalize (((w27.setCell ⟨gb221, 0, none⟩ (.int .i64 ((rd_T76 t217 x22_2).f0))).setCell ⟨gb221, 1, none⟩ (.int .i64 ((rd_T76 t217 x22_2).f1))).setCell ⟨gb221, 2, none⟩ (.int .i64 ((rd_T76 t217 x22_2).f2))) = w29 at n0_ n1_ n2_ ⊢
          have HO_20 := n0_
          have BK221 := n1_
          have HB := n2_
          clear n0_ n1_ n2_
          replace HO_20 := Aside0.mk (Kd.R_drew HO_20.out)
          replace BK221 := Aside0.mk (blk_drew BK221.out)
          replace HB := Aside0.mk (below_drew1 HB.out)
          have p222 : 0 ≤ (((rd_T76 t217 x22_2).f0) : Int) := zA
          have q222 : ((rd_T76 t217 x22_2).f0) < (l0.length : Int) := zA
          obtain ⟨ad222, e222, hx222_0, hx222_1⟩ := at_T55 HR0.out ((rd_T76 t217 x22_2).f0) p222 q222
          have hw222_1 := hx222_1
          have hw222_0 := hx222_0
          cases e222
          replace hx222_0 := (HB.out.cell (World.block_lt_of_cell? w _ hx222_0)).trans hx222_0
          replace hx222_1 := (HB.out.cell (World.block_lt_of_cell? w _ hx222_1)).trans hx222_1
          replace p222 := eq_true p222
          replace q222 := eq_true q222
          have p223 : 0 ≤ (((rd_T76 t217 x22_2).f1) : Int) := zA
          have q223 : ((rd_T76 t217 x22_2).f1) < (l0.length : Int) := zA
          obtain ⟨ad223, e223, hx223_0, hx223_1⟩ := at_T55 HR0.out ((rd_T76 t217 x22_2).f1) p223 q223
          have hw223_1 := hx223_1
          have hw223_0 := hx223_0
          obtain rfl : ad222 = ad223 := (by injection e223)
          replace hx223_0 := (HB.out.cell (World.block_lt_of_cell? w _ hx223_0)).trans hx223_0
          replace hx223_1 := (HB.out.cell (World.block_lt_of_cell? w _ hx223_1)).trans hx223_1
          replace p223 := eq_true p223
          replace q223 := eq_true q223
          have p224 : 0 ≤ (((rd_T76 t217 x22_2).f2) : Int) := zA
          have q224 : ((rd_T76 t217 x22_2).f2) < (l0.length : Int) := zA
          obtain ⟨ad224, e224, hx224_0, hx224_1⟩ := at_T55 HR0.out ((rd_T76 t217 x22_2).f2) p224 q224
          have hw224_1 := hx224_1
          have hw224_0 := hx224_0
          obtain rfl : ad222 = ad224 := (by injection e224)
          replace hx224_0 := (HB.out.cell (World.block_lt_of_cell? w _ hx224_0)).trans hx224_0
          replace hx224_1 := (HB.out.cell (World.block_lt_of_cell? w _ hx224_1)).trans hx224_1
          replace p224 := eq_true p224
          replace q224 := eq_true q224
          refine start_ (n := 17) (S := fun w' => w'.cell? ⟨gb221, 0, none⟩ = some (.int .i64 ((rd_T76 t217 x22_2).f0)) ∧ w'.cell? ⟨gb221, 1, none⟩ = some (.int .i64 ((rd_T76 t217 x22_2).f1)) ∧ w'.cell? ⟨gb221, 2, none⟩ = some (.int .i64 ((rd_T76 t217 x22_2).f2)) ∧ w'.cell? (ad222.add ((((rd_T76 t217 x22_2).f0)).toNat * 2)) = some (.int .i64 ((rd_T55 l0 ((rd_T76 t217 x22_2).f0)).f0)) ∧ w'.cell? ⟨(ad222.add ((((rd_T76 t217 x22_2).f0)).toNat * 2)).block, (ad222.add ((((rd_T76 t217 x22_2).f0)).toNat * 2)).off + 1, none⟩ = some (.int .i64 ((rd_T55 l0 ((rd_T76 t217 x22_2).f0)).f1)) ∧ w'.cell? (ad222.add ((((rd_T76 t217 x22_2).f1)).toNat * 2)) = some (.int .i64 ((rd_T55 l0 ((rd_T76 t217 x22_2).f1)).f0)) ∧ w'.cell? ⟨(ad222.add ((((rd_T76 t217 x22_2).f1)).toNat * 2)).block, (ad222.add ((((rd_T76 t217 x22_2).f1)).toNat * 2)).off + 1, none⟩ = some (.int .i64 ((rd_T55 l0 ((rd_T76 t217 x22_2).f1)).f1)) ∧ w'.cell? (ad222.add ((((rd_T76 t217 x22_2).f2)).toNat * 2)) = some (.int .i64 ((rd_T55 l0 ((rd_T76 t217 x22_2).f2)).f0)) ∧ w'.cell? ⟨(ad222.add ((((rd_T76 t217 x22_2).f2)).toNat * 2)).block, (ad222.add ((((rd_T76 t217 x22_2).f2)).toNat * 2)).off + 1, none⟩ = some (.int .i64 ((rd_T55 l0 ((rd_T76 t217 x22_2).f2)).f1))) (ds := []) #[false, false, false, false, false, false, false, false, false, false, false, false, false, false, false, false, false] (by kernel_rfl) rfl rfl ⟨(blk_cell BK221.out 0).trans rfl, (blk_cell BK221.out 1).trans rfl, (blk_cell BK221.out 2).trans rfl, ((HB.out.cell (World.block_lt_of_cell? w _ hw222_0)).trans hw222_0), ((HB.out.cell (World.block_lt_of_cell? w _ hw222_1)).trans hw222_1), ((HB.out.cell (World.block_lt_of_cell? w _ hw223_0)).trans hw223_0), ((HB.out.cell (World.block_lt_of_cell? w _ hw223_1)).trans hw223_1), ((HB.out.cell (World.block_lt_of_cell? w _ hw224_0)).trans hw224_0), ((HB.out.cell (World.block_lt_of_cell? w _ hw224_1)).trans hw224_1)⟩ (fun hHeld => ?_); refine with_tabW impl_ArePoints.tab6 impl_ArePoints.bits6 (fun HT_ HW_ => ?_)
          generalize w29.drew = w30 at HO_20 BK221 HB hx222_0 hx222_1 hx223_0 hx223_1 hx224_0 hx224_1 hHeld ⊢
          refine zP 0 (some 26) rfl rfl ?_
          refine zP 1 (some 27) rfl rfl ?_
          refine zP 5 (some 31) rfl rfl ?_
          refine zP 6 (some 32) rfl rfl ?_
          refine zP 10 (some 36) rfl rfl ?_
          refine zP 11 (some 37) rfl rfl ?_
          refine zY9 2 (some 28) rfl rfl hHeld ?_
          refine zP 3 (some 29) rfl rfl ?_
          refine zY9 4 (some 30) rfl rfl hHeld ?_
          refine zY9 7 (some 33) rfl rfl hHeld ?_
          refine zP 8 (some 34) rfl rfl ?_
          refine zY9 9 (some 35) rfl rfl hHeld ?_
          refine zY9 12 (some 38) rfl rfl hHeld ?_
          refine zP 13 (some 39) rfl rfl ?_
          refine zY9 14 (some 40) rfl rfl hHeld ?_
          refine zU 15 (some 41) rfl rfl (fun K hK => ?_)
          refine goes_ Tryd.func60 (by kernel_rfl) rfl #[.agg #[.int .i64 ((rd_T55 l0 ((rd_T76 t217 x22_2).f0)).f0), .int .i64 ((rd_T55 l0 ((rd_T76 t217 x22_2).f0)).f1)], .agg #[.int .i64 ((rd_T55 l0 ((rd_T76 t217 x22_2).f1)).f0), .int .i64 ((rd_T55 l0 ((rd_T76 t217 x22_2).f1)).f1)], .agg #[.int .i64 ((rd_T55 l0 ((rd_T76 t217 x22_2).f2)).f0), .int .i64 ((rd_T55 l0 ((rd_T76 t217 x22_2).f2)).f1)]] (by rfl) rfl rfl zM ?_
          with_reducible refine (impl_TurnOf.calls ((rd_T55 l0 ((rd_T76 t217 x22_2).f0)).f0) ((rd_T55 l0 ((rd_T76 t217 x22_2).f0)).f1) ((rd_T55 l0 ((rd_T76 t217 x22_2).f1)).f0) ((rd_T55 l0 ((rd_T76 t217 x22_2).f1)).f1) ((rd_T55 l0 ((rd_T76 t217 x22_2).f2)).f0) ((rd_T55 l0 ((rd_T76 t217 x22_2).f2)).f1) t225 _ A20.out).mono ?_
          rintro e w31 ⟨rfl, hb⟩
          refine ⟨_, rfl, ?_⟩
          replace HO_20 := zW HO_20.out hb
          replace BK221 := zV BK221.out hb
          replace HB := zX1 GE221.out hb
          (try clear hb)
          refine hK.out _ _ ⟨(blk_cell BK221.out 0).trans rfl, (blk_cell BK221.out 1).trans rfl, (blk_cell BK221.out 2).trans rfl, ((HB.out.cell (World.block_lt_of_cell? w _ hw222_0)).trans hw222_0), ((HB.out.cell (World.block_lt_of_cell? w _ hw222_1)).trans hw222_1), ((HB.out.cell (World.block_lt_of_cell? w _ hw223_0)).trans hw223_0), ((HB.out.cell (World.block_lt_of_cell? w _ hw223_1)).trans hw223_1), ((HB.out.cell (World.block_lt_of_cell? w _ hw224_0)).trans hw224_0), ((HB.out.cell (World.block_lt_of_cell? w _ hw224_1)).trans hw224_1)⟩ (fun hHeld => ?_)
          clear hK K
          refine zN ?_
          refine zP 16 (some 42) rfl rfl ?_
          refine done_ (done_of HT_.out (by kernel_rfl)) ?_
          try go_wp2
          go_roundg k2
          case measure => have := HJ1.out; have := HK2.out; omega
          case rel => exact ⟨(wrap64 (x22_2 + 1)), zF, H', ⟨by have := HJ1.out; have := HK2.out; omega⟩, ⟨by (with_reducible repeat (first | apply Kd.R_alloc | apply Kd.R_drewN | apply Kd.R_drew)); exact Kd.R_mono HO_20.out (fun _ hk => trivial)⟩, ⟨zG GE221.out⟩⟩
         rw [if_neg c19] at H
         exact absurd H (by simp)
        rw [if_neg c18] at H
        exact absurd H (by simp)
       rw [if_neg c17] at H
       exact absurd H (by simp)
      rw [if_neg c16] at H
      exact absurd H (by simp)
     rw [if_neg c15] at H
     exact absurd H (by simp)
    rw [if_neg c14] at H
    exact absurd H (by simp)
   rw [if_neg c13] at H
   exact absurd H (by simp)
  rw [if_neg c12] at H
  exact absurd H (by simp)
 rw [if_neg c11] at H
 have c11b0 := decide_eq_false c11
 clear c11
 obtain rfl := Option.some.inj H
 go_wp2
 go_ret
 exact ⟨zE, zB⟩
/-! ### impl_ParseInt: function 23 -/
def impl_ParseInt.f (a0 : ByteArray) : Option (Int × Bool) := (impl_whole.f a0 (-999999999999) 999999999999).bind fun bt273 => (some (bt273.1, bt273.2))
theorem zl69_0 {p q : Prop} (g : p) (h : p → q := by intro zg_; repeat (first | (with_reducible first | exact zg_ | apply below_alloc | apply pw_below_drewN | apply below_drew1) | exact zg_)) : q := h g
set_option maxHeartbeats 8000000 in
set_option maxRecDepth 100000 in
theorem impl_ParseInt.calls (a0 : ByteArray) (r1 : Int) (r2 : Bool) (w : World) (h : impl_ParseInt.f a0 = some (r1, r2)) (hT : T2 w) :
  Calls Tryd.prog 23 #[.string a0] w fun e w' => e = .returned (.tuple #[.int .i64 r1, .bool r2]) ∧ Below w.heap.size w w' := by
 have HT := Aside0.mk hT
 clear hT
 have HB := Aside0.mk (Below.refl w.heap.size w)
 have H : ((impl_whole.f a0 (-999999999999) 999999999999).bind fun bt273 => (some (bt273.1, bt273.2))) = some (r1, r2) := h
 clear h
 obtain ⟨⟨t273, t274⟩, A2, H⟩ := zO H
 replace H : (some (t273, t274)) = some (r1, r2) := H
 simp only [Option.some.injEq, Prod.mk.injEq] at H
 obtain ⟨rfl, rfl⟩ := H
 go_enter Tryd.func23, Tryd.ntmps23
 go_wp2_with (first | ((with_reducible refine gate_callee (f := 46) rfl ?_); refine zD (some 5) Tryd.func46 #[.string a0, .int .i64 (-999999999999), .int .i64 999999999999] ?_; (with_reducible refine (impl_whole.calls a0 (-999999999999) 999999999999 t273 t274 _ A2.out (HT.out.below ?sideT)).mono ?_); (case sideT => exact (zl69_0 HB.out)); rintro e w3 ⟨rfl, hb⟩; refine ⟨_, rfl, ?_⟩; replace HB := zX hb; (try clear hb)))
 go_ret2
 exact ⟨zE, zB⟩
/-! ### impl_SplitByte: function 52 -/
def impl_SplitByte.l0 : Nat → ByteArray → Int → List ByteArray → Int → Int → Option (List ByteArray)
 | 0, _, _, _, _, _ => none
 | k + 1, x0, x1, x5, x6, x7 => if x7 ≤ (x0.size : Int) then (if x7 = (x0.size : Int) then (if 0 ≤ x6 then (if x6 ≤ x7 then (if x5.length < 8796093022208 then (impl_SplitByte.l0 k x0 x1 (x5 ++ [x0.extract (x6 : Int).toNat (x7 : Int).toNat]) (wrap64 (x7 + 1)) (wrap64 (x7 + 1))) else (none)) else (none)) else (none)) else (if 0 ≤ x7 then (if x7 < (x0.size : Int) then (if (bt x0 x7) = x1 then (if 0 ≤ x6 then (if x6 ≤ x7 then (if x5.length < 8796093022208 then (impl_SplitByte.l0 k x0 x1 (x5 ++ [x0.extract (x6 : Int).toNat (x7 : Int).toNat]) (wrap64 (x7 + 1)) (wrap64 (x7 + 1))) else (none)) else (none)) else (none)) else (impl_SplitByte.l0 k x0 x1 x5 x6 (wrap64 (x7 + 1)))) else (none)) else (none))) else (some x5)
def impl_SplitByte.f (k : Nat) (a0 : ByteArray) (a1 : Int) : Option (List ByteArray) := impl_SplitByte.l0 k a0 a1 ([] : List ByteArray) 0 0
set_option maxHeartbeats 8000000 in
set_option maxRecDepth 100000 in
theorem impl_SplitByte.calls (k : Nat) (a0 : ByteArray) (a1 : Int) (r : List ByteArray) (w : World) (h : impl_SplitByte.f k a0 a1 = some r) :
  Calls Tryd.prog 52 #[.string a0, .int .u8 a1] w fun e w' => ∃ v0_ : Value, e = .returned (v0_) ∧ Kd.R Kd.string 9 w' w.heap.size (fun _ => True) v0_ r ∧ Below w.heap.size w w' := by
 have HB := Aside0.mk (Below.refl w.heap.size w)
 have H : (impl_SplitByte.l0 k a0 a1 ([] : List ByteArray) 0 0) = some r := h
 clear h
 have H' := Aside0.mk H; clear H
 go_enter Tryd.func52, Tryd.ntmps52
 go_wp2
 go_loopg [5, 6, 7] k (fun kq v5 v6 v7 w' => ∃ (x5_1 : List ByteArray) (x6_1 : Int) (x7_1 : Int), v6 = .int .i64 x6_1 ∧ v7 = .int .i64 x7_1 ∧ Aside0 (impl_SplitByte.l0 kq a0 a1 x5_1 x6_1 x7_1 = some r) ∧ Aside0 (kq ≤ k) ∧ Aside0 (Kd.R Kd.string 9 w' w.heap.size (fun _ => True) v5 x5_1) ∧ Aside0 (Below w.heap.size w w'))
 case atStart => exact ⟨(([] : List ByteArray)), (0), (0), zF, zF, H', ⟨Nat.le_refl _⟩, ⟨by first | exact Kd.R_nil _ _ _ _ _ | exact Kd.N_nil _ _ _ _ _ | exact Kd.V_nil _ _ _ _ _ | exact Kd.Q_nil _ _ _ _ _ | exact Kd.S_nil _ _ _ _ _⟩, ⟨zB⟩⟩
 case round =>
 clear H'
 obtain ⟨x5_1, x6_1, x7_1, rfl, rfl, HA, HK1, HO_5, HB⟩ := hrel
 cases gk with
 | zero => exact absurd HA.out (by simp [impl_SplitByte.l0])
 | succ k1 =>
 have H := HA.out
 clear HA
 simp only [impl_SplitByte.l0] at H
 by_cases c3 : x7_1 ≤ (a0.size : Int)
 ·rw [if_pos c3] at H
  have c3b0 := decide_eq_true c3
  clear c3
  by_cases c4 : x7_1 = (a0.size : Int)
  ·rw [if_pos c4] at H
   have c4b0 := beq_iff_eq.mpr c4
   have c4b1 := bne_eq_false_iff_eq.mpr c4
   clear c4
   by_cases c5 : 0 ≤ x6_1
   ·rw [if_pos c5] at H
    have c5b0 := eq_true c5
    have c5b1 := decide_eq_true c5
    clear c5
    by_cases c6 : x6_1 ≤ x7_1
    ·rw [if_pos c6] at H
     have c6b0 := eq_true c6
     have c6b1 := decide_eq_true c6
     clear c6
     have c7b0 := eq_true (zA : x7_1 ≤ (a0.size : Int))
     by_cases c8 : x5_1.length < 8796093022208
     ·rw [if_pos c8] at H
      have LMc8 := Aside0.mk c8
      clear c8
      obtain ⟨y387, hy387⟩ : ∃ y_ : List ByteArray, y_ = (x5_1 ++ [a0.extract (x6_1 : Int).toNat (x7_1 : Int).toNat]) := ⟨_, rfl⟩
      replace H : (impl_SplitByte.l0 k1 a0 a1 y387 (wrap64 (x7_1 + 1)) (wrap64 (x7_1 + 1))) = some r := by first | (rw [hy387]; with_reducible exact H) | (have H2_ := (Option.bind_some _ _).symm.trans H; rw [hy387]; with_reducible exact H2_) | (have H2_ := (Option.bind_some _ _).symm.trans H; with_reducible exact H2_) | with_reducible exact H | (rw [hy387]; exact H) | exact H
      have Ny387 := Aside0.mk hy387
      clear hy387
      have H' := Aside0.mk H; clear H
      go_wp2_with (first | ((with_reducible refine gate_builtin (b := .append) (xs := #[.tmp 25, .tmp 30]) rfl ?_); at_builtin; refine Kd.R_append Kd.string (w0 := w) w.heap.size rfl (.tmp 25) (.tmp 30) 53 9 (.string ⟨#[]⟩) 16 rfl Tryd.underlying53 info9 rfl (by decide) (by omega) u5 x5_1 (a0.extract (x6_1 : Int).toNat (x7_1 : Int).toNat) [.string (a0.extract (x6_1 : Int).toNat (x7_1 : Int).toNat)] (fun _ => True) (fun _ => False) rfl rfl ?aP (fun _ hk => hk.elim) ?aF ?aO ?aB ?aS ?aL ?_; (case aP => exact rfl); (case aB => exact zB); (case aF => exact (fun _ _ => trivial)); (case aO => exact (zR HO_5.out)); (case aS => exact (below_size zB)); (case aL => have := LMc8.out; omega); intro v388 w9 ho hb hg hat; rw [← Ny387.out] at ho; have n0_ := Aside0.mk (hb); have n1_ := Aside0.mk (ho); clear HB; clear HO_5; have HB := n0_; have HO389 := n1_; clear n0_ n1_; clear ho hb hg hat))
      go_roundg k1
      case measure => have := HK1.out; omega
      case rel => exact ⟨(y387), (wrap64 (x7_1 + 1)), (wrap64 (x7_1 + 1)), zF, zF, H', ⟨by have := HK1.out; omega⟩, ⟨zR HO389.out⟩, ⟨zB⟩⟩
     rw [if_neg c8] at H
     exact absurd H (by simp)
    rw [if_neg c6] at H
    exact absurd H (by simp)
   rw [if_neg c5] at H
   exact absurd H (by simp)
  rw [if_neg c4] at H
  have c4b0 := beq_eq_false_iff_ne.mpr c4
  have c4b1 := bne_iff_ne.mpr c4
  by_cases c10 : 0 ≤ x7_1
  ·rw [if_pos c10] at H
   have c10b0 := decide_eq_true c10
   clear c10
   by_cases c11 : x7_1 < (a0.size : Int)
   ·rw [if_pos c11] at H
    have c11b0 := decide_eq_true c11
    clear c11
    by_cases c13 : (bt a0 x7_1) = a1
    ·rw [if_pos c13] at H
     have c13b0 := beq_iff_eq.mpr c13
     have c13b1 := bne_eq_false_iff_eq.mpr c13
     clear c13
     by_cases c14 : 0 ≤ x6_1
     ·rw [if_pos c14] at H
      have c14b0 := eq_true c14
      have c14b1 := decide_eq_true c14
      clear c14
      by_cases c15 : x6_1 ≤ x7_1
      ·rw [if_pos c15] at H
       have c15b0 := eq_true c15
       have c15b1 := decide_eq_true c15
       clear c15
       have c16b0 := eq_true (zA : x7_1 ≤ (a0.size : Int))
       by_cases c17 : x5_1.length < 8796093022208
       ·rw [if_pos c17] at H
        have LMc17 := Aside0.mk c17
        clear c17
        obtain ⟨y390, hy390⟩ : ∃ y_ : List ByteArray, y_ = (x5_1 ++ [a0.extract (x6_1 : Int).toNat (x7_1 : Int).toNat]) := ⟨_, rfl⟩
        replace H : (impl_SplitByte.l0 k1 a0 a1 y390 (wrap64 (x7_1 + 1)) (wrap64 (x7_1 + 1))) = some r := by first | (rw [hy390]; with_reducible exact H) | (have H2_ := (Option.bind_some _ _).symm.trans H; rw [hy390]; with_reducible exact H2_) | (have H2_ := (Option.bind_some _ _).symm.trans H; with_reducible exact H2_) | with_reducible exact H | (rw [hy390]; exact H) | exact H
        have Ny390 := Aside0.mk hy390
        clear hy390
        have H' := Aside0.mk H; clear H
        have p12 : 0 ≤ (x7_1 : Int) := zA
        have q12 : x7_1 < (a0.size : Int) := zA
        have hx12 := bt_at a0 x7_1
        replace p12 := eq_true p12
        replace q12 := eq_true q12
        go_wp2_with (first | ((with_reducible refine gate_builtin (b := .append) (xs := #[.tmp 25, .tmp 30]) rfl ?_); at_builtin; refine Kd.R_append Kd.string (w0 := w) w.heap.size rfl (.tmp 25) (.tmp 30) 53 9 (.string ⟨#[]⟩) 16 rfl Tryd.underlying53 info9 rfl (by decide) (by omega) u5 x5_1 (a0.extract (x6_1 : Int).toNat (x7_1 : Int).toNat) [.string (a0.extract (x6_1 : Int).toNat (x7_1 : Int).toNat)] (fun _ => True) (fun _ => False) rfl rfl ?aP (fun _ hk => hk.elim) ?aF ?aO ?aB ?aS ?aL ?_; (case aP => exact rfl); (case aB => exact zB); (case aF => exact (fun _ _ => trivial)); (case aO => exact (zR HO_5.out)); (case aS => exact (below_size zB)); (case aL => have := LMc17.out; omega); intro v391 w18 ho hb hg hat; rw [← Ny390.out] at ho; have n0_ := Aside0.mk (hb); have n1_ := Aside0.mk (ho); clear HB; clear HO_5; have HB := n0_; have HO392 := n1_; clear n0_ n1_; clear ho hb hg hat))
        go_roundg k1
        case measure => have := HK1.out; omega
        case rel => exact ⟨(y390), (wrap64 (x7_1 + 1)), (wrap64 (x7_1 + 1)), zF, zF, H', ⟨by have := HK1.out; omega⟩, ⟨zR HO392.out⟩, ⟨zB⟩⟩
       rw [if_neg c17] at H
       exact absurd H (by simp)
      rw [if_neg c15] at H
      exact absurd H (by simp)
     rw [if_neg c14] at H
     exact absurd H (by simp)
    rw [if_neg c13] at H
    have c13b0 := beq_eq_false_iff_ne.mpr c13
    have c13b1 := bne_iff_ne.mpr c13
    have H' := Aside0.mk H; clear H
    have p12 : 0 ≤ (x7_1 : Int) := zA
    have q12 : x7_1 < (a0.size : Int) := zA
    have hx12 := bt_at a0 x7_1
    replace p12 := eq_true p12
    replace q12 := eq_true q12
    go_wp2
    go_roundg k1
    case measure => have := HK1.out; omega
    case rel => exact ⟨(x5_1), (x6_1), (wrap64 (x7_1 + 1)), zF, zF, H', ⟨by have := HK1.out; omega⟩, ⟨zR HO_5.out⟩, ⟨zB⟩⟩
   rw [if_neg c11] at H
   exact absurd H (by simp)
  rw [if_neg c10] at H
  exact absurd H (by simp)
 rw [if_neg c3] at H
 have c3b0 := decide_eq_false c3
 clear c3
 obtain rfl := Option.some.inj H
 go_wp2
 go_ret
 exact ⟨_, zE, zR HO_5.out, zB⟩
/-! ### impl_ParsePoints: function 33 -/
def impl_ParsePoints.l0 : Nat → List (S55) → List ByteArray → Int → Int → Option ((List (S55)) × Bool)
 | 0, _, _, _, _ => none
 | k + 1, x4, x15, x16, x17 => if x17 < x16 then (if 0 ≤ x17 then (if x17 < (x15.length : Int) then ((strings_Cut.f (rdOf ByteArray.empty x15 x17) (⟨#[44]⟩ : ByteArray)).bind fun bt453 => ((impl_ParseInt.f bt453.1).bind fun bt456 => ((impl_ParseInt.f bt453.2.1).bind fun bt458 => (if bt456.2 = true then (if bt458.2 = true then (if (x4.length : Int) = 7 then (some (([] : List (S55)), false)) else (if x4.length < 8796093022208 then (impl_ParsePoints.l0 k (x4 ++ [(⟨bt456.1, bt458.1⟩ : S55)]) x15 x16 (wrap64 (x17 + 1))) else (none))) else (some (([] : List (S55)), false))) else (some (([] : List (S55)), false)))))) else (none)) else (none)) else ((impl_ArePoints.f k x4).bind fun t451 => (if t451 = true then (some (x4, true)) else (some (([] : List (S55)), false))))
def impl_ParsePoints.f (k : Nat) (a0 : ByteArray) : Option ((List (S55)) × Bool) := (impl_SplitByte.f k a0 32).bind fun t448 => (impl_ParsePoints.l0 k ([] : List (S55)) t448 (t448.length : Int) 0)
theorem zl100_0 {p q : Prop} (g : p) (h : p → q := by intro zg_; repeat (first | (with_reducible first | exact zg_ | apply below_alloc | apply pw_below_drewN | apply below_drew1) | exact zg_)) : q := h g
set_option maxHeartbeats 8000000 in
set_option maxRecDepth 100000 in
theorem impl_ParsePoints.calls (k : Nat) (a0 : ByteArray) (r1 : List (S55)) (r2 : Bool) (w : World) (h : impl_ParsePoints.f k a0 = some (r1, r2)) (hT : T3 w) :
  Calls Tryd.prog 33 #[.string a0] w fun e w' => ∃ v0_ : Value, e = .returned (.tuple #[v0_, .bool r2]) ∧ Kd.R k55 55 w' w.heap.size (fun _ => True) v0_ r1 ∧ Below w.heap.size w w' := by
 have HT := Aside0.mk hT
 clear hT
 have hu55 := Tryd.underlying55
 have HB := Aside0.mk (Below.refl w.heap.size w)
 have H : ((impl_SplitByte.f k a0 32).bind fun t448 => (impl_ParsePoints.l0 k ([] : List (S55)) t448 (t448.length : Int) 0)) = some (r1, r2) := h
 clear h
 obtain ⟨t448, A2, H⟩ := zO H
 have H' := Aside0.mk H; clear H
 go_enter Tryd.func33, Tryd.ntmps33
 go_wp2_with (first | ((with_reducible refine gate_callee (f := 52) rfl ?_); refine zD (some 15) Tryd.func52 #[.string a0, .int .u8 32] ?_; (with_reducible refine (impl_SplitByte.calls k a0 32 t448 _ A2.out).mono ?_); rintro e w3 ⟨v449, rfl, ho0, hb⟩; refine ⟨_, rfl, ?_⟩; have HO450 := Aside0.mk (Kd.R_lower ho0 (below_size zB)); replace HB := zX hb; (try clear hb); (try clear ho0); obtain ⟨Ao4, co4, eo4⟩ := Kd.R_slice HO450.out; subst eo4))
 go_loopg [4, 17] k (fun kq v4 v17 w' => ∃ (x4_1 : List (S55)) (x17_1 : Int), v17 = .int .i64 x17_1 ∧ Aside0 (impl_ParsePoints.l0 kq x4_1 t448 (t448.length : Int) x17_1 = some (r1, r2)) ∧ Aside0 (kq ≤ k) ∧ Aside0 (Kd.R k55 55 w' w.heap.size (fun _ => True) v4 x4_1) ∧ Aside0 (Kd.R Kd.string 9 w' w.heap.size (fun _ => True) (.slice Ao4 t448.length co4) t448) ∧ Aside0 (Below w.heap.size w w'))
 case atStart => exact ⟨(([] : List (S55))), (0), zF, H', ⟨Nat.le_refl _⟩, ⟨by first | exact Kd.R_nil _ _ _ _ _ | exact Kd.N_nil _ _ _ _ _ | exact Kd.V_nil _ _ _ _ _ | exact Kd.Q_nil _ _ _ _ _ | exact Kd.S_nil _ _ _ _ _⟩, ⟨zR HO450.out⟩, ⟨zB⟩⟩
 case round =>
 clear H'
 obtain ⟨x4_1, x17_1, rfl, HA, HK1, HO_4, HO_15, HB⟩ := hrel
 cases gk with
 | zero => exact absurd HA.out (by simp [impl_ParsePoints.l0])
 | succ k1 =>
 have H := HA.out
 clear HA
 simp only [impl_ParsePoints.l0] at H
 by_cases c5 : x17_1 < (t448.length : Int)
 ·rw [if_pos c5] at H
  have c5b0 := decide_eq_true c5
  clear c5
  by_cases c6 : 0 ≤ x17_1
  ·rw [if_pos c6] at H
   have c6b0 := decide_eq_true c6
   clear c6
   by_cases c7 : x17_1 < (t448.length : Int)
   ·rw [if_pos c7] at H
    have c7b0 := decide_eq_true c7
    clear c7
    obtain ⟨⟨t453, t454, t455⟩, A8, H⟩ := zO H
    dsimp only at H
    obtain ⟨⟨t456, t457⟩, A9, H⟩ := zO H
    dsimp only at H
    obtain ⟨⟨t458, t459⟩, A10, H⟩ := zO H
    dsimp only at H
    by_cases c11 : t457 = true
    ·subst c11
     replace H := (if_pos rfl).symm.trans H
     by_cases c12 : t459 = true
     ·subst c12
      replace H := (if_pos rfl).symm.trans H
      by_cases c13 : (x4_1.length : Int) = 7
      ·rw [if_pos c13] at H
       have c13b0 := beq_iff_eq.mpr c13
       have c13b1 := bne_eq_false_iff_eq.mpr c13
       clear c13
       simp only [Option.some.injEq, Prod.mk.injEq] at H
       obtain ⟨rfl, rfl⟩ := H
       have p452 : 0 ≤ (x17_1 : Int) := zA
       have q452 : x17_1 < (t448.length : Int) := zA
       obtain ⟨ad452, e452, hx452_0⟩ := Kd.at_string (Kd.R_reads' HO_15.out).2.2 x17_1 p452 q452
       cases e452
       replace p452 := eq_true p452
       replace q452 := eq_true q452
       go_wp2_with (first | ((with_reducible refine gate_callee (f := 53) rfl ?_); refine zD (some 23) Tryd.func53 #[.string (rdOf ByteArray.empty t448 x17_1), .string (⟨#[44]⟩ : ByteArray)] ?_; (with_reducible refine (strings_Cut.calls (rdOf ByteArray.empty t448 x17_1) (⟨#[44]⟩ : ByteArray) t453 t454 t455 _ A8.out (HT.out.below ?sideT)).mono ?_); (case sideT => exact (zl100_0 HB.out)); rintro e w14 ⟨rfl, hb⟩; refine ⟨_, rfl, ?_⟩; replace HO_4 := zW HO_4.out hb; replace HO_15 := zW HO_15.out hb; replace HB := zX hb; (try clear hb)) | ((with_reducible refine gate_callee (f := 23) rfl ?_); refine zD (some 29) Tryd.func23 #[.string t453] ?_; (with_reducible refine (impl_ParseInt.calls t453 t456 true _ A9.out (HT.out.to2.below ?sideT)).mono ?_); (case sideT => exact (zl100_0 HB.out)); rintro e w15 ⟨rfl, hb⟩; refine ⟨_, rfl, ?_⟩; replace HO_4 := zW HO_4.out hb; replace HO_15 := zW HO_15.out hb; replace HB := zX hb; (try clear hb)) | ((with_reducible refine gate_callee (f := 23) rfl ?_); refine zD (some 34) Tryd.func23 #[.string t454] ?_; (with_reducible refine (impl_ParseInt.calls t454 t458 true _ A10.out (HT.out.to2.below ?sideT)).mono ?_); (case sideT => exact (zl100_0 HB.out)); rintro e w16 ⟨rfl, hb⟩; refine ⟨_, rfl, ?_⟩; replace HO_4 := zW HO_4.out hb; replace HO_15 := zW HO_15.out hb; replace HB := zX hb; (try clear hb); obtain ⟨Ao17, co17, eo17⟩ := Kd.R_slice HO_4.out; subst eo17))
       go_ret2
       exact ⟨_, zE, by first | exact Kd.R_nil _ _ _ _ _ | exact Kd.N_nil _ _ _ _ _ | exact Kd.V_nil _ _ _ _ _ | exact Kd.Q_nil _ _ _ _ _ | exact Kd.S_nil _ _ _ _ _, zB⟩
      rw [if_neg c13] at H
      have c13b0 := beq_eq_false_iff_ne.mpr c13
      have c13b1 := bne_iff_ne.mpr c13
      by_cases c18 : x4_1.length < 8796093022208
      ·rw [if_pos c18] at H
       have LMc18 := Aside0.mk c18
       clear c18
       obtain ⟨y460, hy460⟩ : ∃ y_ : List (S55), y_ = (x4_1 ++ [(⟨t456, t458⟩ : S55)]) := ⟨_, rfl⟩
       replace H : (impl_ParsePoints.l0 k1 y460 t448 (t448.length : Int) (wrap64 (x17_1 + 1))) = some (r1, r2) := by first | (rw [hy460]; with_reducible exact H) | (have H2_ := (Option.bind_some _ _).symm.trans H; rw [hy460]; with_reducible exact H2_) | (have H2_ := (Option.bind_some _ _).symm.trans H; with_reducible exact H2_) | with_reducible exact H | (rw [hy460]; exact H) | exact H
       have Ny460 := Aside0.mk hy460
       clear hy460
       have H' := Aside0.mk H; clear H
       have p452 : 0 ≤ (x17_1 : Int) := zA
       have q452 : x17_1 < (t448.length : Int) := zA
       obtain ⟨ad452, e452, hx452_0⟩ := Kd.at_string (Kd.R_reads' HO_15.out).2.2 x17_1 p452 q452
       cases e452
       replace p452 := eq_true p452
       replace q452 := eq_true q452
       go_wp2_with (first | ((with_reducible refine gate_callee (f := 53) rfl ?_); refine zD (some 23) Tryd.func53 #[.string (rdOf ByteArray.empty t448 x17_1), .string (⟨#[44]⟩ : ByteArray)] ?_; (with_reducible refine (strings_Cut.calls (rdOf ByteArray.empty t448 x17_1) (⟨#[44]⟩ : ByteArray) t453 t454 t455 _ A8.out (HT.out.below ?sideT)).mono ?_); (case sideT => exact (zl100_0 HB.out)); rintro e w19 ⟨rfl, hb⟩; refine ⟨_, rfl, ?_⟩; replace HO_4 := zW HO_4.out hb; replace HO_15 := zW HO_15.out hb; replace HB := zX hb; (try clear hb)) | ((with_reducible refine gate_callee (f := 23) rfl ?_); refine zD (some 29) Tryd.func23 #[.string t453] ?_; (with_reducible refine (impl_ParseInt.calls t453 t456 true _ A9.out (HT.out.to2.below ?sideT)).mono ?_); (case sideT => exact (zl100_0 HB.out)); rintro e w20 ⟨rfl, hb⟩; refine ⟨_, rfl, ?_⟩; replace HO_4 := zW HO_4.out hb; replace HO_15 := zW HO_15.out hb; replace HB := zX hb; (try clear hb)) | ((with_reducible refine gate_callee (f := 23) rfl ?_); refine zD (some 34) Tryd.func23 #[.string t454] ?_; (with_reducible refine (impl_ParseInt.calls t454 t458 true _ A10.out (HT.out.to2.below ?sideT)).mono ?_); (case sideT => exact (zl100_0 HB.out)); rintro e w21 ⟨rfl, hb⟩; refine ⟨_, rfl, ?_⟩; replace HO_4 := zW HO_4.out hb; replace HO_15 := zW HO_15.out hb; replace HB := zX hb; (try clear hb); obtain ⟨Ao22, co22, eo22⟩ := Kd.R_slice HO_4.out; subst eo22) | ((with_reducible refine gate_builtin (b := .append) (xs := #[.tmp 48, .tmp 52]) rfl ?_); (try (refine gate_guard (by rfl) ?_; dsimp only)); at_builtin; refine Kd.R_append k55 (w0 := w) w.heap.size rfl (.tmp 48) (.tmp 52) 34 55 (.agg #[(.int .i64 0), (.int .i64 0)]) 16 rfl Tryd.underlying34 info55 rfl (by decide) (by omega) (.slice Ao22 x4_1.length co22) x4_1 (⟨t456, t458⟩ : S55) [.int .i64 t456, .int .i64 t458] (fun _ => True) (fun _ => False) rfl rfl ?aP (fun _ hk => hk.elim) ?aF ?aO ?aB ?aS ?aL ?_; (case aP => exact k55_mkM _ _ _ (⟨t456, t458⟩ : S55)); (case aB => exact zB); (case aF => exact (fun _ _ => trivial)); (case aO => exact (zR HO_4.out)); (case aS => exact (below_size zB)); (case aL => have := LMc18.out; omega); intro v461 w23 ho hb hg hat; rw [← Ny460.out] at ho; have n0_ := Aside0.mk (Kd.R_over' (zR HO_15.out) (Kd.R_typed (zR HO_4.out)) (by decide) hg); have n1_ := Aside0.mk (hb); have n2_ := Aside0.mk (ho); clear HO_15; clear HB; clear HO_4; have HO_15 := n0_; have HB := n1_; have HO462 := n2_; clear n0_ n1_ n2_; clear ho hb hg hat))
       go_roundg k1
       case measure => have := HK1.out; omega
       case rel => exact ⟨(y460), (wrap64 (x17_1 + 1)), zF, H', ⟨by have := HK1.out; omega⟩, ⟨zR HO462.out⟩, ⟨zR HO_15.out⟩, ⟨zB⟩⟩
      rw [if_neg c18] at H
      exact absurd H (by simp)
     replace c12 := Bool.eq_false_iff.mpr c12
     subst c12
     replace H := (if_neg zFf).symm.trans H
     simp only [Option.some.injEq, Prod.mk.injEq] at H
     obtain ⟨rfl, rfl⟩ := H
     have p452 : 0 ≤ (x17_1 : Int) := zA
     have q452 : x17_1 < (t448.length : Int) := zA
     obtain ⟨ad452, e452, hx452_0⟩ := Kd.at_string (Kd.R_reads' HO_15.out).2.2 x17_1 p452 q452
     cases e452
     replace p452 := eq_true p452
     replace q452 := eq_true q452
     go_wp2_with (first | ((with_reducible refine gate_callee (f := 53) rfl ?_); refine zD (some 23) Tryd.func53 #[.string (rdOf ByteArray.empty t448 x17_1), .string (⟨#[44]⟩ : ByteArray)] ?_; (with_reducible refine (strings_Cut.calls (rdOf ByteArray.empty t448 x17_1) (⟨#[44]⟩ : ByteArray) t453 t454 t455 _ A8.out (HT.out.below ?sideT)).mono ?_); (case sideT => exact (zl100_0 HB.out)); rintro e w24 ⟨rfl, hb⟩; refine ⟨_, rfl, ?_⟩; replace HO_4 := zW HO_4.out hb; replace HO_15 := zW HO_15.out hb; replace HB := zX hb; (try clear hb)) | ((with_reducible refine gate_callee (f := 23) rfl ?_); refine zD (some 29) Tryd.func23 #[.string t453] ?_; (with_reducible refine (impl_ParseInt.calls t453 t456 true _ A9.out (HT.out.to2.below ?sideT)).mono ?_); (case sideT => exact (zl100_0 HB.out)); rintro e w25 ⟨rfl, hb⟩; refine ⟨_, rfl, ?_⟩; replace HO_4 := zW HO_4.out hb; replace HO_15 := zW HO_15.out hb; replace HB := zX hb; (try clear hb)) | ((with_reducible refine gate_callee (f := 23) rfl ?_); refine zD (some 34) Tryd.func23 #[.string t454] ?_; (with_reducible refine (impl_ParseInt.calls t454 t458 false _ A10.out (HT.out.to2.below ?sideT)).mono ?_); (case sideT => exact (zl100_0 HB.out)); rintro e w26 ⟨rfl, hb⟩; refine ⟨_, rfl, ?_⟩; replace HO_4 := zW HO_4.out hb; replace HO_15 := zW HO_15.out hb; replace HB := zX hb; (try clear hb)))
     go_ret2
     exact ⟨_, zE, by first | exact Kd.R_nil _ _ _ _ _ | exact Kd.N_nil _ _ _ _ _ | exact Kd.V_nil _ _ _ _ _ | exact Kd.Q_nil _ _ _ _ _ | exact Kd.S_nil _ _ _ _ _, zB⟩
    replace c11 := Bool.eq_false_iff.mpr c11
    subst c11
    replace H := (if_neg zFf).symm.trans H
    simp only [Option.some.injEq, Prod.mk.injEq] at H
    obtain ⟨rfl, rfl⟩ := H
    have p452 : 0 ≤ (x17_1 : Int) := zA
    have q452 : x17_1 < (t448.length : Int) := zA
    obtain ⟨ad452, e452, hx452_0⟩ := Kd.at_string (Kd.R_reads' HO_15.out).2.2 x17_1 p452 q452
    cases e452
    replace p452 := eq_true p452
    replace q452 := eq_true q452
    go_wp2_with (first | ((with_reducible refine gate_callee (f := 53) rfl ?_); refine zD (some 23) Tryd.func53 #[.string (rdOf ByteArray.empty t448 x17_1), .string (⟨#[44]⟩ : ByteArray)] ?_; (with_reducible refine (strings_Cut.calls (rdOf ByteArray.empty t448 x17_1) (⟨#[44]⟩ : ByteArray) t453 t454 t455 _ A8.out (HT.out.below ?sideT)).mono ?_); (case sideT => exact (zl100_0 HB.out)); rintro e w27 ⟨rfl, hb⟩; refine ⟨_, rfl, ?_⟩; replace HO_4 := zW HO_4.out hb; replace HO_15 := zW HO_15.out hb; replace HB := zX hb; (try clear hb)) | ((with_reducible refine gate_callee (f := 23) rfl ?_); refine zD (some 29) Tryd.func23 #[.string t453] ?_; (with_reducible refine (impl_ParseInt.calls t453 t456 false _ A9.out (HT.out.to2.below ?sideT)).mono ?_); (case sideT => exact (zl100_0 HB.out)); rintro e w28 ⟨rfl, hb⟩; refine ⟨_, rfl, ?_⟩; replace HO_4 := zW HO_4.out hb; replace HO_15 := zW HO_15.out hb; replace HB := zX hb; (try clear hb)) | ((with_reducible refine gate_callee (f := 23) rfl ?_); refine zD (some 34) Tryd.func23 #[.string t454] ?_; (with_reducible refine (impl_ParseInt.calls t454 t458 t459 _ A10.out (HT.out.to2.below ?sideT)).mono ?_); (case sideT => exact (zl100_0 HB.out)); rintro e w29 ⟨rfl, hb⟩; refine ⟨_, rfl, ?_⟩; replace HO_4 := zW HO_4.out hb; replace HO_15 := zW HO_15.out hb; replace HB := zX hb; (try clear hb)))
    go_ret2
    exact ⟨_, zE, by first | exact Kd.R_nil _ _ _ _ _ | exact Kd.N_nil _ _ _ _ _ | exact Kd.V_nil _ _ _ _ _ | exact Kd.Q_nil _ _ _ _ _ | exact Kd.S_nil _ _ _ _ _, zB⟩
   rw [if_neg c7] at H
   exact absurd H (by simp)
  rw [if_neg c6] at H
  exact absurd H (by simp)
 rw [if_neg c5] at H
 have c5b0 := decide_eq_false c5
 clear c5
 obtain ⟨t451, A30, H⟩ := zO H
 by_cases c31 : t451 = true
 ·subst c31
  replace H := (if_pos rfl).symm.trans H
  simp only [Option.some.injEq, Prod.mk.injEq] at H
  obtain ⟨rfl, rfl⟩ := H
  obtain ⟨Ao32, co32, eo32⟩ := Kd.R_slice HO_4.out
  subst eo32
  go_wp2_with (first | ((with_reducible refine gate_callee (f := 42) rfl ?_); refine zD (some 56) Tryd.func42 #[.slice Ao32 x4_1.length co32] ?_; (with_reducible refine (impl_ArePoints.calls k1 _ _ x4_1 true _ ?side1 ?side2 A30.out).mono ?_); (case side1 => repeat (first | exact (Kd.R_reads' HO_4.out).2.2 | (with_reducible refine Kd.C_alloc ?_ _) | (with_reducible refine Kd.C_drewN ?_ _) | (with_reducible refine Kd.C_drew ?_))); (case side2 => exact (Kd.R_reads' HO_4.out).2.1); rintro e w33 ⟨rfl, hb⟩; refine ⟨_, rfl, ?_⟩; replace HO_4 := zW HO_4.out hb; replace HO_15 := zW HO_15.out hb; replace HB := zX hb; (try clear hb)))
  go_ret2
  exact ⟨_, zE, zR HO_4.out, zB⟩
 replace c31 := Bool.eq_false_iff.mpr c31
 subst c31
 replace H := (if_neg zFf).symm.trans H
 simp only [Option.some.injEq, Prod.mk.injEq] at H
 obtain ⟨rfl, rfl⟩ := H
 obtain ⟨Ao34, co34, eo34⟩ := Kd.R_slice HO_4.out
 subst eo34
 go_wp2_with (first | ((with_reducible refine gate_callee (f := 42) rfl ?_); refine zD (some 56) Tryd.func42 #[.slice Ao34 x4_1.length co34] ?_; (with_reducible refine (impl_ArePoints.calls k1 _ _ x4_1 false _ ?side1 ?side2 A30.out).mono ?_); (case side1 => repeat (first | exact (Kd.R_reads' HO_4.out).2.2 | (with_reducible refine Kd.C_alloc ?_ _) | (with_reducible refine Kd.C_drewN ?_ _) | (with_reducible refine Kd.C_drew ?_))); (case side2 => exact (Kd.R_reads' HO_4.out).2.1); rintro e w35 ⟨rfl, hb⟩; refine ⟨_, rfl, ?_⟩; replace HO_4 := zW HO_4.out hb; replace HO_15 := zW HO_15.out hb; replace HB := zX hb; (try clear hb)))
 go_ret2
 exact ⟨_, zE, by first | exact Kd.R_nil _ _ _ _ _ | exact Kd.N_nil _ _ _ _ _ | exact Kd.V_nil _ _ _ _ _ | exact Kd.Q_nil _ _ _ _ _ | exact Kd.S_nil _ _ _ _ _, zB⟩
/-! ### laws_markPointS: function 34 -/
def laws_markPointS.l0 : Nat → List (S55) → Int → Int → Option (Int × (List (S55)))
 | 0, _, _, _ => none
 | k + 1, x0, x1, x5 => if x5 < (x0.length : Int) then (if 0 ≤ x5 then ((some (x0.set (x5 : Int).toNat (⟨x1, (rd_T55 x0 x5).f1⟩ : S55) : List (S55))).bind fun y463 => (laws_markPointS.l0 k (y463.set (x5 : Int).toNat (⟨(rd_T55 y463 x5).f0, wrap64 (x1 + 1)⟩ : S55)) (wrap64 ((wrap64 (x1 + 1)) + 1)) (wrap64 (x5 + 1)))) else (none)) else (some (x1, x0))
def laws_markPointS.f (k : Nat) (l0 : List (S55)) (a1 : Int) : Option (Int × (List (S55))) := laws_markPointS.l0 k l0 a1 0
theorem zl101_0 {p q : Prop} (g : p) (h : p → q := by intro zg_; repeat (first | (with_reducible first | exact zg_ | apply Kept.alloc | apply Kept.drewN | apply Kept.drew) | exact zg_)) : q := h g
set_option maxHeartbeats 8000000 in
set_option maxRecDepth 100000 in
theorem laws_markPointS.calls (k : Nat) (P0_ : Nat → Prop) (u9000_ : Value) (l0 : List (S55)) (a1 : Int) (r1 : Int) (r2 : List (S55)) (w0 w : World) (hB : Below w0.heap.size w0 w) (ho0 : Kd.R k55 55 w w0.heap.size P0_ u9000_ l0) (h : laws_markPointS.f k l0 a1 = some (r1, r2)) :
  Calls Tryd.prog 34 #[u9000_, .int .i64 a1] w fun e w' => e = .returned (.int .i64 r1) ∧ Kd.R k55 55 w' w0.heap.size (fun k_ => (P0_ k_ ∨ w.heap.size ≤ k_)) u9000_ r2 ∧ Below w0.heap.size w0 w' ∧ Kept w w' (fun k_ => P0_ k_) := by
 have HO0 := Aside0.mk (show Kd.R k55 55 w w0.heap.size (fun k_ => (P0_ k_ ∨ w.heap.size ≤ k_)) u9000_ l0 from Kd.R_mono ho0 (fun k_ hk => (.inl hk)))
 have HK := Aside0.mk (Kept.refl w (fun k_ => P0_ k_))
 have HW0 := Aside0.mk hB.size
 have HB := Aside0.mk hB
 clear hB
 have H : (laws_markPointS.l0 k l0 a1 0) = some (r1, r2) := h
 clear h
 have H' := Aside0.mk H; clear H
 go_enter Tryd.func34, Tryd.ntmps34
 go_wp2
 go_loopg [1, 5] k (fun kq v1 v5 w' => ∃ (x0_1 : List (S55)) (x1_1 : Int) (x5_1 : Int), v1 = .int .i64 x1_1 ∧ v5 = .int .i64 x5_1 ∧ Aside0 (laws_markPointS.l0 kq x0_1 x1_1 x5_1 = some (r1, r2)) ∧ Aside0 (kq ≤ k) ∧ Aside0 (Kd.R k55 55 w' w0.heap.size (fun k_ => (P0_ k_ ∨ w.heap.size ≤ k_)) u9000_ x0_1) ∧ Aside0 (Kept w w' (fun k_ => P0_ k_)) ∧ Aside0 (Below w0.heap.size w0 w'))
 case atStart => exact ⟨(l0), (a1), (0), zF, zF, H', ⟨Nat.le_refl _⟩, ⟨zR HO0.out⟩, ⟨(zl101_0 HK.out)⟩, ⟨zB⟩⟩
 case round =>
 clear H'
 obtain ⟨x0_1, x1_1, x5_1, rfl, rfl, HA, HK1, HO_0, HK, HB⟩ := hrel
 cases gk with
 | zero => exact absurd HA.out (by simp [laws_markPointS.l0])
 | succ k1 =>
 have H := HA.out
 clear HA
 simp only [laws_markPointS.l0] at H
 by_cases c3 : x5_1 < (x0_1.length : Int)
 ·rw [if_pos c3] at H
  have c3b0 := decide_eq_true c3
  clear c3
  by_cases c4 : 0 ≤ x5_1
  ·rw [if_pos c4] at H
   have c4b0 := decide_eq_true c4
   clear c4
   obtain ⟨y463, hy463⟩ : ∃ y_ : List (S55), y_ = (x0_1.set (x5_1 : Int).toNat (⟨x1_1, (rd_T55 x0_1 x5_1).f1⟩ : S55)) := ⟨_, rfl⟩
   replace H : (laws_markPointS.l0 k1 (y463.set (x5_1 : Int).toNat (⟨(rd_T55 y463 x5_1).f0, wrap64 (x1_1 + 1)⟩ : S55)) (wrap64 ((wrap64 (x1_1 + 1)) + 1)) (wrap64 (x5_1 + 1))) = some (r1, r2) := by first | (rw [hy463]; with_reducible exact H) | (have H2_ := (Option.bind_some _ _).symm.trans H; rw [hy463]; with_reducible exact H2_) | (have H2_ := (Option.bind_some _ _).symm.trans H; with_reducible exact H2_) | with_reducible exact H | (rw [hy463]; exact H) | exact H
   have Ny463 := Aside0.mk hy463
   clear hy463
   obtain ⟨y464, hy464⟩ : ∃ y_ : List (S55), y_ = (y463.set (x5_1 : Int).toNat (⟨(rd_T55 y463 x5_1).f0, wrap64 (x1_1 + 1)⟩ : S55)) := ⟨_, rfl⟩
   replace H : (laws_markPointS.l0 k1 y464 (wrap64 ((wrap64 (x1_1 + 1)) + 1)) (wrap64 (x5_1 + 1))) = some (r1, r2) := by first | (rw [hy464]; with_reducible exact H) | (have H2_ := (Option.bind_some _ _).symm.trans H; rw [hy464]; with_reducible exact H2_) | (have H2_ := (Option.bind_some _ _).symm.trans H; with_reducible exact H2_) | with_reducible exact H | (rw [hy464]; exact H) | exact H
   have Ny464 := Aside0.mk hy464
   clear hy464
   have H' := Aside0.mk H; clear H
   obtain ⟨Ao7, co7, eo7⟩ := Kd.R_slice HO_0.out
   subst eo7
   have p5 : 0 ≤ (x5_1 : Int) := zA
   have q5 : (x5_1 : Int) < ((x0_1.length : Int) : Int) := zA
   obtain ⟨go5, co5, eo5, gb5, gl5, cl5, HG5⟩ := Kd.R_form HO_0.out (by omega)
   (first | cases eo5 | (injection eo5 with ea_ en_ ec_; (first | subst ea_ | (injection ea_ with ea_; subst ea_)); subst ec_; clear en_))
   have GB5 := Aside0.mk gb5
   have GG5 := Aside0.mk HG5
   clear gb5 gl5 HG5
   have HMgo5 := Aside0.mk (show (P0_ go5 ∨ w.heap.size ≤ go5) from (HO_0.out.1 _ rfl))
   obtain ⟨ce5, hcl5, hM5, hcc5, hfr5⟩ := Kd.R_elem HO_0.out z55 (x5_1 : Int) p5 q5
   obtain rfl := k55_openM hM5
   have hx5_0 : wr.cell? ⟨go5, (x5_1 : Int).toNat * 2, none⟩ = some (.int .i64 ((rd_T55 x0_1 x5_1).f0)) := hcc5 0 _ rfl
   have hx5_1 : wr.cell? ⟨go5, (x5_1 : Int).toNat * 2 + 1, none⟩ = some (.int .i64 ((rd_T55 x0_1 x5_1).f1)) := hcc5 1 _ rfl
   have hf5_0 : wr.frozen? ⟨go5, (x5_1 : Int).toNat * 2, none⟩ = false := hfr5 0
   have hf5_1 : wr.frozen? ⟨go5, (x5_1 : Int).toNat * 2 + 1, none⟩ = false := hfr5 1
   clear hcl5 hcc5 hfr5 hM5
   replace p5 := eq_true p5
   replace q5 := eq_true q5
   have HX8 := Aside0.mk (show Kd.R k55 55 wr w0.heap.size (fun k_ => (P0_ k_ ∨ w.heap.size ≤ k_)) (.slice (some ⟨go5, 0, none⟩) x0_1.length co7) x0_1 from (zR HO_0.out))
   obtain ⟨ce8, hcl8, hM8, hcc8, hfr8⟩ := Kd.R_elem HX8.out z55 (x5_1 : Int) (zA) (by have h_ : (x5_1 : Int) < ((x0_1.length : Int) : Int) := zA; first | exact h_ | (have e_ := (Kd.R_reads' HO_0.out).1; omega) | simpa using h_)
   obtain rfl := k55_openM hM8
   have HP8 := Kd.R_seg HX8.out (x5_1 : Int) (zA) (by have h_ : (x5_1 : Int) < ((x0_1.length : Int) : Int) := zA; first | exact h_ | (have e_ := (Kd.R_reads' HO_0.out).1; omega) | simpa using h_) (seg := [.int .i64 x1_1]) (j := 0) hcl8 hcc8 (show 1 ≤ 2 from by decide) (x' := (⟨x1_1, (rd_T55 x0_1 x5_1).f1⟩ : S55)) (k55_mkM _ _ _ (⟨x1_1, (rd_T55 x0_1 x5_1).f1⟩ : S55) ) (fun _ hk => hk)
   have hx8_0 := hcc8 0 _ rfl
   (try simp only [show (k55).sz = 2 from rfl, Nat.mul_one, Nat.add_zero] at hx8_0)
   have hf8_0 := hfr8 0
   (try simp only [show (k55).sz = 2 from rfl, Nat.mul_one, Nat.add_zero] at hf8_0)
   clear hcl8 hcc8 hfr8 hM8
   go_wp2_with (first | ((with_reducible refine gate_store (t := 3) (p := 16) rfl ?_); refine store_event (t := 3) (p := 16) (v := ?vo_w9) (w1 := (wr.setCell ⟨go5, (x5_1 : Int).toNat * 2, none⟩ (.int .i64 x1_1))) ?hg ?ho ?hn ?hr ?_; (case ho => rfl); (case hg => rfl); (case hn => rfl); (case hr => first | (go_simp; done) | (go_simp; rfl)); intro w9 hw; have hg : wr.grownBy w9 (some go5) := (by rw [hw]; exact HP8.2); have hp_ : Kd.R k55 55 w9 w0.heap.size (fun k_ => (P0_ k_ ∨ w.heap.size ≤ k_)) (.slice (some ⟨go5, 0, none⟩) x0_1.length co7) y463 := (by rw [hw, Ny463.out]; exact HP8.1); clear HP8; replace HK := Aside0.mk (Kept.of_grown (S := (fun k_ => P0_ k_)) hg (zl101_0 HK.out) (fun k_ e_ => (HO_0.out.1 k_ e_))); replace HO_0 := Aside0.mk (hp_); replace HB := Aside0.mk ((by rw [hw]; exact below_set (HB.out) GB5.out : Below w0.heap.size w0 w9)); clear hg hw hp_; have p6 : 0 ≤ (x5_1 : Int) := zA; have q6 : (x5_1 : Int) < ((x0_1.length : Int) : Int) := zA; obtain ⟨ce6, hcl6, hM6, hcc6, hfr6⟩ := Kd.R_elem HO_0.out z55 (x5_1 : Int) p6 q6; obtain rfl := k55_openM hM6; have hx6_0 : w9.cell? ⟨go5, (x5_1 : Int).toNat * 2, none⟩ = some (.int .i64 ((rd_T55 y463 x5_1).f0)) := hcc6 0 _ rfl; have hx6_1 : w9.cell? ⟨go5, (x5_1 : Int).toNat * 2 + 1, none⟩ = some (.int .i64 ((rd_T55 y463 x5_1).f1)) := hcc6 1 _ rfl; have hf6_0 : w9.frozen? ⟨go5, (x5_1 : Int).toNat * 2, none⟩ = false := hfr6 0; have hf6_1 : w9.frozen? ⟨go5, (x5_1 : Int).toNat * 2 + 1, none⟩ = false := hfr6 1; clear hcl6 hcc6 hfr6 hM6; replace p6 := eq_true p6; replace q6 := eq_true q6; have HX10 := Aside0.mk (show Kd.R k55 55 w9 w0.heap.size (fun k_ => (P0_ k_ ∨ w.heap.size ≤ k_)) (.slice (some ⟨go5, 0, none⟩) x0_1.length co7) y463 from (zR HO_0.out)); obtain ⟨ce10, hcl10, hM10, hcc10, hfr10⟩ := Kd.R_elem HX10.out z55 (x5_1 : Int) (zA) (by have h_ : (x5_1 : Int) < ((x0_1.length : Int) : Int) := zA; first | exact h_ | (have e_ := (Kd.R_reads' HO_0.out).1; omega) | simpa using h_); obtain rfl := k55_openM hM10; have HP10 := Kd.R_seg HX10.out (x5_1 : Int) (zA) (by have h_ : (x5_1 : Int) < ((x0_1.length : Int) : Int) := zA; first | exact h_ | (have e_ := (Kd.R_reads' HO_0.out).1; omega) | simpa using h_) (seg := [.int .i64 (wrap64 (x1_1 + 1))]) (j := 1) hcl10 hcc10 (show 2 ≤ 2 from by decide) (x' := (⟨(rd_T55 y463 x5_1).f0, wrap64 (x1_1 + 1)⟩ : S55)) (k55_mkM _ _ _ (⟨(rd_T55 y463 x5_1).f0, wrap64 (x1_1 + 1)⟩ : S55) ) (fun _ hk => hk); have hx10_1 := hcc10 1 _ rfl; (try simp only [show (k55).sz = 2 from rfl, Nat.mul_one, Nat.add_zero] at hx10_1); have hf10_1 := hfr10 1; (try simp only [show (k55).sz = 2 from rfl, Nat.mul_one, Nat.add_zero] at hf10_1); clear hcl10 hcc10 hfr10 hM10) | ((with_reducible refine gate_store (t := 3) (p := 23) rfl ?_); refine store_event (t := 3) (p := 23) (v := ?vo_w11) (w1 := (w9.setCell ⟨go5, (x5_1 : Int).toNat * 2 + 1, none⟩ (.int .i64 (wrap64 (x1_1 + 1))))) ?hg ?ho ?hn ?hr ?_; (case ho => rfl); (case hg => rfl); (case hn => rfl); (case hr => first | (go_simp; done) | (go_simp; rfl)); intro w11 hw; have hg : w9.grownBy w11 (some go5) := (by rw [hw]; exact HP10.2); have hp_ : Kd.R k55 55 w11 w0.heap.size (fun k_ => (P0_ k_ ∨ w.heap.size ≤ k_)) (.slice (some ⟨go5, 0, none⟩) x0_1.length co7) y464 := (by rw [hw, Ny464.out]; exact HP10.1); clear HP10; replace HK := Aside0.mk (Kept.of_grown (S := (fun k_ => P0_ k_)) hg (zl101_0 HK.out) (fun k_ e_ => (HO_0.out.1 k_ e_))); replace HO_0 := Aside0.mk (hp_); replace HB := Aside0.mk ((by rw [hw]; exact below_set (HB.out) GB5.out : Below w0.heap.size w0 w11)); clear hg hw hp_))
   go_roundg k1
   case measure => have := HK1.out; omega
   case rel => exact ⟨(y464), (wrap64 ((wrap64 (x1_1 + 1)) + 1)), (wrap64 (x5_1 + 1)), zF, zF, H', ⟨by have := HK1.out; omega⟩, ⟨zR HO_0.out⟩, ⟨(zl101_0 HK.out)⟩, ⟨zB⟩⟩
  rw [if_neg c4] at H
  exact absurd H (by simp)
 rw [if_neg c3] at H
 have c3b0 := decide_eq_false c3
 clear c3
 simp only [Option.some.injEq, Prod.mk.injEq] at H
 obtain ⟨rfl, rfl⟩ := H
 obtain ⟨Ao12, co12, eo12⟩ := Kd.R_slice HO_0.out
 subst eo12
 go_wp2
 go_ret
 exact ⟨zE, zR HO_0.out, zB, (zl101_0 HK.out)⟩
/-! ### laws_heldPointS: function 35 -/
def laws_heldPointS.l0 : Nat → List (S55) → Int → Int → Option (Int)
 | 0, _, _, _ => none
 | k + 1, x0, x1, x5 => if x5 < (x0.length : Int) then (if 0 ≤ x5 then (if ((rd_T55 x0 x5).f0) = x1 then (if ((rd_T55 x0 x5).f1) = (wrap64 (x1 + 1)) then (laws_heldPointS.l0 k x0 (wrap64 ((wrap64 (x1 + 1)) + 1)) (wrap64 (x5 + 1))) else (some (-1))) else (some (-1))) else (none)) else (some x1)
def laws_heldPointS.f (k : Nat) (l0 : List (S55)) (a1 : Int) : Option (Int) := laws_heldPointS.l0 k l0 a1 0
set_option maxHeartbeats 8000000 in
set_option maxRecDepth 100000 in
theorem laws_heldPointS.calls (k : Nat) (A0 : Option Addr) (c0 : Nat) (l0 : List (S55)) (a1 : Int) (r : Int) (w : World) (hr0 : Kd.C k55 w A0 l0.length l0) (hc0 : l0.length ≤ c0) (h : laws_heldPointS.f k l0 a1 = some r) :
  Calls Tryd.prog 35 #[.slice A0 l0.length c0, .int .i64 a1] w fun e w' => e = .returned (.int .i64 r) ∧ Drawn0 w w' := by
 have HR0 := Aside0.mk hr0
 have HC0 := Aside0.mk hc0
 clear hr0 hc0
 have H : (laws_heldPointS.l0 k l0 a1 0) = some r := h
 clear h
 have H' := Aside0.mk H; clear H
 go_enter Tryd.func35, Tryd.ntmps35
 go_wp2
 go_loopg [1, 5] k (fun kq v1 v5 w' => ∃ (x1_1 : Int) (x5_1 : Int), v1 = .int .i64 x1_1 ∧ v5 = .int .i64 x5_1 ∧ Aside0 (laws_heldPointS.l0 kq l0 x1_1 x5_1 = some r) ∧ Aside0 (kq ≤ k) ∧ Drawn0 w w')
 case atStart => exact ⟨(a1), (0), zF, zF, H', ⟨Nat.le_refl _⟩, by repeat (first | exact Drawn0.refl _ | apply Drawn0.step)⟩
 case round =>
 clear H'
 obtain ⟨x1_1, x5_1, rfl, rfl, HA, HK1, ⟨m1, rfl⟩⟩ := hrel
 cases gk with
 | zero => exact absurd HA.out (by simp [laws_heldPointS.l0])
 | succ k1 =>
 have H := HA.out
 clear HA
 simp only [laws_heldPointS.l0] at H
 by_cases c3 : x5_1 < (l0.length : Int)
 ·rw [if_pos c3] at H
  have c3b0 := decide_eq_true c3
  clear c3
  by_cases c4 : 0 ≤ x5_1
  ·rw [if_pos c4] at H
   have c4b0 := decide_eq_true c4
   clear c4
   by_cases c5 : ((rd_T55 l0 x5_1).f0) = x1_1
   ·rw [if_pos c5] at H
    have c5b0 := beq_iff_eq.mpr c5
    have c5b1 := bne_eq_false_iff_eq.mpr c5
    clear c5
    by_cases c6 : ((rd_T55 l0 x5_1).f1) = (wrap64 (x1_1 + 1))
    ·rw [if_pos c6] at H
     have c6b0 := beq_iff_eq.mpr c6
     have c6b1 := bne_eq_false_iff_eq.mpr c6
     clear c6
     have H' := Aside0.mk H; clear H
     have p465 : 0 ≤ (x5_1 : Int) := zA
     have q465 : x5_1 < (l0.length : Int) := zA
     obtain ⟨ad465, e465, hx465_0, hx465_1⟩ := at_T55 HR0.out x5_1 p465 q465
     cases e465
     replace p465 := eq_true p465
     replace q465 := eq_true q465
     have p466 : 0 ≤ (x5_1 : Int) := zA
     have q466 : x5_1 < (l0.length : Int) := zA
     obtain ⟨ad466, e466, hx466_0, hx466_1⟩ := at_T55 HR0.out x5_1 p466 q466
     obtain rfl : ad465 = ad466 := (by injection e466)
     replace p466 := eq_true p466
     replace q466 := eq_true q466
     go_wp2
     go_roundg k1
     case measure => have := HK1.out; omega
     case rel => exact ⟨(wrap64 ((wrap64 (x1_1 + 1)) + 1)), (wrap64 (x5_1 + 1)), zF, zF, H', ⟨by have := HK1.out; omega⟩, by repeat (first | exact Drawn0.refl _ | apply Drawn0.step)⟩
    rw [if_neg c6] at H
    have c6b0 := beq_eq_false_iff_ne.mpr c6
    have c6b1 := bne_iff_ne.mpr c6
    obtain rfl := Option.some.inj H
    have p465 : 0 ≤ (x5_1 : Int) := zA
    have q465 : x5_1 < (l0.length : Int) := zA
    obtain ⟨ad465, e465, hx465_0, hx465_1⟩ := at_T55 HR0.out x5_1 p465 q465
    cases e465
    replace p465 := eq_true p465
    replace q465 := eq_true q465
    have p466 : 0 ≤ (x5_1 : Int) := zA
    have q466 : x5_1 < (l0.length : Int) := zA
    obtain ⟨ad466, e466, hx466_0, hx466_1⟩ := at_T55 HR0.out x5_1 p466 q466
    obtain rfl : ad465 = ad466 := (by injection e466)
    replace p466 := eq_true p466
    replace q466 := eq_true q466
    go_wp2
    go_ret
    exact ⟨by first | rfl | (simp; done) | (simp [*]; done), by repeat (first | exact Drawn0.refl _ | apply Drawn0.step)⟩
   rw [if_neg c5] at H
   have c5b0 := beq_eq_false_iff_ne.mpr c5
   have c5b1 := bne_iff_ne.mpr c5
   obtain rfl := Option.some.inj H
   have p465 : 0 ≤ (x5_1 : Int) := zA
   have q465 : x5_1 < (l0.length : Int) := zA
   obtain ⟨ad465, e465, hx465_0, hx465_1⟩ := at_T55 HR0.out x5_1 p465 q465
   cases e465
   replace p465 := eq_true p465
   replace q465 := eq_true q465
   go_wp2
   go_ret
   exact ⟨by first | rfl | (simp; done) | (simp [*]; done), by repeat (first | exact Drawn0.refl _ | apply Drawn0.step)⟩
  rw [if_neg c4] at H
  exact absurd H (by simp)
 rw [if_neg c3] at H
 have c3b0 := decide_eq_false c3
 clear c3
 obtain rfl := Option.some.inj H
 go_wp2
 go_ret
 exact ⟨by first | rfl | (simp; done) | (simp [*]; done), by repeat (first | exact Drawn0.refl _ | apply Drawn0.step)⟩
/-! ### laws_eqPoint: function 44 -/
def laws_eqPoint.f (a0_0 : Int) (a0_1 : Int) (a1_0 : Int) (a1_1 : Int) : Option (Bool) := if a0_0 = a1_0 then (if a0_1 = a1_1 then (some true) else (some false)) else (some false)
set_option maxHeartbeats 8000000 in
set_option maxRecDepth 100000 in
theorem laws_eqPoint.calls (a0_0 : Int) (a0_1 : Int) (a1_0 : Int) (a1_1 : Int) (r : Bool) (w : World) (h : laws_eqPoint.f a0_0 a0_1 a1_0 a1_1 = some r) :
  Calls Tryd.prog 44 #[.agg #[.int .i64 a0_0, .int .i64 a0_1], .agg #[.int .i64 a1_0, .int .i64 a1_1]] w fun e w' => e = .returned (.bool r) ∧ Below w.heap.size w w' := by
 have hu55 := Tryd.underlying55
 have HB := Aside0.mk (Below.refl w.heap.size w)
 have H : (if a0_0 = a1_0 then (if a0_1 = a1_1 then (some true) else (some false)) else (some false)) = some r := h
 clear h
 by_cases c3 : a0_0 = a1_0
 ·rw [if_pos c3] at H
  have c3b0 := beq_iff_eq.mpr c3
  have c3b1 := bne_eq_false_iff_eq.mpr c3
  clear c3
  by_cases c4 : a0_1 = a1_1
  ·rw [if_pos c4] at H
   have c4b0 := beq_iff_eq.mpr c4
   have c4b1 := bne_eq_false_iff_eq.mpr c4
   clear c4
   obtain rfl := Option.some.inj H
   go_enter Tryd.func44, Tryd.ntmps44
   go_wp2_with (first | ((with_reducible refine gate_dst (N := 2) rfl ?_); refine zBx (N := 2) #[.int .i64 a0_0, .int .i64 a0_1] 55 ?_; intro gb236 hg w5 hbox hb; have BK236 := Aside0.mk (hbox); have GW236 := zS hg; have GE236 := zS hg; replace HB := zX hb; clear hb hbox hg) | ((with_reducible refine gate_dst (N := 3) rfl ?_); refine zBx (N := 3) #[.int .i64 a1_0, .int .i64 a1_1] 55 ?_; intro gb237 hg w6 hbox hb; have BK237 := Aside0.mk (hbox); have GW237 := zSg hg (zG GE236.out); have GE237 := zSg hg (zG GE236.out); have NB236_237 := zL hg BK236.out; have NB237_236 := zLg hg BK236.out; replace BK236 := zV BK236.out hb; replace HB := zX1 GE236.out hb; clear hb hbox hg; have hnb7 := NB236_237.out; have hnc7 := NB237_236.out; obtain ⟨hcz8_0, hcz8_1, hfz8_0, hfz8_1⟩ := zq2 BK236.out; obtain ⟨hcz9_0, hcz9_1, hfz9_0, hfz9_1⟩ := zq2 BK237.out))
   go_ret
   exact ⟨zE, zG2 GE236.out GE237.out⟩
  rw [if_neg c4] at H
  have c4b0 := beq_eq_false_iff_ne.mpr c4
  have c4b1 := bne_iff_ne.mpr c4
  obtain rfl := Option.some.inj H
  go_enter Tryd.func44, Tryd.ntmps44
  go_wp2_with (first | ((with_reducible refine gate_dst (N := 2) rfl ?_); refine zBx (N := 2) #[.int .i64 a0_0, .int .i64 a0_1] 55 ?_; intro gb236 hg w10 hbox hb; have BK236 := Aside0.mk (hbox); have GW236 := zS hg; have GE236 := zS hg; replace HB := zX hb; clear hb hbox hg) | ((with_reducible refine gate_dst (N := 3) rfl ?_); refine zBx (N := 3) #[.int .i64 a1_0, .int .i64 a1_1] 55 ?_; intro gb237 hg w11 hbox hb; have BK237 := Aside0.mk (hbox); have GW237 := zSg hg (zG GE236.out); have GE237 := zSg hg (zG GE236.out); have NB236_237 := zL hg BK236.out; have NB237_236 := zLg hg BK236.out; replace BK236 := zV BK236.out hb; replace HB := zX1 GE236.out hb; clear hb hbox hg; have hnb12 := NB236_237.out; have hnc12 := NB237_236.out; obtain ⟨hcz13_0, hcz13_1, hfz13_0, hfz13_1⟩ := zq2 BK236.out; obtain ⟨hcz14_0, hcz14_1, hfz14_0, hfz14_1⟩ := zq2 BK237.out))
  go_ret
  exact ⟨zE, zG2 GE236.out GE237.out⟩
 rw [if_neg c3] at H
 have c3b0 := beq_eq_false_iff_ne.mpr c3
 have c3b1 := bne_iff_ne.mpr c3
 obtain rfl := Option.some.inj H
 go_enter Tryd.func44, Tryd.ntmps44
 go_wp2_with (first | ((with_reducible refine gate_dst (N := 2) rfl ?_); refine zBx (N := 2) #[.int .i64 a0_0, .int .i64 a0_1] 55 ?_; intro gb236 hg w15 hbox hb; have BK236 := Aside0.mk (hbox); have GW236 := zS hg; have GE236 := zS hg; replace HB := zX hb; clear hb hbox hg) | ((with_reducible refine gate_dst (N := 3) rfl ?_); refine zBx (N := 3) #[.int .i64 a1_0, .int .i64 a1_1] 55 ?_; intro gb237 hg w16 hbox hb; have BK237 := Aside0.mk (hbox); have GW237 := zSg hg (zG GE236.out); have GE237 := zSg hg (zG GE236.out); have NB236_237 := zL hg BK236.out; have NB237_236 := zLg hg BK236.out; replace BK236 := zV BK236.out hb; replace HB := zX1 GE236.out hb; clear hb hbox hg; have hnb17 := NB236_237.out; have hnc17 := NB237_236.out; obtain ⟨hcz18_0, hcz18_1, hfz18_0, hfz18_1⟩ := zq2 BK236.out; obtain ⟨hcz19_0, hcz19_1, hfz19_0, hfz19_1⟩ := zq2 BK237.out))
 go_ret
 exact ⟨zE, zG2 GE236.out GE237.out⟩
/-! ### laws_eqPointS: function 21 -/
def laws_eqPointS.l0 : Nat → List (S55) → List (S55) → Int → Option (Bool)
 | 0, _, _, _ => none
 | k + 1, x0, x1, x5 => if x5 < (x0.length : Int) then (if 0 ≤ x5 then (if x5 < (x1.length : Int) then ((laws_eqPoint.f ((rd_T55 x0 x5).f0) ((rd_T55 x0 x5).f1) ((rd_T55 x1 x5).f0) ((rd_T55 x1 x5).f1)).bind fun t240 => (if t240 = true then (laws_eqPointS.l0 k x0 x1 (wrap64 (x5 + 1))) else (some false))) else (none)) else (none)) else (some true)
def laws_eqPointS.f (k : Nat) (l0 : List (S55)) (l1 : List (S55)) : Option (Bool) := if (l0.length : Int) = (l1.length : Int) then (laws_eqPointS.l0 k l0 l1 0) else (some false)
def laws_eqPointS.T6 : Bool × List (List Nat × List Nat) := (true, [([], []), ([], []), ([0, 1], [0, 1]), ([2], [2]), ([], []), ([], []), ([4, 5], [4, 5]), ([6], [6]), ([3, 7], [3, 7]), ([8], [8])])
def laws_eqPointS.B6 : List Nat := [0, 0, 3, 7, 0, 0, 48, 112, 255, 511]
theorem laws_eqPointS.tab6 : rtab .any (opsOf Tryd.f21 6) = laws_eqPointS.T6 := by kernel_rfl
theorem laws_eqPointS.bits6 : waitsOk laws_eqPointS.T6.2 laws_eqPointS.B6 = true := by kernel_rfl
set_option maxHeartbeats 8000000 in
set_option maxRecDepth 100000 in
theorem laws_eqPointS.calls (k : Nat) (A0 : Option Addr) (c0 : Nat) (l0 : List (S55)) (A1 : Option Addr) (c1 : Nat) (l1 : List (S55)) (r : Bool) (w : World) (hr0 : Kd.C k55 w A0 l0.length l0) (hc0 : l0.length ≤ c0) (hr1 : Kd.C k55 w A1 l1.length l1) (hc1 : l1.length ≤ c1) (h : laws_eqPointS.f k l0 l1 = some r) :
  Calls Tryd.prog 21 #[.slice A0 l0.length c0, .slice A1 l1.length c1] w fun e w' => e = .returned (.bool r) ∧ Below w.heap.size w w' := by
 have hu55 := Tryd.underlying55
 have HR0 := Aside0.mk hr0
 have HC0 := Aside0.mk hc0
 clear hr0 hc0
 have HR1 := Aside0.mk hr1
 have HC1 := Aside0.mk hc1
 clear hr1 hc1
 have HB := Aside0.mk (Below.refl w.heap.size w)
 have H : (if (l0.length : Int) = (l1.length : Int) then (laws_eqPointS.l0 k l0 l1 0) else (some false)) = some r := h
 clear h
 by_cases c3 : (l0.length : Int) = (l1.length : Int)
 ·rw [if_pos c3] at H
  have c3b0 := beq_iff_eq.mpr c3
  have c3b1 := bne_eq_false_iff_eq.mpr c3
  have c3b2 : (l0.length == l1.length) = true := by first | simpa using c3 | (simp at c3 ⊢; omega)
  clear c3
  have H' := Aside0.mk H; clear H
  go_enter Tryd.func21, Tryd.ntmps21
  go_wp2
  go_loopg [5] k (fun kq v5 w' => ∃ (x5_1 : Int), v5 = .int .i64 x5_1 ∧ Aside0 (laws_eqPointS.l0 kq l0 l1 x5_1 = some r) ∧ Aside0 (kq ≤ k) ∧ Aside0 (Below w.heap.size w w'))
  case atStart => exact ⟨(0), zF, H', ⟨Nat.le_refl _⟩, ⟨zB⟩⟩
  case round =>
  clear H'
  try clear c3
  try clear c3b0
  try clear c3b1
  try clear c3b2
  obtain ⟨x5_1, rfl, HA, HK1, HB⟩ := hrel
  cases gk with
  | zero => exact absurd HA.out (by simp [laws_eqPointS.l0])
  | succ k1 =>
  have H := HA.out
  clear HA
  simp only [laws_eqPointS.l0] at H
  by_cases c4 : x5_1 < (l0.length : Int)
  ·rw [if_pos c4] at H
   have c4b0 := decide_eq_true c4
   clear c4
   by_cases c5 : 0 ≤ x5_1
   ·rw [if_pos c5] at H
    have c5b0 := decide_eq_true c5
    clear c5
    by_cases c6 : x5_1 < (l1.length : Int)
    ·rw [if_pos c6] at H
     have c6b0 := decide_eq_true c6
     clear c6
     obtain ⟨t240, A7, H⟩ := zO H
     by_cases c8 : t240 = true
     ·subst c8
      replace H := (if_pos rfl).symm.trans H
      have H' := Aside0.mk H; clear H
      try go_wp2
      replace HB := Aside0.mk (below_drew1 HB.out)
      have p238 : 0 ≤ (x5_1 : Int) := zA
      have q238 : x5_1 < (l0.length : Int) := zA
      obtain ⟨ad238, e238, hx238_0, hx238_1⟩ := at_T55 HR0.out x5_1 p238 q238
      have hw238_1 := hx238_1
      have hw238_0 := hx238_0
      cases e238
      replace hx238_0 := (HB.out.cell (World.block_lt_of_cell? w _ hx238_0)).trans hx238_0
      replace hx238_1 := (HB.out.cell (World.block_lt_of_cell? w _ hx238_1)).trans hx238_1
      replace p238 := eq_true p238
      replace q238 := eq_true q238
      have p239 : 0 ≤ (x5_1 : Int) := zA
      have q239 : x5_1 < (l1.length : Int) := zA
      obtain ⟨ad239, e239, hx239_0, hx239_1⟩ := at_T55 HR1.out x5_1 p239 q239
      have hw239_1 := hx239_1
      have hw239_0 := hx239_0
      cases e239
      replace hx239_0 := (HB.out.cell (World.block_lt_of_cell? w _ hx239_0)).trans hx239_0
      replace hx239_1 := (HB.out.cell (World.block_lt_of_cell? w _ hx239_1)).trans hx239_1
      replace p239 := eq_true p239
      replace q239 := eq_true q239
      refine start_ (n := 10) (S := fun w' => w'.cell? (ad238.add ((x5_1).toNat * 2)) = some (.int .i64 ((rd_T55 l0 x5_1).f0)) ∧ w'.cell? ⟨(ad238.add ((x5_1).toNat * 2)).block, (ad238.add ((x5_1).toNat * 2)).off + 1, none⟩ = some (.int .i64 ((rd_T55 l0 x5_1).f1)) ∧ w'.cell? (ad239.add ((x5_1).toNat * 2)) = some (.int .i64 ((rd_T55 l1 x5_1).f0)) ∧ w'.cell? ⟨(ad239.add ((x5_1).toNat * 2)).block, (ad239.add ((x5_1).toNat * 2)).off + 1, none⟩ = some (.int .i64 ((rd_T55 l1 x5_1).f1))) (ds := []) #[false, false, false, false, false, false, false, false, false, false] (by kernel_rfl) rfl rfl ⟨((HB.out.cell (World.block_lt_of_cell? w _ hw238_0)).trans hw238_0), ((HB.out.cell (World.block_lt_of_cell? w _ hw238_1)).trans hw238_1), ((HB.out.cell (World.block_lt_of_cell? w _ hw239_0)).trans hw239_0), ((HB.out.cell (World.block_lt_of_cell? w _ hw239_1)).trans hw239_1)⟩ (fun hHeld => ?_); refine with_tabW laws_eqPointS.tab6 laws_eqPointS.bits6 (fun HT_ HW_ => ?_)
      generalize wr.drew = w9 at HB hx238_0 hx238_1 hx239_0 hx239_1 hHeld ⊢
      refine zP 0 (some 17) rfl rfl ?_
      refine zP 1 (some 18) rfl rfl ?_
      refine zP 2 (some 19) rfl rfl ?_
      refine zP 4 (some 21) rfl rfl ?_
      refine zP 5 (some 22) rfl rfl ?_
      refine zP 6 (some 23) rfl rfl ?_
      refine zY4 3 (some 20) rfl rfl hHeld ?_
      refine zY4 7 (some 24) rfl rfl hHeld ?_
      refine zU 8 (some 25) rfl rfl (fun K hK => ?_)
      refine goes_ Tryd.func44 (by kernel_rfl) rfl #[.agg #[.int .i64 ((rd_T55 l0 x5_1).f0), .int .i64 ((rd_T55 l0 x5_1).f1)], .agg #[.int .i64 ((rd_T55 l1 x5_1).f0), .int .i64 ((rd_T55 l1 x5_1).f1)]] (by rfl) rfl rfl zM ?_
      with_reducible refine (laws_eqPoint.calls ((rd_T55 l0 x5_1).f0) ((rd_T55 l0 x5_1).f1) ((rd_T55 l1 x5_1).f0) ((rd_T55 l1 x5_1).f1) true _ A7.out).mono ?_
      rintro e w10 ⟨rfl, hb⟩
      refine ⟨_, rfl, ?_⟩
      replace HB := zX hb
      (try clear hb)
      refine hK.out _ _ ⟨((HB.out.cell (World.block_lt_of_cell? w _ hw238_0)).trans hw238_0), ((HB.out.cell (World.block_lt_of_cell? w _ hw238_1)).trans hw238_1), ((HB.out.cell (World.block_lt_of_cell? w _ hw239_0)).trans hw239_0), ((HB.out.cell (World.block_lt_of_cell? w _ hw239_1)).trans hw239_1)⟩ (fun hHeld => ?_)
      clear hK K
      refine zN ?_
      refine zP 9 (some 26) rfl rfl ?_
      refine done_ (done_of HT_.out (by kernel_rfl)) ?_
      try go_wp2
      go_roundg k1
      case measure => have := HK1.out; omega
      case rel => exact ⟨(wrap64 (x5_1 + 1)), zF, H', ⟨by have := HK1.out; omega⟩, ⟨zB⟩⟩
     replace c8 := Bool.eq_false_iff.mpr c8
     subst c8
     replace H := (if_neg zFf).symm.trans H
     obtain rfl := Option.some.inj H
     try go_wp2
     replace HB := Aside0.mk (below_drew1 HB.out)
     have p238 : 0 ≤ (x5_1 : Int) := zA
     have q238 : x5_1 < (l0.length : Int) := zA
     obtain ⟨ad238, e238, hx238_0, hx238_1⟩ := at_T55 HR0.out x5_1 p238 q238
     have hw238_1 := hx238_1
     have hw238_0 := hx238_0
     cases e238
     replace hx238_0 := (HB.out.cell (World.block_lt_of_cell? w _ hx238_0)).trans hx238_0
     replace hx238_1 := (HB.out.cell (World.block_lt_of_cell? w _ hx238_1)).trans hx238_1
     replace p238 := eq_true p238
     replace q238 := eq_true q238
     have p239 : 0 ≤ (x5_1 : Int) := zA
     have q239 : x5_1 < (l1.length : Int) := zA
     obtain ⟨ad239, e239, hx239_0, hx239_1⟩ := at_T55 HR1.out x5_1 p239 q239
     have hw239_1 := hx239_1
     have hw239_0 := hx239_0
     cases e239
     replace hx239_0 := (HB.out.cell (World.block_lt_of_cell? w _ hx239_0)).trans hx239_0
     replace hx239_1 := (HB.out.cell (World.block_lt_of_cell? w _ hx239_1)).trans hx239_1
     replace p239 := eq_true p239
     replace q239 := eq_true q239
     refine start_ (n := 10) (S := fun w' => w'.cell? (ad238.add ((x5_1).toNat * 2)) = some (.int .i64 ((rd_T55 l0 x5_1).f0)) ∧ w'.cell? ⟨(ad238.add ((x5_1).toNat * 2)).block, (ad238.add ((x5_1).toNat * 2)).off + 1, none⟩ = some (.int .i64 ((rd_T55 l0 x5_1).f1)) ∧ w'.cell? (ad239.add ((x5_1).toNat * 2)) = some (.int .i64 ((rd_T55 l1 x5_1).f0)) ∧ w'.cell? ⟨(ad239.add ((x5_1).toNat * 2)).block, (ad239.add ((x5_1).toNat * 2)).off + 1, none⟩ = some (.int .i64 ((rd_T55 l1 x5_1).f1))) (ds := []) #[false, false, false, false, false, false, false, false, false, false] (by kernel_rfl) rfl rfl ⟨((HB.out.cell (World.block_lt_of_cell? w _ hw238_0)).trans hw238_0), ((HB.out.cell (World.block_lt_of_cell? w _ hw238_1)).trans hw238_1), ((HB.out.cell (World.block_lt_of_cell? w _ hw239_0)).trans hw239_0), ((HB.out.cell (World.block_lt_of_cell? w _ hw239_1)).trans hw239_1)⟩ (fun hHeld => ?_); refine with_tabW laws_eqPointS.tab6 laws_eqPointS.bits6 (fun HT_ HW_ => ?_)
     generalize wr.drew = w11 at HB hx238_0 hx238_1 hx239_0 hx239_1 hHeld ⊢
     refine zP 0 (some 17) rfl rfl ?_
     refine zP 1 (some 18) rfl rfl ?_
     refine zP 2 (some 19) rfl rfl ?_
     refine zP 4 (some 21) rfl rfl ?_
     refine zP 5 (some 22) rfl rfl ?_
     refine zP 6 (some 23) rfl rfl ?_
     refine zY4 3 (some 20) rfl rfl hHeld ?_
     refine zY4 7 (some 24) rfl rfl hHeld ?_
     refine zU 8 (some 25) rfl rfl (fun K hK => ?_)
     refine goes_ Tryd.func44 (by kernel_rfl) rfl #[.agg #[.int .i64 ((rd_T55 l0 x5_1).f0), .int .i64 ((rd_T55 l0 x5_1).f1)], .agg #[.int .i64 ((rd_T55 l1 x5_1).f0), .int .i64 ((rd_T55 l1 x5_1).f1)]] (by rfl) rfl rfl zM ?_
     with_reducible refine (laws_eqPoint.calls ((rd_T55 l0 x5_1).f0) ((rd_T55 l0 x5_1).f1) ((rd_T55 l1 x5_1).f0) ((rd_T55 l1 x5_1).f1) false _ A7.out).mono ?_
     rintro e w12 ⟨rfl, hb⟩
     refine ⟨_, rfl, ?_⟩
     replace HB := zX hb
     (try clear hb)
     refine hK.out _ _ ⟨((HB.out.cell (World.block_lt_of_cell? w _ hw238_0)).trans hw238_0), ((HB.out.cell (World.block_lt_of_cell? w _ hw238_1)).trans hw238_1), ((HB.out.cell (World.block_lt_of_cell? w _ hw239_0)).trans hw239_0), ((HB.out.cell (World.block_lt_of_cell? w _ hw239_1)).trans hw239_1)⟩ (fun hHeld => ?_)
     clear hK K
     refine zN ?_
     refine zP 9 (some 26) rfl rfl ?_
     refine done_ (done_of HT_.out (by kernel_rfl)) ?_
     try go_wp2
     go_ret
     exact ⟨zE, zB⟩
    rw [if_neg c6] at H
    exact absurd H (by simp)
   rw [if_neg c5] at H
   exact absurd H (by simp)
  rw [if_neg c4] at H
  have c4b0 := decide_eq_false c4
  clear c4
  obtain rfl := Option.some.inj H
  go_wp2
  go_ret
  exact ⟨zE, zB⟩
 rw [if_neg c3] at H
 have c3b0 := beq_eq_false_iff_ne.mpr c3
 have c3b1 := bne_iff_ne.mpr c3
 have c3b2 : (l0.length == l1.length) = false := by first | simpa using c3 | (simp at c3 ⊢; omega)
 obtain rfl := Option.some.inj H
 go_enter Tryd.func21, Tryd.ntmps21
 go_wp2
 go_ret
 exact ⟨zE, zB⟩
/-! ### spec_l1In: function 55 -/
def spec_l1In.f (a0 : Int) (a1 : Int) (a2 : Int) : Option (Bool) := if a0 ≥ a1 then (some (decide (a0 ≤ a2))) else (some false)
set_option maxHeartbeats 8000000 in
set_option maxRecDepth 100000 in
theorem spec_l1In.calls (a0 : Int) (a1 : Int) (a2 : Int) (r : Bool) (w : World) (h : spec_l1In.f a0 a1 a2 = some r) :
  Calls Tryd.prog 55 #[.int .i64 a0, .int .i64 a1, .int .i64 a2] w fun e w' => e = .returned (.bool r) ∧ Drawn0 w w' := by
 have H : (if a0 ≥ a1 then (some (decide (a0 ≤ a2))) else (some false)) = some r := h
 clear h
 by_cases c4 : a0 ≥ a1
 ·rw [if_pos c4] at H
  have c4b0 : decide (a1 ≤ a0) = true := decide_eq_true c4
  clear c4
  obtain rfl := Option.some.inj H
  go_enter Tryd.func55, Tryd.ntmps55
  go_wp2
  go_ret
  exact ⟨by first | rfl | (simp; done) | (simp [*]; done), by repeat (first | exact Drawn0.refl _ | apply Drawn0.step)⟩
 rw [if_neg c4] at H
 have c4b0 : decide (a1 ≤ a0) = false := decide_eq_false c4
 clear c4
 obtain rfl := Option.some.inj H
 go_enter Tryd.func55, Tryd.ntmps55
 go_wp2
 go_ret
 exact ⟨by first | rfl | (simp; done) | (simp [*]; done), by repeat (first | exact Drawn0.refl _ | apply Drawn0.step)⟩
/-! ### spec_l2Fits: function 56 -/
def spec_l2Fits.f (a0_0 : Int) (a0_1 : Int) (a1 : Int) : Option (Bool) := (spec_l1In.f a0_0 (wrap64 (-a1)) a1).bind fun t150 => (if t150 = true then ((spec_l1In.f a0_1 (wrap64 (-a1)) a1).bind fun t151 => (some t151)) else (some false))
set_option maxHeartbeats 8000000 in
set_option maxRecDepth 100000 in
theorem spec_l2Fits.calls (a0_0 : Int) (a0_1 : Int) (a1 : Int) (r : Bool) (w : World) (h : spec_l2Fits.f a0_0 a0_1 a1 = some r) :
  Calls Tryd.prog 56 #[.agg #[.int .i64 a0_0, .int .i64 a0_1], .int .i64 a1] w fun e w' => e = .returned (.bool r) ∧ Below w.heap.size w w' := by
 have hu55 := Tryd.underlying55
 have HB := Aside0.mk (Below.refl w.heap.size w)
 have H : ((spec_l1In.f a0_0 (wrap64 (-a1)) a1).bind fun t150 => (if t150 = true then ((spec_l1In.f a0_1 (wrap64 (-a1)) a1).bind fun t151 => (some t151)) else (some false))) = some r := h
 clear h
 obtain ⟨t150, A3, H⟩ := zO H
 by_cases c4 : t150 = true
 ·subst c4
  replace H := (if_pos rfl).symm.trans H
  obtain ⟨t151, A5, H⟩ := zO H
  obtain rfl := Option.some.inj H
  go_enter Tryd.func56, Tryd.ntmps56
  go_wp2_with (first | ((with_reducible refine gate_dst (N := 2) rfl ?_); refine zBx (N := 2) #[.int .i64 a0_0, .int .i64 a0_1] 55 ?_; intro gb149 hg w6 hbox hb; have BK149 := Aside0.mk (hbox); have GW149 := zS hg; have GE149 := zS hg; replace HB := zX hb; clear hb hbox hg; obtain ⟨hcz7_0, hcz7_1, hfz7_0, hfz7_1⟩ := zq2 BK149.out) | ((with_reducible refine gate_callee (f := 55) rfl ?_); refine zD (some 10) Tryd.func55 #[.int .i64 a0_0, .int .i64 (wrap64 (-a1)), .int .i64 a1] ?_; (with_reducible refine (spec_l1In.calls a0_0 (wrap64 (-a1)) a1 true _ A3.out).mono ?_); rintro e w' ⟨rfl, ⟨nd, rfl⟩⟩; refine ⟨_, rfl, ?_⟩) | (go_at_call 55; (with_reducible refine (spec_l1In.calls a0_1 (wrap64 (-a1)) a1 t151 _ A5.out).mono ?_); rintro e w' ⟨rfl, ⟨nd, rfl⟩⟩))
  go_ret
  exact ⟨zE, zG GE149.out⟩
 replace c4 := Bool.eq_false_iff.mpr c4
 subst c4
 replace H := (if_neg zFf).symm.trans H
 obtain rfl := Option.some.inj H
 go_enter Tryd.func56, Tryd.ntmps56
 go_wp2_with (first | ((with_reducible refine gate_dst (N := 2) rfl ?_); refine zBx (N := 2) #[.int .i64 a0_0, .int .i64 a0_1] 55 ?_; intro gb149 hg w8 hbox hb; have BK149 := Aside0.mk (hbox); have GW149 := zS hg; have GE149 := zS hg; replace HB := zX hb; clear hb hbox hg; obtain ⟨hcz9_0, hcz9_1, hfz9_0, hfz9_1⟩ := zq2 BK149.out) | ((with_reducible refine gate_callee (f := 55) rfl ?_); refine zD (some 10) Tryd.func55 #[.int .i64 a0_0, .int .i64 (wrap64 (-a1)), .int .i64 a1] ?_; (with_reducible refine (spec_l1In.calls a0_0 (wrap64 (-a1)) a1 false _ A3.out).mono ?_); rintro e w' ⟨rfl, ⟨nd, rfl⟩⟩; refine ⟨_, rfl, ?_⟩))
 go_ret
 exact ⟨zE, zG GE149.out⟩
/-! ### spec_l2Area: function 57 -/
def spec_l2Area.f (a0_0 : Int) (a0_1 : Int) (a1_0 : Int) (a1_1 : Int) (a2_0 : Int) (a2_1 : Int) : Option (Int) := some (wrap64 ((wrap64 ((wrap64 (a1_0 - a0_0)) * (wrap64 (a2_1 - a0_1)))) - (wrap64 ((wrap64 (a1_1 - a0_1)) * (wrap64 (a2_0 - a0_0))))))
set_option maxHeartbeats 8000000 in
set_option maxRecDepth 100000 in
theorem spec_l2Area.calls (a0_0 : Int) (a0_1 : Int) (a1_0 : Int) (a1_1 : Int) (a2_0 : Int) (a2_1 : Int) (r : Int) (w : World) (h : spec_l2Area.f a0_0 a0_1 a1_0 a1_1 a2_0 a2_1 = some r) :
  Calls Tryd.prog 57 #[.agg #[.int .i64 a0_0, .int .i64 a0_1], .agg #[.int .i64 a1_0, .int .i64 a1_1], .agg #[.int .i64 a2_0, .int .i64 a2_1]] w fun e w' => e = .returned (.int .i64 r) ∧ Below w.heap.size w w' := by
 have hu55 := Tryd.underlying55
 have HB := Aside0.mk (Below.refl w.heap.size w)
 have H : (some (wrap64 ((wrap64 ((wrap64 (a1_0 - a0_0)) * (wrap64 (a2_1 - a0_1)))) - (wrap64 ((wrap64 (a1_1 - a0_1)) * (wrap64 (a2_0 - a0_0))))))) = some r := h
 clear h
 obtain rfl := Option.some.inj H
 go_enter Tryd.func57, Tryd.ntmps57
 go_wp2_with (first | ((with_reducible refine gate_dst (N := 3) rfl ?_); refine zBx (N := 3) #[.int .i64 a0_0, .int .i64 a0_1] 55 ?_; intro gb152 hg w4 hbox hb; have BK152 := Aside0.mk (hbox); have GW152 := zS hg; have GE152 := zS hg; replace HB := zX hb; clear hb hbox hg) | ((with_reducible refine gate_dst (N := 4) rfl ?_); refine zBx (N := 4) #[.int .i64 a1_0, .int .i64 a1_1] 55 ?_; intro gb153 hg w5 hbox hb; have BK153 := Aside0.mk (hbox); have GW153 := zSg hg (zG GE152.out); have GE153 := zSg hg (zG GE152.out); have NB152_153 := zL hg BK152.out; have NB153_152 := zLg hg BK152.out; replace BK152 := zV BK152.out hb; replace HB := zX1 GE152.out hb; clear hb hbox hg) | ((with_reducible refine gate_dst (N := 5) rfl ?_); refine zBx (N := 5) #[.int .i64 a2_0, .int .i64 a2_1] 55 ?_; intro gb154 hg w6 hbox hb; have BK154 := Aside0.mk (hbox); have GW154 := zSg hg (zG2 GE152.out GE153.out); have GE154 := zSg hg (zG2 GE152.out GE153.out); have NB152_154 := zL hg BK152.out; have NB154_152 := zLg hg BK152.out; replace BK152 := zV BK152.out hb; have NB153_154 := zL hg BK153.out; have NB154_153 := zLg hg BK153.out; replace BK153 := zV BK153.out hb; replace HB := Aside0.mk (below_step (zG2 GE152.out GE153.out) hb); clear hb hbox hg; have hnb7 := NB153_152.out; have hnc7 := NB152_153.out; have hnb8 := NB153_154.out; have hnc8 := NB154_153.out; obtain ⟨hcz9_0, hcz9_1, hfz9_0, hfz9_1⟩ := zq2 BK153.out; have hnb10 := NB152_154.out; have hnc10 := NB154_152.out; obtain ⟨hcz11_0, hcz11_1, hfz11_0, hfz11_1⟩ := zq2 BK152.out; obtain ⟨hcz12_0, hcz12_1, hfz12_0, hfz12_1⟩ := zq2 BK154.out))
 go_ret
 exact ⟨zE, zG3 GE152.out GE153.out GE154.out⟩
/-! ### spec_ArePoints: function 39 -/
mutual
def spec_ArePoints.l0 : Nat → List (S55) → Int → Option (Bool)
 | 0, _, _ => none
 | k + 1, x0, x3 => if x3 < (x0.length : Int) then (if 0 ≤ x3 then ((spec_l2Fits.f ((rd_T55 x0 x3).f0) ((rd_T55 x0 x3).f1) 50).bind fun t157 => (if t157 = true then (spec_ArePoints.l1 k x0 x3 0) else (some false))) else (none)) else (some true)
def spec_ArePoints.l1 : Nat → List (S55) → Int → Int → Option (Bool)
 | 0, _, _, _ => none
 | k + 1, x0, x3, x4 => if x4 < x3 then (spec_ArePoints.l2 k x0 x3 x4 0) else (spec_ArePoints.l0 k x0 (wrap64 (x3 + 1)))
def spec_ArePoints.l2 : Nat → List (S55) → Int → Int → Int → Option (Bool)
 | 0, _, _, _, _ => none
 | k + 1, x0, x3, x4, x5 => if x5 < x4 then (if 0 ≤ x5 then (if x5 < (x0.length : Int) then (if 0 ≤ x4 then (if x4 < (x0.length : Int) then (if 0 ≤ x3 then (if x3 < (x0.length : Int) then ((spec_l2Area.f ((rd_T55 x0 x5).f0) ((rd_T55 x0 x5).f1) ((rd_T55 x0 x4).f0) ((rd_T55 x0 x4).f1) ((rd_T55 x0 x3).f0) ((rd_T55 x0 x3).f1)).bind fun t161 => (if t161 = 0 then (some false) else (spec_ArePoints.l2 k x0 x3 x4 (wrap64 (x5 + 1))))) else (none)) else (none)) else (none)) else (none)) else (none)) else (none)) else (spec_ArePoints.l1 k x0 x3 (wrap64 (x4 + 1)))
end
def spec_ArePoints.f (k : Nat) (l0 : List (S55)) : Option (Bool) := (spec_l1In.f (l0.length : Int) 3 7).bind fun t155 => (if t155 = true then (spec_ArePoints.l0 k l0 0) else (some false))
def spec_ArePoints.T14 : Bool × List (List Nat × List Nat) := (true, [([], []), ([], []), ([0, 1], [0, 1]), ([2], [2]), ([], []), ([], []), ([4, 5], [4, 5]), ([6], [6]), ([], []), ([], []), ([8, 9], [8, 9]), ([10], [10]), ([3, 7, 11], [3, 7, 11]), ([12], [12])])
def spec_ArePoints.B14 : List Nat := [0, 0, 3, 7, 0, 0, 48, 112, 0, 0, 768, 1792, 4095, 8191]
theorem spec_ArePoints.tab14 : rtab .any (opsOf Tryd.f39 14) = spec_ArePoints.T14 := by kernel_rfl
theorem spec_ArePoints.bits14 : waitsOk spec_ArePoints.T14.2 spec_ArePoints.B14 = true := by kernel_rfl
set_option maxHeartbeats 8000000 in
set_option maxRecDepth 100000 in
theorem spec_ArePoints.calls (k : Nat) (A0 : Option Addr) (c0 : Nat) (l0 : List (S55)) (r : Bool) (w : World) (hr0 : Kd.C k55 w A0 l0.length l0) (hc0 : l0.length ≤ c0) (h : spec_ArePoints.f k l0 = some r) :
  Calls Tryd.prog 39 #[.slice A0 l0.length c0] w fun e w' => e = .returned (.bool r) ∧ Below w.heap.size w w' := by
 have hu55 := Tryd.underlying55
 have HR0 := Aside0.mk hr0
 have HC0 := Aside0.mk hc0
 clear hr0 hc0
 have HB := Aside0.mk (Below.refl w.heap.size w)
 have H : ((spec_l1In.f (l0.length : Int) 3 7).bind fun t155 => (if t155 = true then (spec_ArePoints.l0 k l0 0) else (some false))) = some r := h
 clear h
 obtain ⟨t155, A2, H⟩ := zO H
 by_cases c3 : t155 = true
 ·subst c3
  replace H := (if_pos rfl).symm.trans H
  have H' := Aside0.mk H; clear H
  go_enter Tryd.func39, Tryd.ntmps39
  go_wp2_with (first | ((with_reducible refine gate_callee (f := 55) rfl ?_); refine zD (some 8) Tryd.func55 #[.int .i64 (l0.length : Int), .int .i64 3, .int .i64 7] ?_; (with_reducible refine (spec_l1In.calls (l0.length : Int) 3 7 true _ A2.out).mono ?_); rintro e w' ⟨rfl, ⟨nd, rfl⟩⟩; refine ⟨_, rfl, ?_⟩))
  go_loopg [3] k (fun kq v3 w' => ∃ (x3_1 : Int), v3 = .int .i64 x3_1 ∧ Aside0 (spec_ArePoints.l0 kq l0 x3_1 = some r) ∧ Aside0 (kq ≤ k) ∧ Aside0 (Below w.heap.size w w'))
  case atStart => exact ⟨(0), zF, H', ⟨Nat.le_refl _⟩, ⟨zB⟩⟩
  case round =>
  clear H'
  try clear c3
  obtain ⟨x3_1, rfl, HA, HK1, HB⟩ := hrel
  cases gk with
  | zero => exact absurd HA.out (by simp [spec_ArePoints.l0])
  | succ k1 =>
  have H := HA.out
  clear HA
  simp only [spec_ArePoints.l0] at H
  by_cases c4 : x3_1 < (l0.length : Int)
  ·rw [if_pos c4] at H
   have c4b0 := decide_eq_true c4
   clear c4
   by_cases c5 : 0 ≤ x3_1
   ·rw [if_pos c5] at H
    have c5b0 := decide_eq_true c5
    clear c5
    obtain ⟨t157, A6, H⟩ := zO H
    by_cases c7 : t157 = true
    ·subst c7
     replace H := (if_pos rfl).symm.trans H
     have H' := Aside0.mk H; clear H
     have p156 : 0 ≤ (x3_1 : Int) := zA
     have q156 : x3_1 < (l0.length : Int) := zA
     obtain ⟨ad156, e156, hx156_0, hx156_1⟩ := at_T55 HR0.out x3_1 p156 q156
     cases e156
     replace hx156_0 := (HB.out.cell (World.block_lt_of_cell? w _ hx156_0)).trans hx156_0
     replace hx156_1 := (HB.out.cell (World.block_lt_of_cell? w _ hx156_1)).trans hx156_1
     replace p156 := eq_true p156
     replace q156 := eq_true q156
     go_wp2_with (first | ((with_reducible refine gate_callee (f := 56) rfl ?_); refine zD (some 20) Tryd.func56 #[.agg #[.int .i64 ((rd_T55 l0 x3_1).f0), .int .i64 ((rd_T55 l0 x3_1).f1)], .int .i64 50] ?_; (with_reducible refine (spec_l2Fits.calls ((rd_T55 l0 x3_1).f0) ((rd_T55 l0 x3_1).f1) 50 true _ A6.out).mono ?_); rintro e w8 ⟨rfl, hb⟩; refine ⟨_, rfl, ?_⟩; replace HB := zX hb; (try clear hb)))
     go_loopg [4] k1 (fun kq v4 w' => ∃ (x4_2 : Int), v4 = .int .i64 x4_2 ∧ Aside0 (spec_ArePoints.l1 kq l0 x3_1 x4_2 = some r) ∧ Aside0 (kq ≤ k1) ∧ Aside0 (Below w.heap.size w w'))
     case atStart => exact ⟨(0), zF, H', ⟨Nat.le_refl _⟩, ⟨zB⟩⟩
     case round =>
     clear H'
     try clear c3
     try clear c4
     try clear c4b0
     try clear c5
     try clear c5b0
     try clear c7
     try clear hx156_0
     try clear hx156_1
     try clear p156
     try clear q156
     obtain ⟨x4_2, rfl, HA, HK2, HB⟩ := hrel
     cases gk with
     | zero => exact absurd HA.out (by simp [spec_ArePoints.l1])
     | succ k2 =>
     have H := HA.out
     clear HA
     simp only [spec_ArePoints.l1] at H
     by_cases c9 : x4_2 < x3_1
     ·rw [if_pos c9] at H
      have c9b0 := decide_eq_true c9
      clear c9
      have H' := Aside0.mk H; clear H
      go_wp2
      go_loopg [5] k2 (fun kq v5 w' => ∃ (x5_3 : Int), v5 = .int .i64 x5_3 ∧ Aside0 (spec_ArePoints.l2 kq l0 x3_1 x4_2 x5_3 = some r) ∧ Aside0 (kq ≤ k2) ∧ Aside0 (Below w.heap.size w w'))
      case atStart => exact ⟨(0), zF, H', ⟨Nat.le_refl _⟩, ⟨zB⟩⟩
      case round =>
      clear H'
      try clear c3
      try clear c4
      try clear c4b0
      try clear c5
      try clear c5b0
      try clear c7
      try clear c9
      try clear c9b0
      try clear hx156_0
      try clear hx156_1
      try clear p156
      try clear q156
      obtain ⟨x5_3, rfl, HA, HK3, HB⟩ := hrel
      cases gk with
      | zero => exact absurd HA.out (by simp [spec_ArePoints.l2])
      | succ k3 =>
      have H := HA.out
      clear HA
      simp only [spec_ArePoints.l2] at H
      by_cases c10 : x5_3 < x4_2
      ·rw [if_pos c10] at H
       have c10b0 := decide_eq_true c10
       clear c10
       by_cases c11 : 0 ≤ x5_3
       ·rw [if_pos c11] at H
        have c11b0 := decide_eq_true c11
        clear c11
        by_cases c12 : x5_3 < (l0.length : Int)
        ·rw [if_pos c12] at H
         have c12b0 := decide_eq_true c12
         clear c12
         by_cases c13 : 0 ≤ x4_2
         ·rw [if_pos c13] at H
          have c13b0 := decide_eq_true c13
          clear c13
          by_cases c14 : x4_2 < (l0.length : Int)
          ·rw [if_pos c14] at H
           have c14b0 := decide_eq_true c14
           clear c14
           by_cases c15 : 0 ≤ x3_1
           ·rw [if_pos c15] at H
            have c15b0 := decide_eq_true c15
            clear c15
            by_cases c16 : x3_1 < (l0.length : Int)
            ·rw [if_pos c16] at H
             have c16b0 := decide_eq_true c16
             clear c16
             obtain ⟨t161, A17, H⟩ := zO H
             by_cases c18 : t161 = 0
             ·rw [if_pos c18] at H
              have c18b0 := beq_iff_eq.mpr c18
              have c18b1 := bne_eq_false_iff_eq.mpr c18
              clear c18
              obtain rfl := Option.some.inj H
              try go_wp2
              replace HB := Aside0.mk (below_drew1 HB.out)
              have p158 : 0 ≤ (x5_3 : Int) := zA
              have q158 : x5_3 < (l0.length : Int) := zA
              obtain ⟨ad158, e158, hx158_0, hx158_1⟩ := at_T55 HR0.out x5_3 p158 q158
              have hw158_1 := hx158_1
              have hw158_0 := hx158_0
              obtain rfl : ad156 = ad158 := (by injection e158)
              replace hx158_0 := (HB.out.cell (World.block_lt_of_cell? w _ hx158_0)).trans hx158_0
              replace hx158_1 := (HB.out.cell (World.block_lt_of_cell? w _ hx158_1)).trans hx158_1
              replace p158 := eq_true p158
              replace q158 := eq_true q158
              have p159 : 0 ≤ (x4_2 : Int) := zA
              have q159 : x4_2 < (l0.length : Int) := zA
              obtain ⟨ad159, e159, hx159_0, hx159_1⟩ := at_T55 HR0.out x4_2 p159 q159
              have hw159_1 := hx159_1
              have hw159_0 := hx159_0
              obtain rfl : ad156 = ad159 := (by injection e159)
              replace hx159_0 := (HB.out.cell (World.block_lt_of_cell? w _ hx159_0)).trans hx159_0
              replace hx159_1 := (HB.out.cell (World.block_lt_of_cell? w _ hx159_1)).trans hx159_1
              replace p159 := eq_true p159
              replace q159 := eq_true q159
              have p160 : 0 ≤ (x3_1 : Int) := zA
              have q160 : x3_1 < (l0.length : Int) := zA
              obtain ⟨ad160, e160, hx160_0, hx160_1⟩ := at_T55 HR0.out x3_1 p160 q160
              have hw160_1 := hx160_1
              have hw160_0 := hx160_0
              obtain rfl : ad156 = ad160 := (by injection e160)
              replace hx160_0 := (HB.out.cell (World.block_lt_of_cell? w _ hx160_0)).trans hx160_0
              replace hx160_1 := (HB.out.cell (World.block_lt_of_cell? w _ hx160_1)).trans hx160_1
              replace p160 := eq_true p160
              replace q160 := eq_true q160
              refine start_ (n := 14) (S := fun w' => w'.cell? (ad156.add ((x5_3).toNat * 2)) = some (.int .i64 ((rd_T55 l0 x5_3).f0)) ∧ w'.cell? ⟨(ad156.add ((x5_3).toNat * 2)).block, (ad156.add ((x5_3).toNat * 2)).off + 1, none⟩ = some (.int .i64 ((rd_T55 l0 x5_3).f1)) ∧ w'.cell? (ad156.add ((x4_2).toNat * 2)) = some (.int .i64 ((rd_T55 l0 x4_2).f0)) ∧ w'.cell? ⟨(ad156.add ((x4_2).toNat * 2)).block, (ad156.add ((x4_2).toNat * 2)).off + 1, none⟩ = some (.int .i64 ((rd_T55 l0 x4_2).f1)) ∧ w'.cell? (ad156.add ((x3_1).toNat * 2)) = some (.int .i64 ((rd_T55 l0 x3_1).f0)) ∧ w'.cell? ⟨(ad156.add ((x3_1).toNat * 2)).block, (ad156.add ((x3_1).toNat * 2)).off + 1, none⟩ = some (.int .i64 ((rd_T55 l0 x3_1).f1))) (ds := []) #[false, false, false, false, false, false, false, false, false, false, false, false, false, false] (by kernel_rfl) rfl rfl ⟨((HB.out.cell (World.block_lt_of_cell? w _ hw158_0)).trans hw158_0), ((HB.out.cell (World.block_lt_of_cell? w _ hw158_1)).trans hw158_1), ((HB.out.cell (World.block_lt_of_cell? w _ hw159_0)).trans hw159_0), ((HB.out.cell (World.block_lt_of_cell? w _ hw159_1)).trans hw159_1), ((HB.out.cell (World.block_lt_of_cell? w _ hw160_0)).trans hw160_0), ((HB.out.cell (World.block_lt_of_cell? w _ hw160_1)).trans hw160_1)⟩ (fun hHeld => ?_); refine with_tabW spec_ArePoints.tab14 spec_ArePoints.bits14 (fun HT_ HW_ => ?_)
              generalize wr.drew = w19 at HB hx158_0 hx158_1 hx159_0 hx159_1 hx160_0 hx160_1 hHeld ⊢
              refine zP 0 (some 32) rfl rfl ?_
              refine zP 1 (some 33) rfl rfl ?_
              refine zP 2 (some 34) rfl rfl ?_
              refine zP 4 (some 36) rfl rfl ?_
              refine zP 5 (some 37) rfl rfl ?_
              refine zP 6 (some 38) rfl rfl ?_
              refine zP 8 (some 40) rfl rfl ?_
              refine zP 9 (some 41) rfl rfl ?_
              refine zP 10 (some 42) rfl rfl ?_
              refine zY6 3 (some 35) rfl rfl hHeld ?_
              refine zY6 7 (some 39) rfl rfl hHeld ?_
              refine zY6 11 (some 43) rfl rfl hHeld ?_
              refine zU 12 (some 44) rfl rfl (fun K hK => ?_)
              refine goes_ Tryd.func57 (by kernel_rfl) rfl #[.agg #[.int .i64 ((rd_T55 l0 x5_3).f0), .int .i64 ((rd_T55 l0 x5_3).f1)], .agg #[.int .i64 ((rd_T55 l0 x4_2).f0), .int .i64 ((rd_T55 l0 x4_2).f1)], .agg #[.int .i64 ((rd_T55 l0 x3_1).f0), .int .i64 ((rd_T55 l0 x3_1).f1)]] (by rfl) rfl rfl zM ?_
              with_reducible refine (spec_l2Area.calls ((rd_T55 l0 x5_3).f0) ((rd_T55 l0 x5_3).f1) ((rd_T55 l0 x4_2).f0) ((rd_T55 l0 x4_2).f1) ((rd_T55 l0 x3_1).f0) ((rd_T55 l0 x3_1).f1) t161 _ A17.out).mono ?_
              rintro e w20 ⟨rfl, hb⟩
              refine ⟨_, rfl, ?_⟩
              replace HB := zX hb
              (try clear hb)
              refine hK.out _ _ ⟨((HB.out.cell (World.block_lt_of_cell? w _ hw158_0)).trans hw158_0), ((HB.out.cell (World.block_lt_of_cell? w _ hw158_1)).trans hw158_1), ((HB.out.cell (World.block_lt_of_cell? w _ hw159_0)).trans hw159_0), ((HB.out.cell (World.block_lt_of_cell? w _ hw159_1)).trans hw159_1), ((HB.out.cell (World.block_lt_of_cell? w _ hw160_0)).trans hw160_0), ((HB.out.cell (World.block_lt_of_cell? w _ hw160_1)).trans hw160_1)⟩ (fun hHeld => ?_)
              clear hK K
              refine zN ?_
              refine zP 13 (some 45) rfl rfl ?_
              refine done_ (done_of HT_.out (by kernel_rfl)) ?_
              try go_wp2
              go_ret
              exact ⟨zE, zB⟩
             rw [if_neg c18] at H
             have c18b0 := beq_eq_false_iff_ne.mpr c18
             have c18b1 := bne_iff_ne.mpr c18
             have H' := Aside0.mk H; clear H
             try go_wp2
             replace HB := Aside0.mk (below_drew1 HB.out)
             have p158 : 0 ≤ (x5_3 : Int) := zA
             have q158 : x5_3 < (l0.length : Int) := zA
             obtain ⟨ad158, e158, hx158_0, hx158_1⟩ := at_T55 HR0.out x5_3 p158 q158
             have hw158_1 := hx158_1
             have hw158_0 := hx158_0
             obtain rfl : ad156 = ad158 := (by injection e158)
             replace hx158_0 := (HB.out.cell (World.block_lt_of_cell? w _ hx158_0)).trans hx158_0
             replace hx158_1 := (HB.out.cell (World.block_lt_of_cell? w _ hx158_1)).trans hx158_1
             replace p158 := eq_true p158
             replace q158 := eq_true q158
             have p159 : 0 ≤ (x4_2 : Int) := zA
             have q159 : x4_2 < (l0.length : Int) := zA
             obtain ⟨ad159, e159, hx159_0, hx159_1⟩ := at_T55 HR0.out x4_2 p159 q159
             have hw159_1 := hx159_1
             have hw159_0 := hx159_0
             obtain rfl : ad156 = ad159 := (by injection e159)
             replace hx159_0 := (HB.out.cell (World.block_lt_of_cell? w _ hx159_0)).trans hx159_0
             replace hx159_1 := (HB.out.cell (World.block_lt_of_cell? w _ hx159_1)).trans hx159_1
             replace p159 := eq_true p159
             replace q159 := eq_true q159
             have p160 : 0 ≤ (x3_1 : Int) := zA
             have q160 : x3_1 < (l0.length : Int) := zA
             obtain ⟨ad160, e160, hx160_0, hx160_1⟩ := at_T55 HR0.out x3_1 p160 q160
             have hw160_1 := hx160_1
             have hw160_0 := hx160_0
             obtain rfl : ad156 = ad160 := (by injection e160)
             replace hx160_0 := (HB.out.cell (World.block_lt_of_cell? w _ hx160_0)).trans hx160_0
             replace hx160_1 := (HB.out.cell (World.block_lt_of_cell? w _ hx160_1)).trans hx160_1
             replace p160 := eq_true p160
             replace q160 := eq_true q160
             refine start_ (n := 14) (S := fun w' => w'.cell? (ad156.add ((x5_3).toNat * 2)) = some (.int .i64 ((rd_T55 l0 x5_3).f0)) ∧ w'.cell? ⟨(ad156.add ((x5_3).toNat * 2)).block, (ad156.add ((x5_3).toNat * 2)).off + 1, none⟩ = some (.int .i64 ((rd_T55 l0 x5_3).f1)) ∧ w'.cell? (ad156.add ((x4_2).toNat * 2)) = some (.int .i64 ((rd_T55 l0 x4_2).f0)) ∧ w'.cell? ⟨(ad156.add ((x4_2).toNat * 2)).block, (ad156.add ((x4_2).toNat * 2)).off + 1, none⟩ = some (.int .i64 ((rd_T55 l0 x4_2).f1)) ∧ w'.cell? (ad156.add ((x3_1).toNat * 2)) = some (.int .i64 ((rd_T55 l0 x3_1).f0)) ∧ w'.cell? ⟨(ad156.add ((x3_1).toNat * 2)).block, (ad156.add ((x3_1).toNat * 2)).off + 1, none⟩ = some (.int .i64 ((rd_T55 l0 x3_1).f1))) (ds := []) #[false, false, false, false, false, false, false, false, false, false, false, false, false, false] (by kernel_rfl) rfl rfl ⟨((HB.out.cell (World.block_lt_of_cell? w _ hw158_0)).trans hw158_0), ((HB.out.cell (World.block_lt_of_cell? w _ hw158_1)).trans hw158_1), ((HB.out.cell (World.block_lt_of_cell? w _ hw159_0)).trans hw159_0), ((HB.out.cell (World.block_lt_of_cell? w _ hw159_1)).trans hw159_1), ((HB.out.cell (World.block_lt_of_cell? w _ hw160_0)).trans hw160_0), ((HB.out.cell (World.block_lt_of_cell? w _ hw160_1)).trans hw160_1)⟩ (fun hHeld => ?_); refine with_tabW spec_ArePoints.tab14 spec_ArePoints.bits14 (fun HT_ HW_ => ?_)
             generalize wr.drew = w21 at HB hx158_0 hx158_1 hx159_0 hx159_1 hx160_0 hx160_1 hHeld ⊢
             refine zP 0 (some 32) rfl rfl ?_
             refine zP 1 (some 33) rfl rfl ?_
             refine zP 2 (some 34) rfl rfl ?_
             refine zP 4 (some 36) rfl rfl ?_
             refine zP 5 (some 37) rfl rfl ?_
             refine zP 6 (some 38) rfl rfl ?_
             refine zP 8 (some 40) rfl rfl ?_
             refine zP 9 (some 41) rfl rfl ?_
             refine zP 10 (some 42) rfl rfl ?_
             refine zY6 3 (some 35) rfl rfl hHeld ?_
             refine zY6 7 (some 39) rfl rfl hHeld ?_
             refine zY6 11 (some 43) rfl rfl hHeld ?_
             refine zU 12 (some 44) rfl rfl (fun K hK => ?_)
             refine goes_ Tryd.func57 (by kernel_rfl) rfl #[.agg #[.int .i64 ((rd_T55 l0 x5_3).f0), .int .i64 ((rd_T55 l0 x5_3).f1)], .agg #[.int .i64 ((rd_T55 l0 x4_2).f0), .int .i64 ((rd_T55 l0 x4_2).f1)], .agg #[.int .i64 ((rd_T55 l0 x3_1).f0), .int .i64 ((rd_T55 l0 x3_1).f1)]] (by rfl) rfl rfl zM ?_
             with_reducible refine (spec_l2Area.calls ((rd_T55 l0 x5_3).f0) ((rd_T55 l0 x5_3).f1) ((rd_T55 l0 x4_2).f0) ((rd_T55 l0 x4_2).f1) ((rd_T55 l0 x3_1).f0) ((rd_T55 l0 x3_1).f1) t161 _ A17.out).mono ?_
             rintro e w22 ⟨rfl, hb⟩
             refine ⟨_, rfl, ?_⟩
             replace HB := zX hb
             (try clear hb)
             refine hK.out _ _ ⟨((HB.out.cell (World.block_lt_of_cell? w _ hw158_0)).trans hw158_0), ((HB.out.cell (World.block_lt_of_cell? w _ hw158_1)).trans hw158_1), ((HB.out.cell (World.block_lt_of_cell? w _ hw159_0)).trans hw159_0), ((HB.out.cell (World.block_lt_of_cell? w _ hw159_1)).trans hw159_1), ((HB.out.cell (World.block_lt_of_cell? w _ hw160_0)).trans hw160_0), ((HB.out.cell (World.block_lt_of_cell? w _ hw160_1)).trans hw160_1)⟩ (fun hHeld => ?_)
             clear hK K
             refine zN ?_
             refine zP 13 (some 45) rfl rfl ?_
             refine done_ (done_of HT_.out (by kernel_rfl)) ?_
             try go_wp2
             go_roundg k3
             case measure => have := HK1.out; have := HK2.out; have := HK3.out; omega
             case rel => exact ⟨(wrap64 (x5_3 + 1)), zF, H', ⟨by have := HK1.out; have := HK2.out; have := HK3.out; omega⟩, ⟨zB⟩⟩
            rw [if_neg c16] at H
            exact absurd H (by simp)
           rw [if_neg c15] at H
           exact absurd H (by simp)
          rw [if_neg c14] at H
          exact absurd H (by simp)
         rw [if_neg c13] at H
         exact absurd H (by simp)
        rw [if_neg c12] at H
        exact absurd H (by simp)
       rw [if_neg c11] at H
       exact absurd H (by simp)
      rw [if_neg c10] at H
      have c10b0 := decide_eq_false c10
      clear c10
      have H' := Aside0.mk H; clear H
      go_wp2
      go_roundg k3
      case measure => have := HK1.out; have := HK2.out; have := HK3.out; omega
      case rel => exact ⟨(wrap64 (x4_2 + 1)), zF, H', ⟨by have := HK1.out; have := HK2.out; have := HK3.out; omega⟩, ⟨zB⟩⟩
     rw [if_neg c9] at H
     have c9b0 := decide_eq_false c9
     clear c9
     have H' := Aside0.mk H; clear H
     go_wp2
     go_roundg k2
     case measure => have := HK1.out; have := HK2.out; omega
     case rel => exact ⟨(wrap64 (x3_1 + 1)), zF, H', ⟨by have := HK1.out; have := HK2.out; omega⟩, ⟨zB⟩⟩
    replace c7 := Bool.eq_false_iff.mpr c7
    subst c7
    replace H := (if_neg zFf).symm.trans H
    obtain rfl := Option.some.inj H
    have p156 : 0 ≤ (x3_1 : Int) := zA
    have q156 : x3_1 < (l0.length : Int) := zA
    obtain ⟨ad156, e156, hx156_0, hx156_1⟩ := at_T55 HR0.out x3_1 p156 q156
    cases e156
    replace hx156_0 := (HB.out.cell (World.block_lt_of_cell? w _ hx156_0)).trans hx156_0
    replace hx156_1 := (HB.out.cell (World.block_lt_of_cell? w _ hx156_1)).trans hx156_1
    replace p156 := eq_true p156
    replace q156 := eq_true q156
    go_wp2_with (first | ((with_reducible refine gate_callee (f := 56) rfl ?_); refine zD (some 20) Tryd.func56 #[.agg #[.int .i64 ((rd_T55 l0 x3_1).f0), .int .i64 ((rd_T55 l0 x3_1).f1)], .int .i64 50] ?_; (with_reducible refine (spec_l2Fits.calls ((rd_T55 l0 x3_1).f0) ((rd_T55 l0 x3_1).f1) 50 false _ A6.out).mono ?_); rintro e w23 ⟨rfl, hb⟩; refine ⟨_, rfl, ?_⟩; replace HB := zX hb; (try clear hb)))
    go_ret
    exact ⟨zE, zB⟩
   rw [if_neg c5] at H
   exact absurd H (by simp)
  rw [if_neg c4] at H
  have c4b0 := decide_eq_false c4
  clear c4
  obtain rfl := Option.some.inj H
  go_wp2
  go_ret
  exact ⟨zE, zB⟩
 replace c3 := Bool.eq_false_iff.mpr c3
 subst c3
 replace H := (if_neg zFf).symm.trans H
 obtain rfl := Option.some.inj H
 go_enter Tryd.func39, Tryd.ntmps39
 go_wp2_with (first | ((with_reducible refine gate_callee (f := 55) rfl ?_); refine zD (some 8) Tryd.func55 #[.int .i64 (l0.length : Int), .int .i64 3, .int .i64 7] ?_; (with_reducible refine (spec_l1In.calls (l0.length : Int) 3 7 false _ A2.out).mono ?_); rintro e w' ⟨rfl, ⟨nd, rfl⟩⟩; refine ⟨_, rfl, ?_⟩))
 go_ret
 exact ⟨zE, zB⟩
/-! ### spec_FormatInt: function 11 -/
def spec_FormatInt.l0 : Nat → Int → Bool → ByteArray → Option (ByteArray)
 | 0, _, _, _ => none
 | k + 1, x0, x3, x4 => if x0 = 0 then (if x3 = true then (if 1 + x4.size ≤ 9223372036854775807 then (some ((⟨#[45]⟩ : ByteArray) ++ x4)) else (none)) else (some x4)) else (if (Int.tmod x0 10) < 0 then ((some (([(wrap64 (48 + (wrap64 (-(Int.tmod x0 10))))) % 256] : List Int) : List Int)).bind fun y101 => (if (strOfNums y101).size + x4.size ≤ 9223372036854775807 then (spec_FormatInt.l0 k (wrap64 (Int.tdiv x0 10)) x3 ((strOfNums y101) ++ x4)) else (none))) else ((some (([(wrap64 (48 + (Int.tmod x0 10))) % 256] : List Int) : List Int)).bind fun y104 => (if (strOfNums y104).size + x4.size ≤ 9223372036854775807 then (spec_FormatInt.l0 k (wrap64 (Int.tdiv x0 10)) x3 ((strOfNums y104) ++ x4)) else (none))))
def spec_FormatInt.f (k : Nat) (a0 : Int) : Option (ByteArray) := if a0 = 0 then (some (⟨#[48]⟩ : ByteArray)) else (spec_FormatInt.l0 k a0 (decide (a0 < 0)) (⟨#[]⟩ : ByteArray))
set_option maxHeartbeats 8000000 in
set_option maxRecDepth 100000 in
theorem spec_FormatInt.calls (k : Nat) (a0 : Int) (r : ByteArray) (w : World) (h : spec_FormatInt.f k a0 = some r) :
  Calls Tryd.prog 11 #[.int .i64 a0] w fun e w' => e = .returned (.string r) ∧ Below w.heap.size w w' := by
 have HB := Aside0.mk (Below.refl w.heap.size w)
 have H : (if a0 = 0 then (some (⟨#[48]⟩ : ByteArray)) else (spec_FormatInt.l0 k a0 (decide (a0 < 0)) (⟨#[]⟩ : ByteArray))) = some r := h
 clear h
 by_cases c2 : a0 = 0
 ·rw [if_pos c2] at H
  have c2b0 := beq_iff_eq.mpr c2
  have c2b1 := bne_eq_false_iff_eq.mpr c2
  clear c2
  obtain rfl := Option.some.inj H
  go_enter Tryd.func11, Tryd.ntmps11
  go_wp2
  go_ret
  exact ⟨zE, zB⟩
 rw [if_neg c2] at H
 have c2b0 := beq_eq_false_iff_ne.mpr c2
 have c2b1 := bne_iff_ne.mpr c2
 have H' := Aside0.mk H; clear H
 go_enter Tryd.func11, Tryd.ntmps11
 go_wp2
 go_loopg [0, 4] k (fun kq v0 v4 w' => ∃ (x0_1 : Int) (x4_1 : ByteArray), v0 = .int .i64 x0_1 ∧ v4 = .string x4_1 ∧ Aside0 (spec_FormatInt.l0 kq x0_1 (decide (a0 < 0)) x4_1 = some r) ∧ Aside0 (kq ≤ k) ∧ Aside0 (Below w.heap.size w w'))
 case atStart => exact ⟨(a0), ((⟨#[]⟩ : ByteArray)), zF, zF, H', ⟨Nat.le_refl _⟩, ⟨zB⟩⟩
 case round =>
 clear H'
 try clear c2
 try clear c2b0
 try clear c2b1
 obtain ⟨x0_1, x4_1, rfl, rfl, HA, HK1, HB⟩ := hrel
 cases gk with
 | zero => exact absurd HA.out (by simp [spec_FormatInt.l0])
 | succ k1 =>
 have H := HA.out
 clear HA
 simp only [spec_FormatInt.l0] at H
 by_cases c3 : x0_1 = 0
 ·rw [if_pos c3] at H
  have c3b0 := beq_iff_eq.mpr c3
  have c3b1 := bne_eq_false_iff_eq.mpr c3
  clear c3
  by_cases c4 : (decide (a0 < 0)) = true
  ·rw [if_pos c4] at H
   have c4b0 : (decide (a0 < 0)) = true := c4
   clear c4
   by_cases c5 : 1 + x4_1.size ≤ 9223372036854775807
   ·rw [if_pos c5] at H
    have c5b0 := eq_true c5
    have c5b1 := decide_eq_true c5
    try have c5b2 : (9223372036854775807 < 1 + x4_1.size) = False := eq_false (Nat.not_lt.2 c5)
    obtain rfl := Option.some.inj H
    go_wp2
    all_goals first | (exfalso; have hdd := of_decide_eq_true c4b0; omega; done) | skip
    go_ret
    exact ⟨zE, zB⟩
   rw [if_neg c5] at H
   exact absurd H (by simp)
  rw [if_neg c4] at H
  have c4b0 : (decide (a0 < 0)) = false := by simpa using c4
  clear c4
  obtain rfl := Option.some.inj H
  go_wp2
  all_goals first | (exfalso; have hdd := of_decide_eq_false c4b0; omega; done) | skip
  go_ret
  exact ⟨zE, zB⟩
 rw [if_neg c3] at H
 have c3b0 := beq_eq_false_iff_ne.mpr c3
 have c3b1 := bne_iff_ne.mpr c3
 by_cases c6 : (Int.tmod x0_1 10) < 0
 ·rw [if_pos c6] at H
  have c6b0 := decide_eq_true c6
  clear c6
  obtain ⟨y101, hy101⟩ : ∃ y_ : List Int, y_ = (([(wrap64 (48 + (wrap64 (-(Int.tmod x0_1 10))))) % 256] : List Int)) := ⟨_, rfl⟩
  replace H : (if (strOfNums y101).size + x4_1.size ≤ 9223372036854775807 then (spec_FormatInt.l0 k1 (wrap64 (Int.tdiv x0_1 10)) (decide (a0 < 0)) ((strOfNums y101) ++ x4_1)) else (none)) = some r := by first | (rw [hy101]; with_reducible exact H) | (have H2_ := (Option.bind_some _ _).symm.trans H; rw [hy101]; with_reducible exact H2_) | (have H2_ := (Option.bind_some _ _).symm.trans H; with_reducible exact H2_) | with_reducible exact H | (rw [hy101]; exact H) | exact H
  have Ny101 := Aside0.mk hy101
  clear hy101
  by_cases c7 : (strOfNums y101).size + x4_1.size ≤ 9223372036854775807
  ·rw [if_pos c7] at H
   have c7b0 := eq_true c7
   have c7b1 := decide_eq_true c7
   try have c7b2 : (9223372036854775807 < (strOfNums y101).size + x4_1.size) = False := eq_false (Nat.not_lt.2 c7)
   have H' := Aside0.mk H; clear H
   go_wp2_with (first | ((with_reducible refine gate_dst (N := 21) rfl ?_); refine Kd.R_lit (Kd.int .u8) _ 5 ?hg (N := 21) ?hd (xs := ([(wrap64 (48 + (wrap64 (-(Int.tmod x0_1 10))))) % 256] : List Int)) (inner := [.int .u8 ((wrap64 (48 + (wrap64 (-(Int.tmod x0_1 10))))) % 256)]) (ok := fun _ => True) (okp := fun _ => True) ?hr ?hp (fun _ hk => hk) trivial (Below.refl _ _) (Nat.le_refl _) (by simp) ?_; (case hd => rfl); (case hg => rfl); (case hr => first | (go_simp; done) | (go_simp; rfl)); (case hp => exact (Reps.one (show Kd.M (Kd.int .u8) _ _ _ ((wrap64 (48 + (wrap64 (-(Int.tmod x0_1 10))))) % 256) [.int .u8 ((wrap64 (48 + (wrap64 (-(Int.tmod x0_1 10))))) % 256)] from rfl) (Reps.none _ _))); intro v102 w8 ho9 hb hg_ hnew_; clear hg_ hnew_; (first | rw [← Ny101.out] at ho9 | (simp only [Int.reduceToNat] at ho9; rw [← Ny101.out] at ho9)); have HO103 := Aside0.mk (Kd.R_lower ho9 (below_size zB)); replace HB := zX hb; clear hb ho9; have hcv10 := own_string (P := Tryd.prog) Tryd.underlying41 Tryd.underlying5 Tryd.underlying9 (Kd.own_of_R HO103.out)))
   go_roundg k1
   case measure => have := HK1.out; omega
   case rel => exact ⟨(wrap64 (Int.tdiv x0_1 10)), ((strOfNums y101) ++ x4_1), zF, zF, H', ⟨by have := HK1.out; omega⟩, ⟨zB⟩⟩
  rw [if_neg c7] at H
  exact absurd H (by simp)
 rw [if_neg c6] at H
 have c6b0 := decide_eq_false c6
 clear c6
 obtain ⟨y104, hy104⟩ : ∃ y_ : List Int, y_ = (([(wrap64 (48 + (Int.tmod x0_1 10))) % 256] : List Int)) := ⟨_, rfl⟩
 replace H : (if (strOfNums y104).size + x4_1.size ≤ 9223372036854775807 then (spec_FormatInt.l0 k1 (wrap64 (Int.tdiv x0_1 10)) (decide (a0 < 0)) ((strOfNums y104) ++ x4_1)) else (none)) = some r := by first | (rw [hy104]; with_reducible exact H) | (have H2_ := (Option.bind_some _ _).symm.trans H; rw [hy104]; with_reducible exact H2_) | (have H2_ := (Option.bind_some _ _).symm.trans H; with_reducible exact H2_) | with_reducible exact H | (rw [hy104]; exact H) | exact H
 have Ny104 := Aside0.mk hy104
 clear hy104
 by_cases c11 : (strOfNums y104).size + x4_1.size ≤ 9223372036854775807
 ·rw [if_pos c11] at H
  have c11b0 := eq_true c11
  have c11b1 := decide_eq_true c11
  try have c11b2 : (9223372036854775807 < (strOfNums y104).size + x4_1.size) = False := eq_false (Nat.not_lt.2 c11)
  have H' := Aside0.mk H; clear H
  go_wp2_with (first | ((with_reducible refine gate_dst (N := 21) rfl ?_); refine Kd.R_lit (Kd.int .u8) _ 5 ?hg (N := 21) ?hd (xs := ([(wrap64 (48 + (Int.tmod x0_1 10))) % 256] : List Int)) (inner := [.int .u8 ((wrap64 (48 + (Int.tmod x0_1 10))) % 256)]) (ok := fun _ => True) (okp := fun _ => True) ?hr ?hp (fun _ hk => hk) trivial (Below.refl _ _) (Nat.le_refl _) (by simp) ?_; (case hd => rfl); (case hg => rfl); (case hr => first | (go_simp; done) | (go_simp; rfl)); (case hp => exact (Reps.one (show Kd.M (Kd.int .u8) _ _ _ ((wrap64 (48 + (Int.tmod x0_1 10))) % 256) [.int .u8 ((wrap64 (48 + (Int.tmod x0_1 10))) % 256)] from rfl) (Reps.none _ _))); intro v105 w12 ho13 hb hg_ hnew_; clear hg_ hnew_; (first | rw [← Ny104.out] at ho13 | (simp only [Int.reduceToNat] at ho13; rw [← Ny104.out] at ho13)); have HO106 := Aside0.mk (Kd.R_lower ho13 (below_size zB)); replace HB := zX hb; clear hb ho13; have hcv14 := own_string (P := Tryd.prog) Tryd.underlying41 Tryd.underlying5 Tryd.underlying9 (Kd.own_of_R HO106.out)))
  go_roundg k1
  case measure => have := HK1.out; omega
  case rel => exact ⟨(wrap64 (Int.tdiv x0_1 10)), ((strOfNums y104) ++ x4_1), zF, zF, H', ⟨by have := HK1.out; omega⟩, ⟨zB⟩⟩
 rw [if_neg c11] at H
 exact absurd H (by simp)
/-! ### spec_l1Read: function 45 -/
mutual
def spec_l1Read.j0 : Nat → ByteArray → Int → Bool → Option (Int × Bool)
 | 0, _, _, _ => none
 | k + 1, x0, x1, x6 => if x6 = true then (if 1 ≤ (x0.size : Int) then (spec_l1Read.j1 k x0 x1 x6 (x0.extract 1 x0.size)) else (none)) else (spec_l1Read.j1 k x0 x1 x6 x0)
def spec_l1Read.j1 : Nat → ByteArray → Int → Bool → ByteArray → Option (Int × Bool)
 | 0, _, _, _, _ => none
 | k + 1, x0, x1, x6, x7 => if (x7.size : Int) < 1 then (spec_l1Read.j2 k x0 x6 x7 true) else (spec_l1Read.j2 k x0 x6 x7 (decide ((x7.size : Int) > x1)))
def spec_l1Read.j2 : Nat → ByteArray → Bool → ByteArray → Bool → Option (Int × Bool)
 | 0, _, _, _, _ => none
 | k + 1, x0, x6, x7, x30 => if x30 = true then (some (0, false)) else (spec_l1Read.l0 k x0 x6 x7 0 0)
def spec_l1Read.l0 : Nat → ByteArray → Bool → ByteArray → Int → Int → Option (Int × Bool)
 | 0, _, _, _, _, _ => none
 | k + 1, x0, x6, x7, x8, x9 => if x9 < (x7.size : Int) then (if 0 ≤ x9 then (if (bt x7 x9) < 48 then (some (0, false)) else (if (bt x7 x9) > 57 then (some (0, false)) else (spec_l1Read.l0 k x0 x6 x7 (wrap64 ((wrap64 (10 * x8)) + (((bt x7 x9) - 48) % 256))) (wrap64 (x9 + 1))))) else (none)) else (if x6 = true then ((spec_FormatInt.f k (wrap64 (-x8))).bind fun t254 => (if t254.toList = x0.toList then (some (wrap64 (-x8), true)) else (some (0, false)))) else ((spec_FormatInt.f k x8).bind fun t255 => (if t255.toList = x0.toList then (some (x8, true)) else (some (0, false)))))
end
def spec_l1Read.f (k : Nat) (a0 : ByteArray) (a1 : Int) : Option (Int × Bool) := if (a0.size : Int) > 0 then (if 0 < (a0.size : Int) then (spec_l1Read.j0 k a0 a1 ((bt a0 0) == 45)) else (none)) else (spec_l1Read.j0 k a0 a1 false)
set_option maxHeartbeats 8000000 in
set_option maxRecDepth 100000 in
theorem spec_l1Read.calls (k : Nat) (a0 : ByteArray) (a1 : Int) (r1 : Int) (r2 : Bool) (w : World) (h : spec_l1Read.f k a0 a1 = some (r1, r2)) :
  Calls Tryd.prog 45 #[.string a0, .int .i64 a1] w fun e w' => e = .returned (.tuple #[.int .i64 r1, .bool r2]) ∧ Below w.heap.size w w' := by
 have HB := Aside0.mk (Below.refl w.heap.size w)
 have H : (if (a0.size : Int) > 0 then (if 0 < (a0.size : Int) then (spec_l1Read.j0 k a0 a1 ((bt a0 0) == 45)) else (none)) else (spec_l1Read.j0 k a0 a1 false)) = some (r1, r2) := h
 clear h
 have HC3 := Aside0.mk H
 clear H
 go_enter Tryd.func45, Tryd.ntmps45
 go_upto_region 1 with (fail)
 go_cut [6] (fun v6 wc => ∃ (kq : Nat) (x6_2 : Bool), v6 = .bool x6_2 ∧ Aside0 (spec_l1Read.j0 kq a0 a1 x6_2 = some (r1, r2)) ∧ Aside0 (kq ≤ k) ∧ Aside0 (Below w.heap.size w wc))
 case first =>
  have H := HC3.out
  clear HC3
  by_cases c4 : (a0.size : Int) > 0
  ·rw [if_pos c4] at H
   have c4b0 : decide (0 < (a0.size : Int)) = true := decide_eq_true c4
   have c4b1 : decide (0 < a0.size) = true := decide_eq_true (by omega)
   clear c4
   (first | rw [c4b0] | (simp only [i64_w, i32_w]; rw [c4b0]) | skip)
   by_cases c5 : 0 < (a0.size : Int)
   ·rw [if_pos c5] at H
    have c5b0 := decide_eq_true c5
    have c5b1 : decide (0 < a0.size) = true := decide_eq_true (by omega)
    clear c5
    have H' := Aside0.mk H; clear H
    have p6 : 0 ≤ (0 : Int) := (by omega)
    have q6 : 0 < a0.size := (by have : (0 : Int) < (a0.size : Int) := zA; omega)
    have hx6 : ∀ h : 0 < a0.size, ((a0[0]'h).toNat : Int) = bt a0 0 := bt_at a0 0
    clear p6
    have qi6 : (0 < (a0.size : Int)) = True := eq_true (zA)
    replace q6 := eq_true q6
    go_wp2
    go_meet
    case rel => exact ⟨_, (((bt a0 0) == 45)), zF, H', ⟨by first | omega | exact Nat.le_refl _⟩, ⟨zB⟩⟩
   rw [if_neg c5] at H
   exact absurd H (by simp)
  rw [if_neg c4] at H
  have c4b0 : decide (0 < (a0.size : Int)) = false := decide_eq_false c4
  have c4b1 : decide (0 < a0.size) = false := decide_eq_false (by omega)
  clear c4
  (first | rw [c4b0] | (simp only [i64_w, i32_w]; rw [c4b0]) | skip)
  have H' := Aside0.mk H; clear H
  go_wp2
  go_meet
  case rel => exact ⟨_, (false), zF, H', ⟨by first | omega | exact Nat.le_refl _⟩, ⟨zB⟩⟩
 case rest =>
 clear HC3
 obtain ⟨kq, x6_2, rfl, HA, HJ2, HB⟩ := hcut
 cases kq with
 | zero => exact absurd HA.out (by simp [spec_l1Read.j0])
 | succ kj2 =>
 have H := HA.out
 clear HA
 simp only [spec_l1Read.j0] at H
 have HC7 := Aside0.mk H
 clear H
 go_upto_if 19 with (fail)
 go_cut [7] (fun v7 wc => ∃ (kq : Nat) (x7_6 : ByteArray), v7 = .string x7_6 ∧ Aside0 (spec_l1Read.j1 kq a0 a1 x6_2 x7_6 = some (r1, r2)) ∧ Aside0 (kq ≤ kj2) ∧ Aside0 (Below w.heap.size w wc))
 case first =>
  have H := HC7.out
  clear HC7
  by_cases c8 : x6_2 = true
  ·subst c8
   replace H := (if_pos rfl).symm.trans H
   by_cases c9 : 1 ≤ (a0.size : Int)
   ·rw [if_pos c9] at H
    have c9b0 := eq_true c9
    have c9b1 := decide_eq_true c9
    clear c9
    have H' := Aside0.mk H; clear H
    go_wp2
    go_meet
    case rel => exact ⟨_, (a0.extract 1 a0.size), zF, H', ⟨by have := HJ2.out; first | omega | exact Nat.le_refl _⟩, ⟨zB⟩⟩
   rw [if_neg c9] at H
   exact absurd H (by simp)
  replace c8 := Bool.eq_false_iff.mpr c8
  subst c8
  replace H := (if_neg zFf).symm.trans H
  have H' := Aside0.mk H; clear H
  go_wp2
  go_meet
  case rel => exact ⟨_, (a0), zF, H', ⟨by have := HJ2.out; first | omega | exact Nat.le_refl _⟩, ⟨zB⟩⟩
 case rest =>
 clear HC7
 obtain ⟨kq, x7_6, rfl, HA, HJ6, HB⟩ := hcut
 cases kq with
 | zero => exact absurd HA.out (by simp [spec_l1Read.j1])
 | succ kj6 =>
 have H := HA.out
 clear HA
 simp only [spec_l1Read.j1] at H
 have HC10 := Aside0.mk H
 clear H
 go_upto_region 5 with (fail)
 go_cut [30] (fun v30 wc => ∃ (kq : Nat) (x30_9 : Bool), v30 = .bool x30_9 ∧ Aside0 (spec_l1Read.j2 kq a0 x6_2 x7_6 x30_9 = some (r1, r2)) ∧ Aside0 (kq ≤ kj6) ∧ Aside0 (Below w.heap.size w wc))
 case first =>
  have H := HC10.out
  clear HC10
  by_cases c11 : (x7_6.size : Int) < 1
  ·rw [if_pos c11] at H
   have c11b0 := decide_eq_true c11
   have c11b1 : decide (x7_6.size < 1) = true := decide_eq_true (by omega)
   clear c11
   (first | rw [c11b0] | (simp only [i64_w, i32_w]; rw [c11b0]) | skip)
   have H' := Aside0.mk H; clear H
   go_wp2
   go_meet
   case rel => exact ⟨_, (true), zF, H', ⟨by have := HJ2.out; have := HJ6.out; first | omega | exact Nat.le_refl _⟩, ⟨zB⟩⟩
  rw [if_neg c11] at H
  have c11b0 := decide_eq_false c11
  have c11b1 : decide (x7_6.size < 1) = false := decide_eq_false (by omega)
  clear c11
  (first | rw [c11b0] | (simp only [i64_w, i32_w]; rw [c11b0]) | skip)
  have H' := Aside0.mk H; clear H
  go_wp2
  go_meet
  case rel => exact ⟨_, (decide ((x7_6.size : Int) > a1)), zF, H', ⟨by have := HJ2.out; have := HJ6.out; first | omega | exact Nat.le_refl _⟩, ⟨zB⟩⟩
 case rest =>
 clear HC10
 obtain ⟨kq, x30_9, rfl, HA, HJ9, HB⟩ := hcut
 cases kq with
 | zero => exact absurd HA.out (by simp [spec_l1Read.j2])
 | succ kj9 =>
 have H := HA.out
 clear HA
 simp only [spec_l1Read.j2] at H
 by_cases c12 : x30_9 = true
 ·subst c12
  replace H := (if_pos rfl).symm.trans H
  simp only [Option.some.injEq, Prod.mk.injEq] at H
  obtain ⟨rfl, rfl⟩ := H
  go_wp2
  go_ret2
  exact ⟨zE, zB⟩
 replace c12 := Bool.eq_false_iff.mpr c12
 subst c12
 replace H := (if_neg zFf).symm.trans H
 have H' := Aside0.mk H; clear H
 go_wp2
 go_loopg [8, 9] kj9 (fun kq v8 v9 w' => ∃ (x8_4 : Int) (x9_4 : Int), v8 = .int .i64 x8_4 ∧ v9 = .int .i64 x9_4 ∧ Aside0 (spec_l1Read.l0 kq a0 x6_2 x7_6 x8_4 x9_4 = some (r1, r2)) ∧ Aside0 (kq ≤ kj9) ∧ Aside0 (Below w.heap.size w w'))
 case atStart => exact ⟨(0), (0), zF, zF, H', ⟨Nat.le_refl _⟩, ⟨zB⟩⟩
 case round =>
 clear H'
 try clear c12
 obtain ⟨x8_4, x9_4, rfl, rfl, HA, HK4, HB⟩ := hrel
 cases gk with
 | zero => exact absurd HA.out (by simp [spec_l1Read.l0])
 | succ k4 =>
 have H := HA.out
 clear HA
 simp only [spec_l1Read.l0] at H
 by_cases c13 : x9_4 < (x7_6.size : Int)
 ·rw [if_pos c13] at H
  have c13b0 := decide_eq_true c13
  clear c13
  by_cases c14 : 0 ≤ x9_4
  ·rw [if_pos c14] at H
   have c14b0 := decide_eq_true c14
   clear c14
   by_cases c16 : (bt x7_6 x9_4) < 48
   ·rw [if_pos c16] at H
    have c16b0 := decide_eq_true c16
    clear c16
    simp only [Option.some.injEq, Prod.mk.injEq] at H
    obtain ⟨rfl, rfl⟩ := H
    have p15 : 0 ≤ (x9_4 : Int) := zA
    have q15 : x9_4 < (x7_6.size : Int) := zA
    have hx15 := bt_at x7_6 x9_4
    replace p15 := eq_true p15
    replace q15 := eq_true q15
    go_wp2
    go_ret2
    exact ⟨zE, zB⟩
   rw [if_neg c16] at H
   have c16b0 := decide_eq_false c16
   clear c16
   by_cases c18 : (bt x7_6 x9_4) > 57
   ·rw [if_pos c18] at H
    have c18b0 : decide (57 < (bt x7_6 x9_4)) = true := decide_eq_true c18
    clear c18
    simp only [Option.some.injEq, Prod.mk.injEq] at H
    obtain ⟨rfl, rfl⟩ := H
    have p15 : 0 ≤ (x9_4 : Int) := zA
    have q15 : x9_4 < (x7_6.size : Int) := zA
    have hx15 := bt_at x7_6 x9_4
    replace p15 := eq_true p15
    replace q15 := eq_true q15
    have p17 : 0 ≤ (x9_4 : Int) := zA
    have q17 : x9_4 < (x7_6.size : Int) := zA
    have hx17 := bt_at x7_6 x9_4
    replace p17 := eq_true p17
    replace q17 := eq_true q17
    go_wp2
    go_ret2
    exact ⟨zE, zB⟩
   rw [if_neg c18] at H
   have c18b0 : decide (57 < (bt x7_6 x9_4)) = false := decide_eq_false c18
   clear c18
   have H' := Aside0.mk H; clear H
   have p15 : 0 ≤ (x9_4 : Int) := zA
   have q15 : x9_4 < (x7_6.size : Int) := zA
   have hx15 := bt_at x7_6 x9_4
   replace p15 := eq_true p15
   replace q15 := eq_true q15
   have p17 : 0 ≤ (x9_4 : Int) := zA
   have q17 : x9_4 < (x7_6.size : Int) := zA
   have hx17 := bt_at x7_6 x9_4
   replace p17 := eq_true p17
   replace q17 := eq_true q17
   have p19 : 0 ≤ (x9_4 : Int) := zA
   have q19 : x9_4 < (x7_6.size : Int) := zA
   have hx19 := bt_at x7_6 x9_4
   replace p19 := eq_true p19
   replace q19 := eq_true q19
   go_wp2
   go_roundg k4
   case measure => have := HJ2.out; have := HJ6.out; have := HJ9.out; have := HK4.out; omega
   case rel => exact ⟨(wrap64 ((wrap64 (10 * x8_4)) + (((bt x7_6 x9_4) - 48) % 256))), (wrap64 (x9_4 + 1)), zF, zF, H', ⟨by have := HJ2.out; have := HJ6.out; have := HJ9.out; have := HK4.out; omega⟩, ⟨zB⟩⟩
  rw [if_neg c14] at H
  exact absurd H (by simp)
 rw [if_neg c13] at H
 have c13b0 := decide_eq_false c13
 clear c13
 by_cases c20 : x6_2 = true
 ·subst c20
  replace H := (if_pos rfl).symm.trans H
  obtain ⟨t254, A21, H⟩ := zO H
  by_cases c22 : t254.toList = a0.toList
  ·rw [if_pos c22] at H
   have c22b0 := beq_iff_eq.mpr c22
   have c22b1 := bne_eq_false_iff_eq.mpr c22
   clear c22
   simp only [Option.some.injEq, Prod.mk.injEq] at H
   obtain ⟨rfl, rfl⟩ := H
   go_wp2_with (first | ((with_reducible refine gate_callee (f := 11) rfl ?_); refine zD (some 59) Tryd.func11 #[.int .i64 (wrap64 (-x8_4))] ?_; (with_reducible refine (spec_FormatInt.calls k4 (wrap64 (-x8_4)) t254 _ A21.out).mono ?_); rintro e w23 ⟨rfl, hb⟩; refine ⟨_, rfl, ?_⟩; replace HB := zX hb; (try clear hb)))
   go_ret2
   exact ⟨zE, zB⟩
  rw [if_neg c22] at H
  have c22b0 := beq_eq_false_iff_ne.mpr c22
  have c22b1 := bne_iff_ne.mpr c22
  simp only [Option.some.injEq, Prod.mk.injEq] at H
  obtain ⟨rfl, rfl⟩ := H
  go_wp2_with (first | ((with_reducible refine gate_callee (f := 11) rfl ?_); refine zD (some 59) Tryd.func11 #[.int .i64 (wrap64 (-x8_4))] ?_; (with_reducible refine (spec_FormatInt.calls k4 (wrap64 (-x8_4)) t254 _ A21.out).mono ?_); rintro e w24 ⟨rfl, hb⟩; refine ⟨_, rfl, ?_⟩; replace HB := zX hb; (try clear hb)))
  go_ret2
  exact ⟨zE, zB⟩
 replace c20 := Bool.eq_false_iff.mpr c20
 subst c20
 replace H := (if_neg zFf).symm.trans H
 obtain ⟨t255, A25, H⟩ := zO H
 by_cases c26 : t255.toList = a0.toList
 ·rw [if_pos c26] at H
  have c26b0 := beq_iff_eq.mpr c26
  have c26b1 := bne_eq_false_iff_eq.mpr c26
  clear c26
  simp only [Option.some.injEq, Prod.mk.injEq] at H
  obtain ⟨rfl, rfl⟩ := H
  go_wp2_with (first | ((with_reducible refine gate_callee (f := 11) rfl ?_); refine zD (some 59) Tryd.func11 #[.int .i64 x8_4] ?_; (with_reducible refine (spec_FormatInt.calls k4 x8_4 t255 _ A25.out).mono ?_); rintro e w27 ⟨rfl, hb⟩; refine ⟨_, rfl, ?_⟩; replace HB := zX hb; (try clear hb)))
  go_ret2
  exact ⟨zE, zB⟩
 rw [if_neg c26] at H
 have c26b0 := beq_eq_false_iff_ne.mpr c26
 have c26b1 := bne_iff_ne.mpr c26
 simp only [Option.some.injEq, Prod.mk.injEq] at H
 obtain ⟨rfl, rfl⟩ := H
 go_wp2_with (first | ((with_reducible refine gate_callee (f := 11) rfl ?_); refine zD (some 59) Tryd.func11 #[.int .i64 x8_4] ?_; (with_reducible refine (spec_FormatInt.calls k4 x8_4 t255 _ A25.out).mono ?_); rintro e w28 ⟨rfl, hb⟩; refine ⟨_, rfl, ?_⟩; replace HB := zX hb; (try clear hb)))
 go_ret2
 exact ⟨zE, zB⟩
/-! ### spec_ParseInt: function 22 -/
def spec_ParseInt.f (k : Nat) (a0 : ByteArray) : Option (Int × Bool) := (spec_l1Read.f k a0 12).bind fun bt256 => (some (bt256.1, bt256.2))
set_option maxHeartbeats 8000000 in
set_option maxRecDepth 100000 in
theorem spec_ParseInt.calls (k : Nat) (a0 : ByteArray) (r1 : Int) (r2 : Bool) (w : World) (h : spec_ParseInt.f k a0 = some (r1, r2)) :
  Calls Tryd.prog 22 #[.string a0] w fun e w' => e = .returned (.tuple #[.int .i64 r1, .bool r2]) ∧ Below w.heap.size w w' := by
 have HB := Aside0.mk (Below.refl w.heap.size w)
 have H : ((spec_l1Read.f k a0 12).bind fun bt256 => (some (bt256.1, bt256.2))) = some (r1, r2) := h
 clear h
 obtain ⟨⟨t256, t257⟩, A2, H⟩ := zO H
 replace H : (some (t256, t257)) = some (r1, r2) := H
 simp only [Option.some.injEq, Prod.mk.injEq] at H
 obtain ⟨rfl, rfl⟩ := H
 go_enter Tryd.func22, Tryd.ntmps22
 go_wp2_with (first | ((with_reducible refine gate_callee (f := 45) rfl ?_); refine zD (some 5) Tryd.func45 #[.string a0, .int .i64 12] ?_; (with_reducible refine (spec_l1Read.calls k a0 12 t256 t257 _ A2.out).mono ?_); rintro e w3 ⟨rfl, hb⟩; refine ⟨_, rfl, ?_⟩; replace HB := zX hb; (try clear hb)))
 go_ret2
 exact ⟨zE, zB⟩
/-! ### spec_SplitByte: function 51 -/
def spec_SplitByte.l0 : Nat → ByteArray → Int → List ByteArray → Int → Int → Option (List ByteArray)
 | 0, _, _, _, _, _ => none
 | k + 1, x0, x1, x5, x6, x7 => if x7 ≤ (x0.size : Int) then (if x7 = (x0.size : Int) then (if 0 ≤ x6 then (if x6 ≤ x7 then (if x5.length < 8796093022208 then (spec_SplitByte.l0 k x0 x1 (x5 ++ [x0.extract (x6 : Int).toNat (x7 : Int).toNat]) (wrap64 (x7 + 1)) (wrap64 (x7 + 1))) else (none)) else (none)) else (none)) else (if 0 ≤ x7 then (if x7 < (x0.size : Int) then (if (bt x0 x7) = x1 then (if 0 ≤ x6 then (if x6 ≤ x7 then (if x5.length < 8796093022208 then (spec_SplitByte.l0 k x0 x1 (x5 ++ [x0.extract (x6 : Int).toNat (x7 : Int).toNat]) (wrap64 (x7 + 1)) (wrap64 (x7 + 1))) else (none)) else (none)) else (none)) else (spec_SplitByte.l0 k x0 x1 x5 x6 (wrap64 (x7 + 1)))) else (none)) else (none))) else (some x5)
def spec_SplitByte.f (k : Nat) (a0 : ByteArray) (a1 : Int) : Option (List ByteArray) := spec_SplitByte.l0 k a0 a1 (([] : List ByteArray)) 0 0
set_option maxHeartbeats 8000000 in
set_option maxRecDepth 100000 in
theorem spec_SplitByte.calls (k : Nat) (a0 : ByteArray) (a1 : Int) (r : List ByteArray) (w : World) (h : spec_SplitByte.f k a0 a1 = some r) :
  Calls Tryd.prog 51 #[.string a0, .int .u8 a1] w fun e w' => ∃ v0_ : Value, e = .returned (v0_) ∧ Kd.R Kd.string 9 w' w.heap.size (fun _ => True) v0_ r ∧ Below w.heap.size w w' := by
 have HB := Aside0.mk (Below.refl w.heap.size w)
 have H : (spec_SplitByte.l0 k a0 a1 (([] : List ByteArray)) 0 0) = some r := h
 clear h
 obtain ⟨y368, hy368⟩ : ∃ y_ : List ByteArray, y_ = (([] : List ByteArray)) := ⟨_, rfl⟩
 replace H : (spec_SplitByte.l0 k a0 a1 y368 0 0) = some r := by first | (rw [hy368]; with_reducible exact H) | (have H2_ := (Option.bind_some _ _).symm.trans H; rw [hy368]; with_reducible exact H2_) | (have H2_ := (Option.bind_some _ _).symm.trans H; with_reducible exact H2_) | with_reducible exact H | (rw [hy368]; exact H) | exact H
 have Ny368 := Aside0.mk hy368
 clear hy368
 have H' := Aside0.mk H; clear H
 go_enter Tryd.func51, Tryd.ntmps51
 go_wp2_with (first | ((with_reducible refine gate_dst (N := 8) rfl ?_); refine Kd.R_lit Kd.string _ 9 ?hg (N := 8) ?hd (xs := ([] : List ByteArray)) (inner := []) (ok := fun _ => True) (okp := fun _ => True) ?hr ?hp (fun _ hk => hk) trivial (Below.refl _ _) (Nat.le_refl _) (by simp) ?_; (case hd => rfl); (case hg => rfl); (case hr => first | (go_simp; done) | (go_simp; rfl)); (case hp => exact (Reps.none _ _)); intro v369 w3 ho4 hb hg_ hnew_; clear hg_ hnew_; (first | rw [← Ny368.out] at ho4 | (simp only [Int.reduceToNat] at ho4; rw [← Ny368.out] at ho4)); have HO370 := Aside0.mk (Kd.R_lower ho4 (below_size zB)); replace HB := zX hb; clear hb ho4))
 go_loopg [5, 6, 7] k (fun kq v5 v6 v7 w' => ∃ (x5_1 : List ByteArray) (x6_1 : Int) (x7_1 : Int), v6 = .int .i64 x6_1 ∧ v7 = .int .i64 x7_1 ∧ Aside0 (spec_SplitByte.l0 kq a0 a1 x5_1 x6_1 x7_1 = some r) ∧ Aside0 (kq ≤ k) ∧ Aside0 (Kd.R Kd.string 9 w' w.heap.size (fun _ => True) v5 x5_1) ∧ Aside0 (Below w.heap.size w w'))
 case atStart => exact ⟨(y368), (0), (0), zF, zF, H', ⟨Nat.le_refl _⟩, ⟨zR HO370.out⟩, ⟨zB⟩⟩
 case round =>
 clear H'
 obtain ⟨x5_1, x6_1, x7_1, rfl, rfl, HA, HK1, HO_5, HB⟩ := hrel
 cases gk with
 | zero => exact absurd HA.out (by simp [spec_SplitByte.l0])
 | succ k1 =>
 have H := HA.out
 clear HA
 simp only [spec_SplitByte.l0] at H
 by_cases c5 : x7_1 ≤ (a0.size : Int)
 ·rw [if_pos c5] at H
  have c5b0 := decide_eq_true c5
  clear c5
  by_cases c6 : x7_1 = (a0.size : Int)
  ·rw [if_pos c6] at H
   have c6b0 := beq_iff_eq.mpr c6
   have c6b1 := bne_eq_false_iff_eq.mpr c6
   clear c6
   by_cases c7 : 0 ≤ x6_1
   ·rw [if_pos c7] at H
    have c7b0 := eq_true c7
    have c7b1 := decide_eq_true c7
    clear c7
    by_cases c8 : x6_1 ≤ x7_1
    ·rw [if_pos c8] at H
     have c8b0 := eq_true c8
     have c8b1 := decide_eq_true c8
     clear c8
     have c9b0 := eq_true (zA : x7_1 ≤ (a0.size : Int))
     by_cases c10 : x5_1.length < 8796093022208
     ·rw [if_pos c10] at H
      have LMc10 := Aside0.mk c10
      clear c10
      obtain ⟨y371, hy371⟩ : ∃ y_ : List ByteArray, y_ = (x5_1 ++ [a0.extract (x6_1 : Int).toNat (x7_1 : Int).toNat]) := ⟨_, rfl⟩
      replace H : (spec_SplitByte.l0 k1 a0 a1 y371 (wrap64 (x7_1 + 1)) (wrap64 (x7_1 + 1))) = some r := by first | (rw [hy371]; with_reducible exact H) | (have H2_ := (Option.bind_some _ _).symm.trans H; rw [hy371]; with_reducible exact H2_) | (have H2_ := (Option.bind_some _ _).symm.trans H; with_reducible exact H2_) | with_reducible exact H | (rw [hy371]; exact H) | exact H
      have Ny371 := Aside0.mk hy371
      clear hy371
      have H' := Aside0.mk H; clear H
      go_wp2_with (first | ((with_reducible refine gate_builtin (b := .append) (xs := #[.tmp 26, .tmp 31]) rfl ?_); at_builtin; refine Kd.R_append Kd.string (w0 := w) w.heap.size rfl (.tmp 26) (.tmp 31) 53 9 (.string ⟨#[]⟩) 16 rfl Tryd.underlying53 info9 rfl (by decide) (by omega) u5 x5_1 (a0.extract (x6_1 : Int).toNat (x7_1 : Int).toNat) [.string (a0.extract (x6_1 : Int).toNat (x7_1 : Int).toNat)] (fun _ => True) (fun _ => False) rfl rfl ?aP (fun _ hk => hk.elim) ?aF ?aO ?aB ?aS ?aL ?_; (case aP => exact rfl); (case aB => exact zB); (case aF => exact (fun _ _ => trivial)); (case aO => exact (zR HO_5.out)); (case aS => exact (below_size zB)); (case aL => have := LMc10.out; omega); intro v372 w11 ho hb hg hat; rw [← Ny371.out] at ho; have n0_ := Aside0.mk (hb); have n1_ := Aside0.mk (ho); clear HB; clear HO_5; have HB := n0_; have HO373 := n1_; clear n0_ n1_; clear ho hb hg hat))
      go_roundg k1
      case measure => have := HK1.out; omega
      case rel => exact ⟨(y371), (wrap64 (x7_1 + 1)), (wrap64 (x7_1 + 1)), zF, zF, H', ⟨by have := HK1.out; omega⟩, ⟨zR HO373.out⟩, ⟨zB⟩⟩
     rw [if_neg c10] at H
     exact absurd H (by simp)
    rw [if_neg c8] at H
    exact absurd H (by simp)
   rw [if_neg c7] at H
   exact absurd H (by simp)
  rw [if_neg c6] at H
  have c6b0 := beq_eq_false_iff_ne.mpr c6
  have c6b1 := bne_iff_ne.mpr c6
  by_cases c12 : 0 ≤ x7_1
  ·rw [if_pos c12] at H
   have c12b0 := decide_eq_true c12
   clear c12
   by_cases c13 : x7_1 < (a0.size : Int)
   ·rw [if_pos c13] at H
    have c13b0 := decide_eq_true c13
    clear c13
    by_cases c15 : (bt a0 x7_1) = a1
    ·rw [if_pos c15] at H
     have c15b0 := beq_iff_eq.mpr c15
     have c15b1 := bne_eq_false_iff_eq.mpr c15
     clear c15
     by_cases c16 : 0 ≤ x6_1
     ·rw [if_pos c16] at H
      have c16b0 := eq_true c16
      have c16b1 := decide_eq_true c16
      clear c16
      by_cases c17 : x6_1 ≤ x7_1
      ·rw [if_pos c17] at H
       have c17b0 := eq_true c17
       have c17b1 := decide_eq_true c17
       clear c17
       have c18b0 := eq_true (zA : x7_1 ≤ (a0.size : Int))
       by_cases c19 : x5_1.length < 8796093022208
       ·rw [if_pos c19] at H
        have LMc19 := Aside0.mk c19
        clear c19
        obtain ⟨y374, hy374⟩ : ∃ y_ : List ByteArray, y_ = (x5_1 ++ [a0.extract (x6_1 : Int).toNat (x7_1 : Int).toNat]) := ⟨_, rfl⟩
        replace H : (spec_SplitByte.l0 k1 a0 a1 y374 (wrap64 (x7_1 + 1)) (wrap64 (x7_1 + 1))) = some r := by first | (rw [hy374]; with_reducible exact H) | (have H2_ := (Option.bind_some _ _).symm.trans H; rw [hy374]; with_reducible exact H2_) | (have H2_ := (Option.bind_some _ _).symm.trans H; with_reducible exact H2_) | with_reducible exact H | (rw [hy374]; exact H) | exact H
        have Ny374 := Aside0.mk hy374
        clear hy374
        have H' := Aside0.mk H; clear H
        have p14 : 0 ≤ (x7_1 : Int) := zA
        have q14 : x7_1 < (a0.size : Int) := zA
        have hx14 := bt_at a0 x7_1
        replace p14 := eq_true p14
        replace q14 := eq_true q14
        go_wp2_with (first | ((with_reducible refine gate_builtin (b := .append) (xs := #[.tmp 26, .tmp 31]) rfl ?_); at_builtin; refine Kd.R_append Kd.string (w0 := w) w.heap.size rfl (.tmp 26) (.tmp 31) 53 9 (.string ⟨#[]⟩) 16 rfl Tryd.underlying53 info9 rfl (by decide) (by omega) u5 x5_1 (a0.extract (x6_1 : Int).toNat (x7_1 : Int).toNat) [.string (a0.extract (x6_1 : Int).toNat (x7_1 : Int).toNat)] (fun _ => True) (fun _ => False) rfl rfl ?aP (fun _ hk => hk.elim) ?aF ?aO ?aB ?aS ?aL ?_; (case aP => exact rfl); (case aB => exact zB); (case aF => exact (fun _ _ => trivial)); (case aO => exact (zR HO_5.out)); (case aS => exact (below_size zB)); (case aL => have := LMc19.out; omega); intro v375 w20 ho hb hg hat; rw [← Ny374.out] at ho; have n0_ := Aside0.mk (hb); have n1_ := Aside0.mk (ho); clear HB; clear HO_5; have HB := n0_; have HO376 := n1_; clear n0_ n1_; clear ho hb hg hat))
        go_roundg k1
        case measure => have := HK1.out; omega
        case rel => exact ⟨(y374), (wrap64 (x7_1 + 1)), (wrap64 (x7_1 + 1)), zF, zF, H', ⟨by have := HK1.out; omega⟩, ⟨zR HO376.out⟩, ⟨zB⟩⟩
       rw [if_neg c19] at H
       exact absurd H (by simp)
      rw [if_neg c17] at H
      exact absurd H (by simp)
     rw [if_neg c16] at H
     exact absurd H (by simp)
    rw [if_neg c15] at H
    have c15b0 := beq_eq_false_iff_ne.mpr c15
    have c15b1 := bne_iff_ne.mpr c15
    have H' := Aside0.mk H; clear H
    have p14 : 0 ≤ (x7_1 : Int) := zA
    have q14 : x7_1 < (a0.size : Int) := zA
    have hx14 := bt_at a0 x7_1
    replace p14 := eq_true p14
    replace q14 := eq_true q14
    go_wp2
    go_roundg k1
    case measure => have := HK1.out; omega
    case rel => exact ⟨(x5_1), (x6_1), (wrap64 (x7_1 + 1)), zF, zF, H', ⟨by have := HK1.out; omega⟩, ⟨zR HO_5.out⟩, ⟨zB⟩⟩
   rw [if_neg c13] at H
   exact absurd H (by simp)
  rw [if_neg c12] at H
  exact absurd H (by simp)
 rw [if_neg c5] at H
 have c5b0 := decide_eq_false c5
 clear c5
 obtain rfl := Option.some.inj H
 go_wp2
 go_ret
 exact ⟨_, zE, zR HO_5.out, zB⟩
/-! ### spec_ParsePoints: function 32 -/
def spec_ParsePoints.l0 : Nat → List (S55) → List ByteArray → Int → Option ((List (S55)) × Bool)
 | 0, _, _, _ => none
 | k + 1, x4, x5, x6 => if x6 < (x5.length : Int) then (if 0 ≤ x6 then ((spec_SplitByte.f k (rdOf ByteArray.empty x5 x6) 44).bind fun t425 => (if (t425.length : Int) = 2 then (if 0 < (t425.length : Int) then ((spec_ParseInt.f k (rdOf ByteArray.empty t425 0)).bind fun bt432 => (if 1 < (t425.length : Int) then ((spec_ParseInt.f k (rdOf ByteArray.empty t425 1)).bind fun bt435 => (if bt432.2 = true then (if bt435.2 = true then (if x4.length < 8796093022208 then (spec_ParsePoints.l0 k (x4 ++ [(⟨bt432.1, bt435.1⟩ : S55)]) x5 (wrap64 (x6 + 1))) else (none)) else (some ((([] : List (S55))), false))) else (some ((([] : List (S55))), false)))) else (none))) else (none)) else (some ((([] : List (S55))), false)))) else (none)) else ((spec_ArePoints.f k x4).bind fun t420 => (if t420 = true then (some (x4, true)) else (some ((([] : List (S55))), false))))
def spec_ParsePoints.f (k : Nat) (a0 : ByteArray) : Option ((List (S55)) × Bool) := (spec_SplitByte.f k a0 32).bind fun t417 => (spec_ParsePoints.l0 k (([] : List (S55))) t417 0)
set_option maxHeartbeats 8000000 in
set_option maxRecDepth 100000 in
theorem spec_ParsePoints.calls (k : Nat) (a0 : ByteArray) (r1 : List (S55)) (r2 : Bool) (w : World) (h : spec_ParsePoints.f k a0 = some (r1, r2)) :
  Calls Tryd.prog 32 #[.string a0] w fun e w' => ∃ v0_ : Value, e = .returned (.tuple #[v0_, .bool r2]) ∧ Kd.R k55 55 w' w.heap.size (fun _ => True) v0_ r1 ∧ Below w.heap.size w w' := by
 have hu55 := Tryd.underlying55
 have HB := Aside0.mk (Below.refl w.heap.size w)
 have H : ((spec_SplitByte.f k a0 32).bind fun t417 => (spec_ParsePoints.l0 k (([] : List (S55))) t417 0)) = some (r1, r2) := h
 clear h
 obtain ⟨y414, hy414⟩ : ∃ y_ : List (S55), y_ = (([] : List (S55))) := ⟨_, rfl⟩
 replace H : ((spec_SplitByte.f k a0 32).bind fun t417 => (spec_ParsePoints.l0 k y414 t417 0)) = some (r1, r2) := by first | (rw [hy414]; with_reducible exact H) | (have H2_ := (Option.bind_some _ _).symm.trans H; rw [hy414]; with_reducible exact H2_) | (have H2_ := (Option.bind_some _ _).symm.trans H; with_reducible exact H2_) | with_reducible exact H | (rw [hy414]; exact H) | exact H
 have Ny414 := Aside0.mk hy414
 clear hy414
 obtain ⟨t417, A2, H⟩ := zO H
 have H' := Aside0.mk H; clear H
 go_enter Tryd.func32, Tryd.ntmps32
 go_wp2_with (first | ((with_reducible refine gate_dst (N := 12) rfl ?_); refine Kd.R_lit k55 _ 55 ?hg (N := 12) ?hd (xs := ([] : List (S55))) (inner := []) (ok := fun _ => True) (okp := fun _ => True) ?hr ?hp (fun _ hk => hk) trivial (Below.refl _ _) (Nat.le_refl _) (by simp) ?_; (case hd => rfl); (case hg => rfl); (case hr => first | (go_simp; done) | (go_simp; rfl)); (case hp => exact (Reps.none _ _)); intro v415 w3 ho4 hb hg_ hnew_; clear hg_ hnew_; (first | rw [← Ny414.out] at ho4 | (simp only [Int.reduceToNat] at ho4; rw [← Ny414.out] at ho4)); have HO416 := Aside0.mk (Kd.R_lower ho4 (below_size zB)); replace HB := zX hb; clear hb ho4) | ((with_reducible refine gate_callee (f := 51) rfl ?_); refine zD (some 14) Tryd.func51 #[.string a0, .int .u8 32] ?_; (with_reducible refine (spec_SplitByte.calls k a0 32 t417 _ A2.out).mono ?_); rintro e w5 ⟨v418, rfl, ho0, hb⟩; refine ⟨_, rfl, ?_⟩; replace HO416 := zW HO416.out hb; have HO419 := Aside0.mk (Kd.R_lower ho0 (below_size zB)); replace HB := zX hb; (try clear hb); (try clear ho0)))
 go_loopg [4, 6] k (fun kq v4 v6 w' => ∃ (x4_1 : List (S55)) (x6_1 : Int), v6 = .int .i64 x6_1 ∧ Aside0 (spec_ParsePoints.l0 kq x4_1 t417 x6_1 = some (r1, r2)) ∧ Aside0 (kq ≤ k) ∧ Aside0 (Kd.R k55 55 w' w.heap.size (fun _ => True) v4 x4_1) ∧ Aside0 (Kd.R Kd.string 9 w' w.heap.size (fun _ => True) v418 t417) ∧ Aside0 (Below w.heap.size w w'))
 case atStart => exact ⟨(y414), (0), zF, H', ⟨Nat.le_refl _⟩, ⟨zR HO416.out⟩, ⟨zR HO419.out⟩, ⟨zB⟩⟩
 case round =>
 clear H'
 obtain ⟨x4_1, x6_1, rfl, HA, HK1, HO_4, HO_5, HB⟩ := hrel
 cases gk with
 | zero => exact absurd HA.out (by simp [spec_ParsePoints.l0])
 | succ k1 =>
 have H := HA.out
 clear HA
 simp only [spec_ParsePoints.l0] at H
 by_cases c6 : x6_1 < (t417.length : Int)
 ·rw [if_pos c6] at H
  have c6b0 := decide_eq_true c6
  clear c6
  by_cases c7 : 0 ≤ x6_1
  ·rw [if_pos c7] at H
   have c7b0 := decide_eq_true c7
   clear c7
   obtain ⟨t425, A8, H⟩ := zO H
   by_cases c9 : (t425.length : Int) = 2
   ·rw [if_pos c9] at H
    have c9b0 := beq_iff_eq.mpr c9
    have c9b1 := bne_eq_false_iff_eq.mpr c9
    clear c9
    by_cases c10 : 0 < (t425.length : Int)
    ·rw [if_pos c10] at H
     have c10b0 := decide_eq_true c10
     have c10b1 : decide (0 < t425.length) = true := decide_eq_true (by omega)
     clear c10
     obtain ⟨⟨t432, t433⟩, A11, H⟩ := zO H
     dsimp only at H
     by_cases c12 : 1 < (t425.length : Int)
     ·rw [if_pos c12] at H
      have c12b0 := decide_eq_true c12
      have c12b1 : decide (1 < t425.length) = true := decide_eq_true (by omega)
      clear c12
      obtain ⟨⟨t435, t436⟩, A13, H⟩ := zO H
      dsimp only at H
      by_cases c14 : t433 = true
      ·subst c14
       replace H := (if_pos rfl).symm.trans H
       by_cases c15 : t436 = true
       ·subst c15
        replace H := (if_pos rfl).symm.trans H
        by_cases c16 : x4_1.length < 8796093022208
        ·rw [if_pos c16] at H
         have LMc16 := Aside0.mk c16
         clear c16
         obtain ⟨y437, hy437⟩ : ∃ y_ : List (S55), y_ = (x4_1 ++ [(⟨t432, t435⟩ : S55)]) := ⟨_, rfl⟩
         replace H : (spec_ParsePoints.l0 k1 y437 t417 (wrap64 (x6_1 + 1))) = some (r1, r2) := by first | (rw [hy437]; with_reducible exact H) | (have H2_ := (Option.bind_some _ _).symm.trans H; rw [hy437]; with_reducible exact H2_) | (have H2_ := (Option.bind_some _ _).symm.trans H; with_reducible exact H2_) | with_reducible exact H | (rw [hy437]; exact H) | exact H
         have Ny437 := Aside0.mk hy437
         clear hy437
         have H' := Aside0.mk H; clear H
         obtain ⟨Ao17, co17, eo17⟩ := Kd.R_slice HO_5.out
         subst eo17
         have p424 : 0 ≤ (x6_1 : Int) := zA
         have q424 : x6_1 < (t417.length : Int) := zA
         obtain ⟨ad424, e424, hx424_0⟩ := Kd.at_string (Kd.R_reads' HO_5.out).2.2 x6_1 p424 q424
         cases e424
         replace p424 := eq_true p424
         replace q424 := eq_true q424
         go_wp2_with (first | ((with_reducible refine gate_callee (f := 51) rfl ?_); refine zD (some 25) Tryd.func51 #[.string (rdOf ByteArray.empty t417 x6_1), .int .u8 44] ?_; (with_reducible refine (spec_SplitByte.calls k1 (rdOf ByteArray.empty t417 x6_1) 44 t425 _ A8.out).mono ?_); rintro e w18 ⟨v426, rfl, ho0, hb⟩; refine ⟨_, rfl, ?_⟩; replace HO_4 := zW HO_4.out hb; have HO427 := Aside0.mk (Kd.R_lower (Kd.R_new' ho0 (Kd.R_lt (zR HO_5.out))) (below_size zB)); replace HO_5 := Aside0.mk (Kd.R_elder' (zR HO_5.out) (Kd.R_base ho0) hb); replace HB := zX hb; (try clear hb); (try clear ho0); obtain ⟨Ao19, co19, eo19⟩ := Kd.R_slice HO427.out; subst eo19; have p431 : 0 ≤ (0 : Int) := (by omega); have q431 : 0 < (t425.length : Int) := zA; obtain ⟨ad431, e431, hx431_0⟩ := Kd.at_string (Kd.R_reads' HO427.out).2.2 0 p431 q431; cases e431; have qi431 : (0 < t425.length) = True := eq_true (by omega); (try rw [show ((0 : Int)).toNat = 0 from rfl] at hx431_0); (try rw [Addr.add_zero'] at hx431_0); replace p431 := eq_true p431; replace q431 := eq_true q431) | ((with_reducible refine gate_callee (f := 22) rfl ?_); refine zD (some 34) Tryd.func22 #[.string (rdOf ByteArray.empty t425 0)] ?_; (with_reducible refine (spec_ParseInt.calls k1 (rdOf ByteArray.empty t425 0) t432 true _ A11.out).mono ?_); rintro e w20 ⟨rfl, hb⟩; refine ⟨_, rfl, ?_⟩; replace HO_4 := zW HO_4.out hb; replace HO_5 := zW HO_5.out hb; replace HO427 := zW HO427.out hb; replace HB := zX hb; (try clear hb); have p434 : 0 ≤ (1 : Int) := (by omega); have q434 : 1 < (t425.length : Int) := zA; obtain ⟨ad434, e434, hx434_0⟩ := Kd.at_string (Kd.R_reads' HO427.out).2.2 1 p434 q434; obtain rfl : ad431 = ad434 := (by injection e434); (try simp only [show (1 : Int).toNat = 1 from rfl, Nat.reduceMul, Nat.reduceEqDiff, Go.Addr.add, ↓reduceIte] at hx434_0); have qi434 : (1 < t425.length) = True := eq_true (by omega); (try rw [show ((1 : Int)).toNat = 1 from rfl] at hx434_0); replace p434 := eq_true p434; replace q434 := eq_true q434) | ((with_reducible refine gate_callee (f := 22) rfl ?_); refine zD (some 41) Tryd.func22 #[.string (rdOf ByteArray.empty t425 1)] ?_; (with_reducible refine (spec_ParseInt.calls k1 (rdOf ByteArray.empty t425 1) t435 true _ A13.out).mono ?_); rintro e w21 ⟨rfl, hb⟩; refine ⟨_, rfl, ?_⟩; replace HO_4 := zW HO_4.out hb; replace HO_5 := zW HO_5.out hb; replace HO427 := zW HO427.out hb; replace HB := zX hb; (try clear hb)) | ((with_reducible refine gate_builtin (b := .append) (xs := #[.tmp 51, .tmp 55]) rfl ?_); at_builtin; refine Kd.R_append k55 (w0 := w) w.heap.size rfl (.tmp 51) (.tmp 55) 34 55 (.agg #[(.int .i64 0), (.int .i64 0)]) 16 rfl Tryd.underlying34 info55 rfl (by decide) (by omega) u4 x4_1 (⟨t432, t435⟩ : S55) [.int .i64 t432, .int .i64 t435] (fun _ => True) (fun _ => False) rfl rfl ?aP (fun _ hk => hk.elim) ?aF ?aO ?aB ?aS ?aL ?_; (case aP => exact k55_mkM _ _ _ (⟨t432, t435⟩ : S55)); (case aB => exact zB); (case aF => exact (fun _ _ => trivial)); (case aO => exact (zR HO_4.out)); (case aS => exact (below_size zB)); (case aL => have := LMc16.out; omega); intro v438 w22 ho hb hg hat; rw [← Ny437.out] at ho; have n0_ := Aside0.mk (Kd.R_over' (zR HO_5.out) (Kd.R_typed (zR HO_4.out)) (by decide) hg); have n1_ := Aside0.mk (Kd.R_over' (zR HO427.out) (Kd.R_typed (zR HO_4.out)) (by decide) hg); have n2_ := Aside0.mk (hb); have n3_ := Aside0.mk (ho); clear HO_5; clear HO427; clear HB; clear HO_4; have HO_5 := n0_; have HO427 := n1_; have HB := n2_; have HO439 := n3_; clear n0_ n1_ n2_ n3_; clear ho hb hg hat))
         go_roundg k1
         case measure => have := HK1.out; omega
         case rel => exact ⟨(y437), (wrap64 (x6_1 + 1)), zF, H', ⟨by have := HK1.out; omega⟩, ⟨zR HO439.out⟩, ⟨by (with_reducible repeat (first | apply Kd.R_alloc | apply Kd.R_drewN | apply Kd.R_drew)); exact Kd.R_mono HO_5.out (fun _ hk => trivial)⟩, ⟨zB⟩⟩
        rw [if_neg c16] at H
        exact absurd H (by simp)
       replace c15 := Bool.eq_false_iff.mpr c15
       subst c15
       replace H := (if_neg zFf).symm.trans H
       obtain ⟨y440, hy440⟩ : ∃ y_ : List (S55), y_ = (([] : List (S55))) := ⟨_, rfl⟩
       replace H : (some (y440, false)) = some (r1, r2) := by first | (rw [hy440]; with_reducible exact H) | (have H2_ := (Option.bind_some _ _).symm.trans H; rw [hy440]; with_reducible exact H2_) | (have H2_ := (Option.bind_some _ _).symm.trans H; with_reducible exact H2_) | with_reducible exact H | (rw [hy440]; exact H) | exact H
       have Ny440 := Aside0.mk hy440
       clear hy440
       simp only [Option.some.injEq, Prod.mk.injEq] at H
       obtain ⟨rfl, rfl⟩ := H
       obtain ⟨Ao23, co23, eo23⟩ := Kd.R_slice HO_5.out
       subst eo23
       have p424 : 0 ≤ (x6_1 : Int) := zA
       have q424 : x6_1 < (t417.length : Int) := zA
       obtain ⟨ad424, e424, hx424_0⟩ := Kd.at_string (Kd.R_reads' HO_5.out).2.2 x6_1 p424 q424
       cases e424
       replace p424 := eq_true p424
       replace q424 := eq_true q424
       go_wp2_with (first | ((with_reducible refine gate_callee (f := 51) rfl ?_); refine zD (some 25) Tryd.func51 #[.string (rdOf ByteArray.empty t417 x6_1), .int .u8 44] ?_; (with_reducible refine (spec_SplitByte.calls k1 (rdOf ByteArray.empty t417 x6_1) 44 t425 _ A8.out).mono ?_); rintro e w24 ⟨v426, rfl, ho0, hb⟩; refine ⟨_, rfl, ?_⟩; replace HO_4 := zW HO_4.out hb; have HO427 := Aside0.mk (Kd.R_lower (Kd.R_new' ho0 (Kd.R_lt (zR HO_5.out))) (below_size zB)); replace HO_5 := Aside0.mk (Kd.R_elder' (zR HO_5.out) (Kd.R_base ho0) hb); replace HB := zX hb; (try clear hb); (try clear ho0); obtain ⟨Ao25, co25, eo25⟩ := Kd.R_slice HO427.out; subst eo25; have p431 : 0 ≤ (0 : Int) := (by omega); have q431 : 0 < (t425.length : Int) := zA; obtain ⟨ad431, e431, hx431_0⟩ := Kd.at_string (Kd.R_reads' HO427.out).2.2 0 p431 q431; cases e431; have qi431 : (0 < t425.length) = True := eq_true (by omega); (try rw [show ((0 : Int)).toNat = 0 from rfl] at hx431_0); (try rw [Addr.add_zero'] at hx431_0); replace p431 := eq_true p431; replace q431 := eq_true q431) | ((with_reducible refine gate_callee (f := 22) rfl ?_); refine zD (some 34) Tryd.func22 #[.string (rdOf ByteArray.empty t425 0)] ?_; (with_reducible refine (spec_ParseInt.calls k1 (rdOf ByteArray.empty t425 0) t432 true _ A11.out).mono ?_); rintro e w26 ⟨rfl, hb⟩; refine ⟨_, rfl, ?_⟩; replace HO_4 := zW HO_4.out hb; replace HO_5 := zW HO_5.out hb; replace HO427 := zW HO427.out hb; replace HB := zX hb; (try clear hb); have p434 : 0 ≤ (1 : Int) := (by omega); have q434 : 1 < (t425.length : Int) := zA; obtain ⟨ad434, e434, hx434_0⟩ := Kd.at_string (Kd.R_reads' HO427.out).2.2 1 p434 q434; obtain rfl : ad431 = ad434 := (by injection e434); (try simp only [show (1 : Int).toNat = 1 from rfl, Nat.reduceMul, Nat.reduceEqDiff, Go.Addr.add, ↓reduceIte] at hx434_0); have qi434 : (1 < t425.length) = True := eq_true (by omega); (try rw [show ((1 : Int)).toNat = 1 from rfl] at hx434_0); replace p434 := eq_true p434; replace q434 := eq_true q434) | ((with_reducible refine gate_callee (f := 22) rfl ?_); refine zD (some 41) Tryd.func22 #[.string (rdOf ByteArray.empty t425 1)] ?_; (with_reducible refine (spec_ParseInt.calls k1 (rdOf ByteArray.empty t425 1) t435 false _ A13.out).mono ?_); rintro e w27 ⟨rfl, hb⟩; refine ⟨_, rfl, ?_⟩; replace HO_4 := zW HO_4.out hb; replace HO_5 := zW HO_5.out hb; replace HO427 := zW HO427.out hb; replace HB := zX hb; (try clear hb)) | ((with_reducible refine gate_dst (N := 50) rfl ?_); refine Kd.R_lit k55 _ 55 ?hg (N := 50) ?hd (xs := ([] : List (S55))) (inner := []) (ok := fun _ => True) (okp := fun _ => True) ?hr ?hp (fun _ hk => hk) trivial (Below.refl _ _) (Nat.le_refl _) (by simp) ?_; (case hd => rfl); (case hg => rfl); (case hr => first | (go_simp; done) | (go_simp; rfl)); (case hp => exact (Reps.none _ _)); intro v441 w28 ho29 hb hg_ hnew_; clear hg_ hnew_; (first | rw [← Ny440.out] at ho29 | (simp only [Int.reduceToNat] at ho29; rw [← Ny440.out] at ho29)); replace HO_5 := zW HO_5.out hb; replace HO427 := zW HO427.out hb; have HO442 := Aside0.mk (Kd.R_lower (Kd.R_new' ho29 (Kd.R_lt (zR HO_4.out))) (below_size zB)); replace HO_4 := Aside0.mk (Kd.R_elder' (zR HO_4.out) (Kd.R_base ho29) hb); replace HB := zX hb; clear hb ho29))
       go_ret2
       exact ⟨_, zE, by (with_reducible repeat (first | apply Kd.R_alloc | apply Kd.R_drewN | apply Kd.R_drew)); exact Kd.R_mono HO442.out (fun _ hk => trivial), zB⟩
      replace c14 := Bool.eq_false_iff.mpr c14
      subst c14
      replace H := (if_neg zFf).symm.trans H
      obtain ⟨y443, hy443⟩ : ∃ y_ : List (S55), y_ = (([] : List (S55))) := ⟨_, rfl⟩
      replace H : (some (y443, false)) = some (r1, r2) := by first | (rw [hy443]; with_reducible exact H) | (have H2_ := (Option.bind_some _ _).symm.trans H; rw [hy443]; with_reducible exact H2_) | (have H2_ := (Option.bind_some _ _).symm.trans H; with_reducible exact H2_) | with_reducible exact H | (rw [hy443]; exact H) | exact H
      have Ny443 := Aside0.mk hy443
      clear hy443
      simp only [Option.some.injEq, Prod.mk.injEq] at H
      obtain ⟨rfl, rfl⟩ := H
      obtain ⟨Ao30, co30, eo30⟩ := Kd.R_slice HO_5.out
      subst eo30
      have p424 : 0 ≤ (x6_1 : Int) := zA
      have q424 : x6_1 < (t417.length : Int) := zA
      obtain ⟨ad424, e424, hx424_0⟩ := Kd.at_string (Kd.R_reads' HO_5.out).2.2 x6_1 p424 q424
      cases e424
      replace p424 := eq_true p424
      replace q424 := eq_true q424
      go_wp2_with (first | ((with_reducible refine gate_callee (f := 51) rfl ?_); refine zD (some 25) Tryd.func51 #[.string (rdOf ByteArray.empty t417 x6_1), .int .u8 44] ?_; (with_reducible refine (spec_SplitByte.calls k1 (rdOf ByteArray.empty t417 x6_1) 44 t425 _ A8.out).mono ?_); rintro e w31 ⟨v426, rfl, ho0, hb⟩; refine ⟨_, rfl, ?_⟩; replace HO_4 := zW HO_4.out hb; have HO427 := Aside0.mk (Kd.R_lower (Kd.R_new' ho0 (Kd.R_lt (zR HO_5.out))) (below_size zB)); replace HO_5 := Aside0.mk (Kd.R_elder' (zR HO_5.out) (Kd.R_base ho0) hb); replace HB := zX hb; (try clear hb); (try clear ho0); obtain ⟨Ao32, co32, eo32⟩ := Kd.R_slice HO427.out; subst eo32; have p431 : 0 ≤ (0 : Int) := (by omega); have q431 : 0 < (t425.length : Int) := zA; obtain ⟨ad431, e431, hx431_0⟩ := Kd.at_string (Kd.R_reads' HO427.out).2.2 0 p431 q431; cases e431; have qi431 : (0 < t425.length) = True := eq_true (by omega); (try rw [show ((0 : Int)).toNat = 0 from rfl] at hx431_0); (try rw [Addr.add_zero'] at hx431_0); replace p431 := eq_true p431; replace q431 := eq_true q431) | ((with_reducible refine gate_callee (f := 22) rfl ?_); refine zD (some 34) Tryd.func22 #[.string (rdOf ByteArray.empty t425 0)] ?_; (with_reducible refine (spec_ParseInt.calls k1 (rdOf ByteArray.empty t425 0) t432 false _ A11.out).mono ?_); rintro e w33 ⟨rfl, hb⟩; refine ⟨_, rfl, ?_⟩; replace HO_4 := zW HO_4.out hb; replace HO_5 := zW HO_5.out hb; replace HO427 := zW HO427.out hb; replace HB := zX hb; (try clear hb); have p434 : 0 ≤ (1 : Int) := (by omega); have q434 : 1 < (t425.length : Int) := zA; obtain ⟨ad434, e434, hx434_0⟩ := Kd.at_string (Kd.R_reads' HO427.out).2.2 1 p434 q434; obtain rfl : ad431 = ad434 := (by injection e434); (try simp only [show (1 : Int).toNat = 1 from rfl, Nat.reduceMul, Nat.reduceEqDiff, Go.Addr.add, ↓reduceIte] at hx434_0); have qi434 : (1 < t425.length) = True := eq_true (by omega); (try rw [show ((1 : Int)).toNat = 1 from rfl] at hx434_0); replace p434 := eq_true p434; replace q434 := eq_true q434) | ((with_reducible refine gate_callee (f := 22) rfl ?_); refine zD (some 41) Tryd.func22 #[.string (rdOf ByteArray.empty t425 1)] ?_; (with_reducible refine (spec_ParseInt.calls k1 (rdOf ByteArray.empty t425 1) t435 t436 _ A13.out).mono ?_); rintro e w34 ⟨rfl, hb⟩; refine ⟨_, rfl, ?_⟩; replace HO_4 := zW HO_4.out hb; replace HO_5 := zW HO_5.out hb; replace HO427 := zW HO427.out hb; replace HB := zX hb; (try clear hb)) | ((with_reducible refine gate_dst (N := 50) rfl ?_); refine Kd.R_lit k55 _ 55 ?hg (N := 50) ?hd (xs := ([] : List (S55))) (inner := []) (ok := fun _ => True) (okp := fun _ => True) ?hr ?hp (fun _ hk => hk) trivial (Below.refl _ _) (Nat.le_refl _) (by simp) ?_; (case hd => rfl); (case hg => rfl); (case hr => first | (go_simp; done) | (go_simp; rfl)); (case hp => exact (Reps.none _ _)); intro v444 w35 ho36 hb hg_ hnew_; clear hg_ hnew_; (first | rw [← Ny443.out] at ho36 | (simp only [Int.reduceToNat] at ho36; rw [← Ny443.out] at ho36)); replace HO_5 := zW HO_5.out hb; replace HO427 := zW HO427.out hb; have HO445 := Aside0.mk (Kd.R_lower (Kd.R_new' ho36 (Kd.R_lt (zR HO_4.out))) (below_size zB)); replace HO_4 := Aside0.mk (Kd.R_elder' (zR HO_4.out) (Kd.R_base ho36) hb); replace HB := zX hb; clear hb ho36))
      go_ret2
      exact ⟨_, zE, by (with_reducible repeat (first | apply Kd.R_alloc | apply Kd.R_drewN | apply Kd.R_drew)); exact Kd.R_mono HO445.out (fun _ hk => trivial), zB⟩
     rw [if_neg c12] at H
     exact absurd H (by simp)
    rw [if_neg c10] at H
    exact absurd H (by simp)
   rw [if_neg c9] at H
   have c9b0 := beq_eq_false_iff_ne.mpr c9
   have c9b1 := bne_iff_ne.mpr c9
   obtain ⟨y428, hy428⟩ : ∃ y_ : List (S55), y_ = (([] : List (S55))) := ⟨_, rfl⟩
   replace H : (some (y428, false)) = some (r1, r2) := by first | (rw [hy428]; with_reducible exact H) | (have H2_ := (Option.bind_some _ _).symm.trans H; rw [hy428]; with_reducible exact H2_) | (have H2_ := (Option.bind_some _ _).symm.trans H; with_reducible exact H2_) | with_reducible exact H | (rw [hy428]; exact H) | exact H
   have Ny428 := Aside0.mk hy428
   clear hy428
   simp only [Option.some.injEq, Prod.mk.injEq] at H
   obtain ⟨rfl, rfl⟩ := H
   obtain ⟨Ao37, co37, eo37⟩ := Kd.R_slice HO_5.out
   subst eo37
   have p424 : 0 ≤ (x6_1 : Int) := zA
   have q424 : x6_1 < (t417.length : Int) := zA
   obtain ⟨ad424, e424, hx424_0⟩ := Kd.at_string (Kd.R_reads' HO_5.out).2.2 x6_1 p424 q424
   cases e424
   replace p424 := eq_true p424
   replace q424 := eq_true q424
   go_wp2_with (first | ((with_reducible refine gate_callee (f := 51) rfl ?_); refine zD (some 25) Tryd.func51 #[.string (rdOf ByteArray.empty t417 x6_1), .int .u8 44] ?_; (with_reducible refine (spec_SplitByte.calls k1 (rdOf ByteArray.empty t417 x6_1) 44 t425 _ A8.out).mono ?_); rintro e w38 ⟨v426, rfl, ho0, hb⟩; refine ⟨_, rfl, ?_⟩; replace HO_4 := zW HO_4.out hb; have HO427 := Aside0.mk (Kd.R_lower (Kd.R_new' ho0 (Kd.R_lt (zR HO_5.out))) (below_size zB)); replace HO_5 := Aside0.mk (Kd.R_elder' (zR HO_5.out) (Kd.R_base ho0) hb); replace HB := zX hb; (try clear hb); (try clear ho0); obtain ⟨Ao39, co39, eo39⟩ := Kd.R_slice HO427.out; subst eo39) | ((with_reducible refine gate_dst (N := 29) rfl ?_); refine Kd.R_lit k55 _ 55 ?hg (N := 29) ?hd (xs := ([] : List (S55))) (inner := []) (ok := fun _ => True) (okp := fun _ => True) ?hr ?hp (fun _ hk => hk) trivial (Below.refl _ _) (Nat.le_refl _) (by simp) ?_; (case hd => rfl); (case hg => rfl); (case hr => first | (go_simp; done) | (go_simp; rfl)); (case hp => exact (Reps.none _ _)); intro v429 w40 ho41 hb hg_ hnew_; clear hg_ hnew_; (first | rw [← Ny428.out] at ho41 | (simp only [Int.reduceToNat] at ho41; rw [← Ny428.out] at ho41)); replace HO_5 := zW HO_5.out hb; replace HO427 := zW HO427.out hb; have HO430 := Aside0.mk (Kd.R_lower (Kd.R_new' ho41 (Kd.R_lt (zR HO_4.out))) (below_size zB)); replace HO_4 := Aside0.mk (Kd.R_elder' (zR HO_4.out) (Kd.R_base ho41) hb); replace HB := zX hb; clear hb ho41))
   go_ret2
   exact ⟨_, zE, by (with_reducible repeat (first | apply Kd.R_alloc | apply Kd.R_drewN | apply Kd.R_drew)); exact Kd.R_mono HO430.out (fun _ hk => trivial), zB⟩
  rw [if_neg c7] at H
  exact absurd H (by simp)
 rw [if_neg c6] at H
 have c6b0 := decide_eq_false c6
 clear c6
 obtain ⟨t420, A42, H⟩ := zO H
 by_cases c43 : t420 = true
 ·subst c43
  replace H := (if_pos rfl).symm.trans H
  simp only [Option.some.injEq, Prod.mk.injEq] at H
  obtain ⟨rfl, rfl⟩ := H
  obtain ⟨Ao44, co44, eo44⟩ := Kd.R_slice HO_5.out
  subst eo44
  obtain ⟨Ao45, co45, eo45⟩ := Kd.R_slice HO_4.out
  subst eo45
  go_wp2_with (first | ((with_reducible refine gate_callee (f := 39) rfl ?_); refine zD (some 58) Tryd.func39 #[.slice Ao45 x4_1.length co45] ?_; (with_reducible refine (spec_ArePoints.calls k1 _ _ x4_1 true _ ?side1 ?side2 A42.out).mono ?_); (case side1 => repeat (first | exact (Kd.R_reads' HO_4.out).2.2 | (with_reducible refine Kd.C_alloc ?_ _) | (with_reducible refine Kd.C_drewN ?_ _) | (with_reducible refine Kd.C_drew ?_))); (case side2 => exact (Kd.R_reads' HO_4.out).2.1); rintro e w46 ⟨rfl, hb⟩; refine ⟨_, rfl, ?_⟩; replace HO_4 := zW HO_4.out hb; replace HO_5 := zW HO_5.out hb; replace HB := zX hb; (try clear hb)))
  go_ret2
  exact ⟨_, zE, zR HO_4.out, zB⟩
 replace c43 := Bool.eq_false_iff.mpr c43
 subst c43
 replace H := (if_neg zFf).symm.trans H
 obtain ⟨y421, hy421⟩ : ∃ y_ : List (S55), y_ = (([] : List (S55))) := ⟨_, rfl⟩
 replace H : (some (y421, false)) = some (r1, r2) := by first | (rw [hy421]; with_reducible exact H) | (have H2_ := (Option.bind_some _ _).symm.trans H; rw [hy421]; with_reducible exact H2_) | (have H2_ := (Option.bind_some _ _).symm.trans H; with_reducible exact H2_) | with_reducible exact H | (rw [hy421]; exact H) | exact H
 have Ny421 := Aside0.mk hy421
 clear hy421
 simp only [Option.some.injEq, Prod.mk.injEq] at H
 obtain ⟨rfl, rfl⟩ := H
 obtain ⟨Ao47, co47, eo47⟩ := Kd.R_slice HO_5.out
 subst eo47
 obtain ⟨Ao48, co48, eo48⟩ := Kd.R_slice HO_4.out
 subst eo48
 go_wp2_with (first | ((with_reducible refine gate_callee (f := 39) rfl ?_); refine zD (some 58) Tryd.func39 #[.slice Ao48 x4_1.length co48] ?_; (with_reducible refine (spec_ArePoints.calls k1 _ _ x4_1 false _ ?side1 ?side2 A42.out).mono ?_); (case side1 => repeat (first | exact (Kd.R_reads' HO_4.out).2.2 | (with_reducible refine Kd.C_alloc ?_ _) | (with_reducible refine Kd.C_drewN ?_ _) | (with_reducible refine Kd.C_drew ?_))); (case side2 => exact (Kd.R_reads' HO_4.out).2.1); rintro e w49 ⟨rfl, hb⟩; refine ⟨_, rfl, ?_⟩; replace HO_4 := zW HO_4.out hb; replace HO_5 := zW HO_5.out hb; replace HB := zX hb; (try clear hb)) | ((with_reducible refine gate_dst (N := 60) rfl ?_); refine Kd.R_lit k55 _ 55 ?hg (N := 60) ?hd (xs := ([] : List (S55))) (inner := []) (ok := fun _ => True) (okp := fun _ => True) ?hr ?hp (fun _ hk => hk) trivial (Below.refl _ _) (Nat.le_refl _) (by simp) ?_; (case hd => rfl); (case hg => rfl); (case hr => first | (go_simp; done) | (go_simp; rfl)); (case hp => exact (Reps.none _ _)); intro v422 w50 ho51 hb hg_ hnew_; clear hg_ hnew_; (first | rw [← Ny421.out] at ho51 | (simp only [Int.reduceToNat] at ho51; rw [← Ny421.out] at ho51)); replace HO_5 := zW HO_5.out hb; have HO423 := Aside0.mk (Kd.R_lower (Kd.R_new' ho51 (Kd.R_lt (zR HO_4.out))) (below_size zB)); replace HO_4 := Aside0.mk (Kd.R_elder' (zR HO_4.out) (Kd.R_base ho51) hb); replace HB := zX hb; clear hb ho51))
 go_ret2
 exact ⟨_, zE, by (with_reducible repeat (first | apply Kd.R_alloc | apply Kd.R_drewN | apply Kd.R_drew)); exact Kd.R_mono HO423.out (fun _ hk => trivial), zB⟩
/-! ### laws_FnExactParsePoints: function 10 -/
mutual
def laws_FnExactParsePoints.j0 : Nat → ByteArray → List (S55) → Bool → List (S55) → Bool → Option (Bool)
 | 0, _, _, _, _, _ => none
 | k + 1, x0, x3, x4, x5, x32 => if x32 = true then (some false) else ((laws_markPointS.f k x5 1).bind fun bt476 => ((laws_heldPointS.f k bt476.2 1).bind fun t478 => (if t478 < 0 then (some false) else (if t478 = bt476.1 then ((impl_ParsePoints.f k x0).bind fun bt479 => ((laws_eqPointS.f k bt479.1 x3).bind fun t483 => (if t483 = true then (laws_FnExactParsePoints.j1 k bt476.2 bt476.1 (bt479.2 != x4)) else (laws_FnExactParsePoints.j1 k bt476.2 bt476.1 true)))) else (some false)))))
def laws_FnExactParsePoints.j1 : Nat → List (S55) → Int → Bool → Option (Bool)
 | 0, _, _, _ => none
 | k + 1, x5, x7, x57 => if x57 = true then (some false) else ((laws_heldPointS.f k x5 1).bind fun t484 => (if t484 < 0 then (some false) else (if t484 = x7 then (some true) else (some false))))
end
def laws_FnExactParsePoints.f (k : Nat) (a0 : ByteArray) : Option (Bool) := if (a0.size : Int) > 1048576 then (some true) else ((spec_ParsePoints.f k a0).bind fun bt467 => ((impl_ParsePoints.f k a0).bind fun bt471 => ((laws_eqPointS.f k bt471.1 bt467.1).bind fun t475 => (if t475 = true then (laws_FnExactParsePoints.j0 k a0 bt467.1 bt467.2 bt471.1 (bt471.2 != bt467.2)) else (laws_FnExactParsePoints.j0 k a0 bt467.1 bt467.2 bt471.1 true)))))
theorem laws_FnExactParsePoints.j0_no (k : Nat) (y0 : ByteArray) (y1 : List (S55)) (y2 : Bool) (y3 : List (S55)) (r : Bool) (h_ : r = true) : ¬ laws_FnExactParsePoints.j0 k y0 y1 y2 y3 true = some r := by
 subst h_
 cases k <;> simp [laws_FnExactParsePoints.j0]
theorem laws_FnExactParsePoints.j1_no (k : Nat) (y0 : List (S55)) (y1 : Int) (r : Bool) (h_ : r = true) : ¬ laws_FnExactParsePoints.j1 k y0 y1 true = some r := by
 subst h_
 cases k <;> simp [laws_FnExactParsePoints.j1]
theorem zl103_0 {p q : Prop} (g : p) (h : p → q := by intro zg_; repeat (first | (with_reducible first | exact zg_ | apply below_alloc | apply pw_below_drewN | apply below_drew1) | exact zg_)) : q := h g
set_option maxHeartbeats 8000000 in
set_option maxRecDepth 100000 in
theorem laws_FnExactParsePoints.calls (k : Nat) (a0 : ByteArray) (r : Bool) (w : World) (h : laws_FnExactParsePoints.f k a0 = some r) (hr_ : r = true) (hT : T3 w) :
  Calls Tryd.prog 10 #[.string a0] w fun e w' => e = .returned (.bool r) ∧ Below w.heap.size w w' := by
 have HT := Aside0.mk hT
 clear hT
 have HB := Aside0.mk (Below.refl w.heap.size w)
 have H : (if (a0.size : Int) > 1048576 then (some true) else ((spec_ParsePoints.f k a0).bind fun bt467 => ((impl_ParsePoints.f k a0).bind fun bt471 => ((laws_eqPointS.f k bt471.1 bt467.1).bind fun t475 => (if t475 = true then (laws_FnExactParsePoints.j0 k a0 bt467.1 bt467.2 bt471.1 (bt471.2 != bt467.2)) else (laws_FnExactParsePoints.j0 k a0 bt467.1 bt467.2 bt471.1 true)))))) = some r := h
 clear h
 by_cases c2 : (a0.size : Int) > 1048576
 ·rw [if_pos c2] at H
  have c2b0 : decide (1048576 < (a0.size : Int)) = true := decide_eq_true c2
  have c2b1 : decide (1048576 < a0.size) = true := decide_eq_true (by omega)
  clear c2
  obtain rfl := Option.some.inj H
  go_enter Tryd.func10, Tryd.ntmps10
  go_wp2
  go_ret
  exact ⟨zE, zB⟩
 rw [if_neg c2] at H
 have c2b0 : decide (1048576 < (a0.size : Int)) = false := decide_eq_false c2
 have c2b1 : decide (1048576 < a0.size) = false := decide_eq_false (by omega)
 clear c2
 obtain ⟨⟨t467, t468⟩, A3, H⟩ := zO H
 dsimp only at H
 obtain ⟨⟨t471, t472⟩, A4, H⟩ := zO H
 dsimp only at H
 have HC5 := Aside0.mk H
 clear H
 go_enter Tryd.func10, Tryd.ntmps10
 go_upto_region 5 with (first | ((with_reducible refine gate_callee (f := 32) rfl ?_); refine zD (some 16) Tryd.func32 #[.string a0] ?_; (with_reducible refine (spec_ParsePoints.calls k a0 t467 t468 _ A3.out).mono ?_); rintro e w6 ⟨v469, rfl, ho0, hb⟩; refine ⟨_, rfl, ?_⟩; have HO470 := Aside0.mk (Kd.R_lower ho0 (below_size zB)); replace HB := zX hb; (try clear hb); (try clear ho0)) | ((with_reducible refine gate_callee (f := 33) rfl ?_); refine zD (some 21) Tryd.func33 #[.string a0] ?_; (with_reducible refine (impl_ParsePoints.calls k a0 t471 t472 _ A4.out (HT.out.below ?sideT)).mono ?_); (case sideT => exact (zl103_0 HB.out)); rintro e w7 ⟨v473, rfl, ho0, hb⟩; refine ⟨_, rfl, ?_⟩; have HO474 := Aside0.mk (Kd.R_lower (Kd.R_new' ho0 (Kd.R_lt (zR HO470.out))) (below_size zB)); replace HO470 := Aside0.mk (Kd.R_elder' (zR HO470.out) (Kd.R_base ho0) hb); replace HB := zX hb; (try clear hb); (try clear ho0)))
 (try simp only [Act.put, List.setIfInBounds_toArray, List.set_cons_zero, List.set_cons_succ])
 go_cut [32] (fun v32 wc => ∃ (kq : Nat) (x32_4 : Bool), v32 = .bool x32_4 ∧ Aside0 (laws_FnExactParsePoints.j0 kq a0 t467 t468 t471 x32_4 = some r) ∧ Aside0 (kq ≤ k) ∧ Aside0 (Kd.R k55 55 wc w.heap.size (fun k_ => some k_ ≠ (v473 : Value).ownBlock) v469 t467) ∧ Aside0 (Kd.R k55 55 wc w.heap.size (fun k_ => some k_ ≠ (v469 : Value).ownBlock) v473 t471) ∧ Aside0 (Below w.heap.size w wc))
 case first =>
  have H := HC5.out
  clear HC5
  obtain ⟨t475, A8, H⟩ := zO H
  by_cases c9 : t475 = true
  ·subst c9
   replace H := (if_pos rfl).symm.trans H
   have H' := Aside0.mk H; clear H
   obtain ⟨Ao10, co10, eo10⟩ := Kd.R_slice HO474.out
   subst eo10
   obtain ⟨Ao11, co11, eo11⟩ := Kd.R_slice HO470.out
   subst eo11
   go_wp2_with (first | ((with_reducible refine gate_callee (f := 21) rfl ?_); refine zD (some 26) Tryd.func21 #[.slice Ao10 t471.length co10, .slice Ao11 t467.length co11] ?_; (with_reducible refine (laws_eqPointS.calls k _ _ t471 _ _ t467 true _ ?side1 ?side2 ?side3 ?side4 A8.out).mono ?_); (case side1 => repeat (first | exact (Kd.R_reads' HO474.out).2.2 | (with_reducible refine Kd.C_alloc ?_ _) | (with_reducible refine Kd.C_drewN ?_ _) | (with_reducible refine Kd.C_drew ?_))); (case side2 => exact (Kd.R_reads' HO474.out).2.1); (case side3 => repeat (first | exact (Kd.R_reads' HO470.out).2.2 | (with_reducible refine Kd.C_alloc ?_ _) | (with_reducible refine Kd.C_drewN ?_ _) | (with_reducible refine Kd.C_drew ?_))); (case side4 => exact (Kd.R_reads' HO470.out).2.1); rintro e w12 ⟨rfl, hb⟩; refine ⟨_, rfl, ?_⟩; replace HO470 := zW HO470.out hb; replace HO474 := zW HO474.out hb; replace HB := zX hb; (try clear hb)))
   go_meet
   case rel => exact ⟨_, ((t472 != t468)), zF, H', ⟨by first | omega | exact Nat.le_refl _⟩, ⟨by (with_reducible repeat (first | apply Kd.R_alloc | apply Kd.R_drewN | apply Kd.R_drew)); exact Kd.R_mono HO470.out (fun _ hk => hk.2)⟩, ⟨by (with_reducible repeat (first | apply Kd.R_alloc | apply Kd.R_drewN | apply Kd.R_drew)); exact Kd.R_mono HO474.out (fun _ hk => hk.2)⟩, ⟨zB⟩⟩
  replace c9 := Bool.eq_false_iff.mpr c9
  subst c9
  have H1 : (laws_FnExactParsePoints.j0 k a0 t467 t468 t471 true) = some r := by rw [if_neg (show ¬ (false = true) by decide)] at H; exact H
  exact absurd H1 (laws_FnExactParsePoints.j0_no _ _ _ _ _ _ hr_)
 case rest =>
 clear HC5
 try clear c2
 try clear c2b0
 try clear c2b1
 obtain ⟨kq, x32_4, rfl, HA, HJ4, HO_3, HO_5, HB⟩ := hcut
 cases kq with
 | zero => exact absurd HA.out (by simp [laws_FnExactParsePoints.j0])
 | succ kj4 =>
 have H := HA.out
 clear HA
 simp only [laws_FnExactParsePoints.j0] at H
 by_cases c16 : x32_4 = true
 ·subst c16
  replace H := (if_pos rfl).symm.trans H
  obtain rfl := Option.some.inj H
  cases hr_
 replace c16 := Bool.eq_false_iff.mpr c16
 subst c16
 replace H := (if_neg zFf).symm.trans H
 obtain ⟨⟨t476, t477⟩, A17, H⟩ := zO H
 dsimp only at H
 obtain ⟨t478, A18, H⟩ := zO H
 by_cases c19 : t478 < 0
 ·rw [if_pos c19] at H
  have c19b0 := decide_eq_true c19
  clear c19
  obtain rfl := Option.some.inj H
  cases hr_
 rw [if_neg c19] at H
 have c19b0 := decide_eq_false c19
 clear c19
 by_cases c22 : t478 = t476
 ·rw [if_pos c22] at H
  have c22b0 := beq_iff_eq.mpr c22
  have c22b1 := bne_eq_false_iff_eq.mpr c22
  clear c22
  obtain ⟨⟨t479, t480⟩, A23, H⟩ := zO H
  dsimp only at H
  have HC24 := Aside0.mk H
  clear H
  obtain ⟨Ao25, co25, eo25⟩ := Kd.R_slice HO_5.out
  subst eo25
  go_upto_region 16 with (first | ((with_reducible refine gate_callee (f := 34) rfl ?_); refine zD (some 35) Tryd.func34 #[.slice Ao25 t471.length co25, .int .i64 1] ?_; (with_reducible refine (laws_markPointS.calls kj4 (fun k_ => some k_ = (.slice Ao25 t471.length co25 : Value).ownBlock) (.slice Ao25 t471.length co25) t471 1 t476 t477 w _ ?side1 ?side2 A17.out).mono ?_); (case side1 => exact (zl103_0 HB.out)); (case side2 => exact Kd.R_tight rfl HO_5.out); rintro e w26 ⟨rfl, hy0, hb, hkp⟩; refine ⟨_, rfl, ?_⟩; replace HO_3 := Aside0.mk (Kd.R_mono (ok' := fun k_ => some k_ ≠ (.slice Ao25 t471.length co25 : Value).ownBlock) (Kd.R_keptB (HO_3.out) hkp (fun k_ hk_ hs_ => (hk_) hs_)) (fun k_ hk_ => hk_.1)); replace HO_5 := Aside0.mk (Kd.R_reok rfl hy0 (fun k_ e_ => HO_5.out.1 k_ e_)); replace HB := Aside0.mk (hb); (try clear hb); (try clear hkp); (try clear hy0)) | ((with_reducible refine gate_callee (f := 35) rfl ?_); refine goesL_ (some 38) rfl rfl Tryd.func35 (by kernel_rfl) rfl #[.slice Ao25 t477.length co25, .int .i64 1] rfl (by (try simp only [List.map_toArray, List.map_cons, List.map_nil]); first | done | (rw [show t477.length = t471.length from (Kd.R_reads' HO_5.out).1.symm] <;> rfl) | rfl | (simp only [List.length_drop, List.length_take]; rfl)) ?_; (with_reducible refine (laws_heldPointS.calls kj4 _ _ t477 1 t478 _ ?side1 ?side2 A18.out).mono ?_); (case side1 => repeat (first | exact (Kd.R_reads' HO_5.out).2.2 | (with_reducible refine Kd.C_alloc ?_ _) | (with_reducible refine Kd.C_drewN ?_ _) | (with_reducible refine Kd.C_drew ?_))); (case side2 => rw [show t477.length = t471.length from (Kd.R_reads' HO_5.out).1.symm]; exact (Kd.R_reads' HO_5.out).2.1); rintro e w' ⟨rfl, ⟨nd, rfl⟩⟩; refine ⟨_, rfl, ?_⟩) | ((with_reducible refine gate_callee (f := 33) rfl ?_); refine zD (some 46) Tryd.func33 #[.string a0] ?_; (with_reducible refine (impl_ParsePoints.calls kj4 a0 t479 t480 _ A23.out (HT.out.below ?sideT)).mono ?_); (case sideT => exact (zl103_0 HB.out)); rintro e w27 ⟨v481, rfl, ho0, hb⟩; refine ⟨_, rfl, ?_⟩; have HO482 := Aside0.mk (Kd.R_lower (Kd.R_new' (Kd.R_new' ho0 (Kd.R_lt (zR HO_3.out))) (Kd.R_lt (zR HO_5.out))) (below_size zB)); replace HO_3 := Aside0.mk (Kd.R_elder' (zR HO_3.out) (Kd.R_base ho0) hb); replace HO_5 := Aside0.mk (Kd.R_elder' (zR HO_5.out) (Kd.R_base ho0) hb); replace HB := zX hb; (try clear hb); (try clear ho0)))
  (try simp only [Act.put, List.setIfInBounds_toArray, List.set_cons_zero, List.set_cons_succ])
  go_cut [57] (fun v57 wc => ∃ (kq : Nat) (x57_23 : Bool), v57 = .bool x57_23 ∧ Aside0 (laws_FnExactParsePoints.j1 kq t477 t476 x57_23 = some r) ∧ Aside0 (kq ≤ kj4) ∧ Aside0 (Kd.R k55 55 wc w.heap.size (fun _ => True) (.slice Ao25 t471.length co25) t477) ∧ Aside0 (Below w.heap.size w wc))
  case first =>
   have H := HC24.out
   clear HC24
   obtain ⟨t483, A28, H⟩ := zO H
   by_cases c29 : t483 = true
   ·subst c29
    replace H := (if_pos rfl).symm.trans H
    have H' := Aside0.mk H; clear H
    obtain ⟨Ao30, co30, eo30⟩ := Kd.R_slice HO482.out
    subst eo30
    obtain ⟨Ao31, co31, eo31⟩ := Kd.R_slice HO_3.out
    subst eo31
    go_wp2_with (first | ((with_reducible refine gate_callee (f := 21) rfl ?_); refine zD (some 51) Tryd.func21 #[.slice Ao30 t479.length co30, .slice Ao31 t467.length co31] ?_; (with_reducible refine (laws_eqPointS.calls kj4 _ _ t479 _ _ t467 true _ ?side1 ?side2 ?side3 ?side4 A28.out).mono ?_); (case side1 => repeat (first | exact (Kd.R_reads' HO482.out).2.2 | (with_reducible refine Kd.C_alloc ?_ _) | (with_reducible refine Kd.C_drewN ?_ _) | (with_reducible refine Kd.C_drew ?_))); (case side2 => exact (Kd.R_reads' HO482.out).2.1); (case side3 => repeat (first | exact (Kd.R_reads' HO_3.out).2.2 | (with_reducible refine Kd.C_alloc ?_ _) | (with_reducible refine Kd.C_drewN ?_ _) | (with_reducible refine Kd.C_drew ?_))); (case side4 => exact (Kd.R_reads' HO_3.out).2.1); rintro e w32 ⟨rfl, hb⟩; refine ⟨_, rfl, ?_⟩; replace HO_3 := zW HO_3.out hb; replace HO_5 := zW HO_5.out hb; replace HO482 := zW HO482.out hb; replace HB := zX hb; (try clear hb)))
    go_meet
    case rel => exact ⟨_, ((t480 != t468)), zF, H', ⟨by have := HJ4.out; first | omega | exact Nat.le_refl _⟩, ⟨by (with_reducible repeat (first | apply Kd.R_alloc | apply Kd.R_drewN | apply Kd.R_drew)); exact Kd.R_mono HO_5.out (fun _ hk => trivial)⟩, ⟨zB⟩⟩
   replace c29 := Bool.eq_false_iff.mpr c29
   subst c29
   have H1 : (laws_FnExactParsePoints.j1 kj4 t477 t476 true) = some r := by rw [if_neg (show ¬ (false = true) by decide)] at H; exact H
   exact absurd H1 (laws_FnExactParsePoints.j1_no _ _ _ _ hr_)
  case rest =>
  clear HC24
  try clear c2
  try clear c2b0
  try clear c2b1
  try clear c16
  try clear c19
  try clear c19b0
  try clear c22
  try clear c22b0
  try clear c22b1
  obtain ⟨kq, x57_23, rfl, HA, HJ23, HO_5, HB⟩ := hcut
  have hl5_23 := (Kd.R_reads' HO_5.out).1
  rw [hl5_23] at HO_5
  (try simp only [hl5_23])
  cases kq with
  | zero => exact absurd HA.out (by simp [laws_FnExactParsePoints.j1])
  | succ kj23 =>
  have H := HA.out
  clear HA
  simp only [laws_FnExactParsePoints.j1] at H
  by_cases c36 : x57_23 = true
  ·subst c36
   replace H := (if_pos rfl).symm.trans H
   obtain rfl := Option.some.inj H
   cases hr_
  replace c36 := Bool.eq_false_iff.mpr c36
  subst c36
  replace H := (if_neg zFf).symm.trans H
  obtain ⟨t484, A37, H⟩ := zO H
  by_cases c38 : t484 < 0
  ·rw [if_pos c38] at H
   have c38b0 := decide_eq_true c38
   clear c38
   obtain rfl := Option.some.inj H
   cases hr_
  rw [if_neg c38] at H
  have c38b0 := decide_eq_false c38
  clear c38
  by_cases c39 : t484 = t476
  ·rw [if_pos c39] at H
   have c39b0 := beq_iff_eq.mpr c39
   have c39b1 := bne_eq_false_iff_eq.mpr c39
   clear c39
   obtain rfl := Option.some.inj H
   go_wp2_with (first | ((with_reducible refine gate_callee (f := 35) rfl ?_); refine zD (some 60) Tryd.func35 #[.slice Ao25 t477.length co25, .int .i64 1] ?_; (with_reducible refine (laws_heldPointS.calls kj23 _ _ t477 1 t484 _ ?side1 ?side2 A37.out).mono ?_); (case side1 => repeat (first | exact (Kd.R_reads' HO_5.out).2.2 | (with_reducible refine Kd.C_alloc ?_ _) | (with_reducible refine Kd.C_drewN ?_ _) | (with_reducible refine Kd.C_drew ?_))); (case side2 => exact (Kd.R_reads' HO_5.out).2.1); rintro e w' ⟨rfl, ⟨nd, rfl⟩⟩; refine ⟨_, rfl, ?_⟩))
   go_ret
   exact ⟨zE, zB⟩
  rw [if_neg c39] at H
  have c39b0 := beq_eq_false_iff_ne.mpr c39
  have c39b1 := bne_iff_ne.mpr c39
  obtain rfl := Option.some.inj H
  cases hr_
 rw [if_neg c22] at H
 have c22b0 := beq_eq_false_iff_ne.mpr c22
 have c22b1 := bne_iff_ne.mpr c22
 obtain rfl := Option.some.inj H
 cases hr_
end Go.Proofs.YthhgcdfdjlijjaaDoor.PX
namespace Go.Proofs.YthhgcdfdjlijjaaDoor.M
open Go.RowKit Go.Proofs.YthhgcdfdjlijjaaDoorW.PrintWords
section
variable {α β : Type} {r : α} {r' : β}
theorem ev_pos {c : Prop} [Decidable c] {a b : Nat → Option α} (h : c) (k : Ev a r) : Ev (fun n => if c then a n else b n) r := Ev.congr (fun _ => if_pos h) k
theorem ev_neg {c : Prop} [Decidable c] {a b : Nat → Option α} (h : ¬ c) (k : Ev b r) : Ev (fun n => if c then a n else b n) r := Ev.congr (fun _ => if_neg h) k
theorem ev_call {x : Option α} {a : α} {f : Nat → α → Option β} (h : x = some a) (k : Ev (fun n => f n a) r') : Ev (fun n => x.bind (f n)) r' := Ev.congr (fun n => by rw [h]; rfl) k
theorem ev_cast {g : Nat → Option α} {a b : α} (h : Ev g a) (e : a = b) : Ev g b := e ▸ h
theorem ev_step {g : Nat → Option α} (k : Ev (fun n => g (n + 1)) r) : Ev g r := Ev.step (fun _ => rfl) k
end
theorem wrap_id {x : Int} (h0 : -9223372036854775808 ≤ x) (h1 : x ≤ 9223372036854775807) : wrap64 x = x := by unfold wrap64; omega
theorem size_list (t : ByteArray) : t.size = t.data.toList.length := rfl
theorem bt_nat {t : ByteArray} {i : Nat} (h : i < t.data.toList.length) : bt t (i : Int) = ((t.data.toList[i]).toNat : Int) := by
 have h' : i < t.size := h
 unfold bt
 simp only [Int.toNat_natCast, h', dite_true]
 rfl
end Go.Proofs.YthhgcdfdjlijjaaDoor.M
