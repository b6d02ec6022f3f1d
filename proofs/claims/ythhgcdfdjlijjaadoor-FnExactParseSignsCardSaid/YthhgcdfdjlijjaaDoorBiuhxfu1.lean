/- A part of proofs about signs and points: what some functions answer, and that their calls answer so. No condition. -/
import Derived.Test.YthhgcdfdjlijjaaDoorProg
import Derived.Shelf.Strconv.Itoa3
import Derived.Shelf.Strconv.AtoiAll
import Derived.Shelf.Strings.Cut
import Derived.Shelf.Strings.OnBuilder
import Derived.Lib.SmallJoins
import Derived.Lib.AppendIntMem
import Derived.Test.YthhgcdfdjlijjaaDoorRows
import Derived.ProofKit
import Derived.LaidMore
import Derived.OpenShut
import Derived.Stop.Joined
import Derived.Stop.LaidErr
import Derived.Lib.LaidTab
import Derived.LaidHandle
import Derived.Below
import Derived.Deep.Draws
import Derived.Deep.AppendLies
import Derived.Maps.AppendAt
import Derived.OwnWalk
import Derived.Laws.BytesArg
import Derived.Laws.MakeOwn
import Derived.Laws.OwnMore
import Derived.Deep.OwnRows
import Derived.Tactics
import Derived.Lib.ConvBytes
import Derived.Laws.Slices
import Derived.WalkKit
import Derived.KernelRfl
import Derived.RowKit3
import Derived.Deep.LoopGhost
import Derived.Deep.QuietTactic
import Derived.BigQuiet
import Derived.WideLaws
import Derived.Deep.DeepCutAuto
import Derived.Deep.CutBlock
import Derived.Deep.RegionHeld3
import Derived.Laws.Rows
import Derived.Lib.AppendStr
import Derived.ArgAppend
import Derived.Laws.IdiomCopy
import Derived.OrdersHeld
import Derived.Laws.BitsLemmas
import Derived.RowKit
import Derived.Lib.AtoiAllCases
import Derived.Lib.ItoaNum
import Derived.Test.YthhgcdfdjlijjaaDoorV1
set_option linter.unusedVariables false
set_option linter.unusedSimpArgs false
namespace Go.Proofs
open Go.Shelf
set_option linter.unusedVariables false
open Go.RowKit in
open Go.RowKit in
def Tryd.laysM171_ren : Go.Shelf.Ren := ⟨fun | 171 => 36 | 243 => 54 | 246 => 66 | 283 => 79 | 284 => 80 | 285 => 81 | 286 => 82 | 129 => 97 | 317 => 96 | 318 => 98 | 319 => 99 | 320 => 100 | 337 => 109 | 338 => 110 | n => n, fun | 3 => 3 | 9 => 9 | 2 => 2 | 4 => 4 | 171 => 98 | 0 => 0 | 53 => 99 | 37 => 41 | 5 => 5 | 173 => 102 | 212 => 116 | 51 => 117 | 20 => 20 | 213 => 118 | 46 => 113 | 232 => 136 | 233 => 137 | n => n, fun | 17 => 1 | 18 => 4 | 19 => 5 | n => n⟩
theorem Tryd.laysM171 : Go.Proofs.LaysM.n171 Tryd.prog Tryd.laysM171_ren := {
  mixed := by kernel_rfl
  f129 := Tryd.func97.trans (congrArg some (by kernel_rfl))
  f171 := Tryd.func36.trans (congrArg some (by kernel_rfl))
  f243 := Tryd.func54.trans (congrArg some (by kernel_rfl))
  f246 := Tryd.func66.trans (congrArg some (by kernel_rfl))
  f283 := Tryd.func79.trans (congrArg some (by kernel_rfl))
  f284 := Tryd.func80.trans (congrArg some (by kernel_rfl))
  f285 := Tryd.func81.trans (congrArg some (by kernel_rfl))
  f286 := Tryd.func82.trans (congrArg some (by kernel_rfl))
  f317 := Tryd.func96.trans (congrArg some (by kernel_rfl))
  f318 := Tryd.func98.trans (congrArg some (by kernel_rfl))
  f319 := Tryd.func99.trans (congrArg some (by kernel_rfl))
  f320 := Tryd.func100.trans (congrArg some (by kernel_rfl))
  f337 := Tryd.func109.trans (congrArg some (by kernel_rfl))
  f338 := Tryd.func110.trans (congrArg some (by kernel_rfl))
  t0 := Tryd.underlying0
  a0 := Tryd.isAgg0
  z0 := Tryd.sizeOf0
  v0 := Tryd.zeroValue0
  t2 := Tryd.underlying2
  a2 := Tryd.isAgg2
  z2 := Tryd.sizeOf2
  v2 := Tryd.zeroValue2
  t3 := Tryd.underlying3
  a3 := Tryd.isAgg3
  z3 := Tryd.sizeOf3
  v3 := Tryd.zeroValue3
  t4 := Tryd.underlying4
  a4 := Tryd.isAgg4
  z4 := Tryd.sizeOf4
  v4 := Tryd.zeroValue4
  t5 := Tryd.underlying5
  a5 := Tryd.isAgg5
  z5 := Tryd.sizeOf5
  v5 := Tryd.zeroValue5
  t9 := Tryd.underlying9
  a9 := Tryd.isAgg9
  z9 := Tryd.sizeOf9
  v9 := Tryd.zeroValue9
  t20 := Tryd.underlying20
  a20 := Tryd.isAgg20
  z20 := Tryd.sizeOf20
  v20 := Tryd.zeroValue20
  t37 := Tryd.underlying41
  a37 := Tryd.isAgg41
  z37 := Tryd.sizeOf41
  v37 := Tryd.zeroValue41
  t46 := Tryd.underlying113
  a46 := Tryd.isAgg113
  z46 := Tryd.sizeOf113
  v46 := Tryd.zeroValue113
  t51 := Tryd.underlying117
  a51 := Tryd.isAgg117
  z51 := Tryd.sizeOf117
  v51 := Tryd.zeroValue117
  t53 := Tryd.underlying99
  a53 := Tryd.isAgg99
  z53 := Tryd.sizeOf99
  v53 := Tryd.zeroValue99
  t171 := Tryd.underlying98
  a171 := Tryd.isAgg98
  z171 := Tryd.sizeOf98
  v171 := Tryd.zeroValue98
  t173 := Tryd.underlying102
  a173 := Tryd.isAgg102
  z173 := Tryd.sizeOf102
  v173 := Tryd.zeroValue102
  t212 := Tryd.underlying116
  a212 := Tryd.isAgg116
  z212 := Tryd.sizeOf116
  v212 := Tryd.zeroValue116
  t213 := Tryd.underlying118
  a213 := Tryd.isAgg118
  z213 := Tryd.sizeOf118
  t232 := Tryd.underlying136
  a232 := Tryd.isAgg136
  z232 := Tryd.sizeOf136
  v232 := Tryd.zeroValue136
  t233 := Tryd.underlying137
  a233 := Tryd.isAgg137
  z233 := Tryd.sizeOf137
  v233 := Tryd.zeroValue137
  g17 := by kernel_rfl
  g18 := by kernel_rfl
  g19 := by kernel_rfl
  i0 := by kernel_rfl
  i2 := by kernel_rfl
  i3 := by kernel_rfl
  i4 := by kernel_rfl
  i5 := by kernel_rfl
  i9 := by kernel_rfl
  i20 := by kernel_rfl
  i37 := by kernel_rfl
  i46 := by kernel_rfl
  i51 := by kernel_rfl
  i53 := by kernel_rfl
  i171 := by kernel_rfl
  i173 := by kernel_rfl
  i212 := by kernel_rfl
  i232 := by kernel_rfl
  i233 := by kernel_rfl
  m17 := by kernel_rfl
  m18 := by kernel_rfl
  m19 := by kernel_rfl }
open Go.RowKit Go.Sort Go.Lib in
theorem Tryd.strconv_Itoa (n : Int) (h0 : -9223372036854775808 ≤ n) (h1 : n ≤ 9223372036854775807) (w : World) (htab : Lib.TabIs Tryd.prog w "internal/strconv.uint64pow10" .u64 Lib.pow10Tab) :
    Calls Tryd.prog 36 #[.int .i64 n] w fun e w' => e = .returned (.string ⟨(Lib.itoa n).toArray⟩) ∧ ∃ k os, w' = grow (w.drewN k) os := Any.strconv_Itoa Tryd.laysM171 n h0 h1 w htab
def Tryd.laysC172_ren : Go.Shelf.Ren := ⟨fun | 172 => 62 | 244 => 75 | 245 => 76 | 247 => 87 | 279 => 88 | 280 => 89 | 281 => 90 | 282 => 91 | 287 => 104 | 316 => 105 | 171 => 36 | 205 => 106 | 321 => 111 | 322 => 112 | 243 => 54 | 246 => 66 | 283 => 79 | 284 => 80 | 285 => 81 | 286 => 82 | 129 => 97 | 317 => 96 | 318 => 98 | 319 => 99 | 320 => 100 | 337 => 109 | 338 => 110 | n => n, fun | 9 => 9 | 3 => 3 | 75 => 78 | 76 => 79 | 4 => 4 | 5 => 5 | 167 => 107 | 37 => 41 | 0 => 0 | 85 => 108 | 2 => 2 | 168 => 110 | 53 => 99 | 175 => 123 | 46 => 113 | 210 => 127 | 127 => 106 | 145 => 135 | 143 => 133 | 21 => 21 | 171 => 98 | 173 => 102 | 212 => 116 | 51 => 117 | 20 => 20 | 213 => 118 | 232 => 136 | 233 => 137 | 80 => 95 | n => n, fun | 15 => 2 | 16 => 3 | 17 => 1 | 18 => 4 | 19 => 5 | n => n⟩
theorem Tryd.laysC172 : Go.Proofs.LaysC.n172 Tryd.prog Tryd.laysC172_ren := {
  mixed := by kernel_rfl
  f129 := Tryd.func97.trans (congrArg some (by kernel_rfl))
  f171 := Tryd.func36.trans (congrArg some (by kernel_rfl))
  f172 := Tryd.func62.trans (congrArg some (by kernel_rfl))
  f205 := Tryd.func106.trans (congrArg some (by kernel_rfl))
  f243 := Tryd.func54.trans (congrArg some (by kernel_rfl))
  f244 := Tryd.func75.trans (congrArg some (by kernel_rfl))
  f245 := Tryd.func76.trans (congrArg some (by kernel_rfl))
  f246 := Tryd.func66.trans (congrArg some (by kernel_rfl))
  f247 := Tryd.func87.trans (congrArg some (by kernel_rfl))
  f279 := Tryd.func88.trans (congrArg some (by kernel_rfl))
  f280 := Tryd.func89.trans (congrArg some (by kernel_rfl))
  f281 := Tryd.func90.trans (congrArg some (by kernel_rfl))
  f282 := Tryd.func91.trans (congrArg some (by kernel_rfl))
  f283 := Tryd.func79.trans (congrArg some (by kernel_rfl))
  f284 := Tryd.func80.trans (congrArg some (by kernel_rfl))
  f285 := Tryd.func81.trans (congrArg some (by kernel_rfl))
  f286 := Tryd.func82.trans (congrArg some (by kernel_rfl))
  f287 := Tryd.func104.trans (congrArg some (by kernel_rfl))
  f316 := Tryd.func105.trans (congrArg some (by kernel_rfl))
  f317 := Tryd.func96.trans (congrArg some (by kernel_rfl))
  f318 := Tryd.func98.trans (congrArg some (by kernel_rfl))
  f319 := Tryd.func99.trans (congrArg some (by kernel_rfl))
  f320 := Tryd.func100.trans (congrArg some (by kernel_rfl))
  f321 := Tryd.func111.trans (congrArg some (by kernel_rfl))
  f322 := Tryd.func112.trans (congrArg some (by kernel_rfl))
  f337 := Tryd.func109.trans (congrArg some (by kernel_rfl))
  f338 := Tryd.func110.trans (congrArg some (by kernel_rfl))
  t0 := Tryd.underlying0
  a0 := Tryd.isAgg0
  z0 := Tryd.sizeOf0
  v0 := Tryd.zeroValue0
  t2 := Tryd.underlying2
  a2 := Tryd.isAgg2
  z2 := Tryd.sizeOf2
  v2 := Tryd.zeroValue2
  t3 := Tryd.underlying3
  a3 := Tryd.isAgg3
  z3 := Tryd.sizeOf3
  v3 := Tryd.zeroValue3
  t4 := Tryd.underlying4
  a4 := Tryd.isAgg4
  z4 := Tryd.sizeOf4
  v4 := Tryd.zeroValue4
  t5 := Tryd.underlying5
  a5 := Tryd.isAgg5
  z5 := Tryd.sizeOf5
  v5 := Tryd.zeroValue5
  t9 := Tryd.underlying9
  a9 := Tryd.isAgg9
  z9 := Tryd.sizeOf9
  v9 := Tryd.zeroValue9
  t20 := Tryd.underlying20
  a20 := Tryd.isAgg20
  z20 := Tryd.sizeOf20
  v20 := Tryd.zeroValue20
  t21 := Tryd.underlying21
  a21 := Tryd.isAgg21
  z21 := Tryd.sizeOf21
  v21 := Tryd.zeroValue21
  t37 := Tryd.underlying41
  a37 := Tryd.isAgg41
  z37 := Tryd.sizeOf41
  v37 := Tryd.zeroValue41
  t46 := Tryd.underlying113
  a46 := Tryd.isAgg113
  z46 := Tryd.sizeOf113
  v46 := Tryd.zeroValue113
  t51 := Tryd.underlying117
  a51 := Tryd.isAgg117
  z51 := Tryd.sizeOf117
  v51 := Tryd.zeroValue117
  t53 := Tryd.underlying99
  a53 := Tryd.isAgg99
  z53 := Tryd.sizeOf99
  v53 := Tryd.zeroValue99
  t75 := Tryd.underlying78
  a75 := Tryd.isAgg78
  z75 := Tryd.sizeOf78
  v75 := Tryd.zeroValue78
  t76 := Tryd.underlying79
  a76 := Tryd.isAgg79
  z76 := Tryd.sizeOf79
  v76 := Tryd.zeroValue79
  t85 := Tryd.underlying108
  a85 := Tryd.isAgg108
  z85 := Tryd.sizeOf108
  v85 := Tryd.zeroValue108
  t127 := Tryd.underlying106
  a127 := Tryd.isAgg106
  z127 := Tryd.sizeOf106
  v127 := Tryd.zeroValue106
  t143 := Tryd.underlying133
  a143 := Tryd.isAgg133
  z143 := Tryd.sizeOf133
  v143 := Tryd.zeroValue133
  t145 := Tryd.underlying135
  a145 := Tryd.isAgg135
  z145 := Tryd.sizeOf135
  v145 := Tryd.zeroValue135
  t167 := Tryd.underlying107
  a167 := Tryd.isAgg107
  z167 := Tryd.sizeOf107
  v167 := Tryd.zeroValue107
  t168 := Tryd.underlying110
  a168 := Tryd.isAgg110
  z168 := Tryd.sizeOf110
  v168 := Tryd.zeroValue110
  t171 := Tryd.underlying98
  a171 := Tryd.isAgg98
  z171 := Tryd.sizeOf98
  v171 := Tryd.zeroValue98
  t173 := Tryd.underlying102
  a173 := Tryd.isAgg102
  z173 := Tryd.sizeOf102
  v173 := Tryd.zeroValue102
  t175 := Tryd.underlying123
  a175 := Tryd.isAgg123
  z175 := Tryd.sizeOf123
  v175 := Tryd.zeroValue123
  t210 := Tryd.underlying127
  a210 := Tryd.isAgg127
  z210 := Tryd.sizeOf127
  v210 := Tryd.zeroValue127
  t212 := Tryd.underlying116
  a212 := Tryd.isAgg116
  z212 := Tryd.sizeOf116
  v212 := Tryd.zeroValue116
  t213 := Tryd.underlying118
  a213 := Tryd.isAgg118
  z213 := Tryd.sizeOf118
  t232 := Tryd.underlying136
  a232 := Tryd.isAgg136
  z232 := Tryd.sizeOf136
  v232 := Tryd.zeroValue136
  t233 := Tryd.underlying137
  a233 := Tryd.isAgg137
  z233 := Tryd.sizeOf137
  v233 := Tryd.zeroValue137
  g15 := by kernel_rfl
  g16 := by kernel_rfl
  g17 := by kernel_rfl
  g18 := by kernel_rfl
  g19 := by kernel_rfl
  t80 := Tryd.underlying95
  a80 := Tryd.isAgg95
  z80 := Tryd.sizeOf95
  v80 := Tryd.zeroValue95
  i0 := by kernel_rfl
  i2 := by kernel_rfl
  i3 := by kernel_rfl
  i4 := by kernel_rfl
  i5 := by kernel_rfl
  i9 := by kernel_rfl
  i20 := by kernel_rfl
  i21 := by kernel_rfl
  i37 := by kernel_rfl
  i46 := by kernel_rfl
  i51 := by kernel_rfl
  i53 := by kernel_rfl
  i75 := by kernel_rfl
  i76 := by kernel_rfl
  i80 := by kernel_rfl
  i85 := by kernel_rfl
  i127 := by kernel_rfl
  i143 := by kernel_rfl
  i145 := by kernel_rfl
  i167 := by kernel_rfl
  i168 := by kernel_rfl
  i171 := by kernel_rfl
  i173 := by kernel_rfl
  i175 := by kernel_rfl
  i210 := by kernel_rfl
  i212 := by kernel_rfl
  i232 := by kernel_rfl
  i233 := by kernel_rfl
  m15 := by kernel_rfl
  m16 := by kernel_rfl
  m17 := by kernel_rfl
  m18 := by kernel_rfl
  m19 := by kernel_rfl
  c0 := by kernel_rfl
  c2 := by kernel_rfl
  c3 := by kernel_rfl
  c4 := by kernel_rfl
  c5 := by kernel_rfl
  c9 := by kernel_rfl
  c20 := by kernel_rfl
  c21 := by kernel_rfl
  c37 := by kernel_rfl
  c46 := by kernel_rfl
  c51 := by kernel_rfl
  c53 := by kernel_rfl
  c75 := by kernel_rfl
  c76 := by kernel_rfl
  c80 := by kernel_rfl
  c85 := by kernel_rfl
  c127 := by kernel_rfl
  c143 := by kernel_rfl
  c145 := by kernel_rfl
  c167 := by kernel_rfl
  c168 := by kernel_rfl
  c171 := by kernel_rfl
  c173 := by kernel_rfl
  c175 := by kernel_rfl
  c210 := by kernel_rfl
  c212 := by kernel_rfl
  c213 := by kernel_rfl
  c232 := by kernel_rfl
  c233 := by kernel_rfl }
open Go.RowKit in
theorem Tryd.strconv_Atoi_ok (s : ByteArray) (hmax : s.size ≤ 9223372036854775806) (v : Int) (h : Lib.atoiAll s.data.toList = .ok v) (w : World) :
    Calls Tryd.prog 62 #[.string s] w fun e w' => e = .returned (.tuple #[.int .i64 v, .nilIface]) ∧ (w' = w ∨ ∃ t, w' = Lib.bytesWorld w 5 t) := Any.strconv_Atoi_ok Tryd.laysC172 s hmax v h w
open Go.RowKit in
theorem Tryd.strconv_Atoi_syntax (s : ByteArray) (hlim : s.size ≤ 281474976710656) (h : Lib.atoiAll s.data.toList = .«syntax») (ev : Value) (w : World) (hv : w.cell? ⟨2, 0, none⟩ = some ev) (hev : ev = .nilIface ∨ ∃ te pe, ev = .iface te pe) :
    Calls Tryd.prog 62 #[.string s] w fun e w' => ∃ N, e = .returned (.tuple #[.int .i64 (0), .iface 110 (.pointer (some ⟨N, 0, none⟩))]) ∧ w.heap.size ≤ N ∧ w'.heap[N]? = some (.cells #[.string ⟨#[65, 116, 111, 105]⟩, .string s, ev] 127 (0, 0)) ∧ Below w.heap.size w w' := Any.strconv_Atoi_syntax Tryd.laysC172 s hlim h ev w hv hev
open Go.RowKit in
theorem Tryd.strconv_Atoi_range (s : ByteArray) (hlim : s.size ≤ 281474976710656) (h : Lib.atoiAll s.data.toList = .range) (ev : Value) (w : World) (hv : w.cell? ⟨3, 0, none⟩ = some ev) (hev : ev = .nilIface ∨ ∃ te pe, ev = .iface te pe) :
    Calls Tryd.prog 62 #[.string s] w fun e w' => ∃ N, e = .returned (.tuple #[.int .i64 (Lib.atoiSat s.data.toList), .iface 110 (.pointer (some ⟨N, 0, none⟩))]) ∧ w.heap.size ≤ N ∧ w'.heap[N]? = some (.cells #[.string ⟨#[65, 116, 111, 105]⟩, .string s, ev] 127 (0, 0)) ∧ Below w.heap.size w w' := Any.strconv_Atoi_range Tryd.laysC172 s hlim h ev w hv hev
def Tryd.lays145_ren : Go.Shelf.Ren := ⟨fun | 145 => 53 | 220 => 65 | 219 => 78 | 217 => 92 | 225 => 93 | 224 => 94 | 267 => 95 | 266 => 107 | 314 => 108 | n => n, fun | 9 => 9 | 4 => 4 | 59 => 68 | 3 => 3 | 5 => 5 | 46 => 113 | 146 => 129 | 51 => 117 | n => n, fun | 1 => 0 | n => n⟩
theorem Tryd.lays145 : Go.Proofs.Lays.n145 Tryd.prog Tryd.lays145_ren := {
  mixed := by kernel_rfl
  f145 := Tryd.func53.trans (congrArg some (by kernel_rfl))
  f217 := Tryd.func92.trans (congrArg some (by kernel_rfl))
  f219 := Tryd.func78.trans (congrArg some (by kernel_rfl))
  f220 := Tryd.func65.trans (congrArg some (by kernel_rfl))
  f224 := Tryd.func94.trans (congrArg some (by kernel_rfl))
  f225 := Tryd.func93.trans (congrArg some (by kernel_rfl))
  f266 := Tryd.func107.trans (congrArg some (by kernel_rfl))
  f267 := Tryd.func95.trans (congrArg some (by kernel_rfl))
  f314 := Tryd.func108.trans (congrArg some (by kernel_rfl))
  t3 := Tryd.underlying3
  a3 := Tryd.isAgg3
  z3 := Tryd.sizeOf3
  v3 := Tryd.zeroValue3
  t4 := Tryd.underlying4
  a4 := Tryd.isAgg4
  z4 := Tryd.sizeOf4
  v4 := Tryd.zeroValue4
  t5 := Tryd.underlying5
  a5 := Tryd.isAgg5
  z5 := Tryd.sizeOf5
  v5 := Tryd.zeroValue5
  t9 := Tryd.underlying9
  a9 := Tryd.isAgg9
  z9 := Tryd.sizeOf9
  v9 := Tryd.zeroValue9
  t46 := Tryd.underlying113
  a46 := Tryd.isAgg113
  z46 := Tryd.sizeOf113
  v46 := Tryd.zeroValue113
  t51 := Tryd.underlying117
  a51 := Tryd.isAgg117
  z51 := Tryd.sizeOf117
  v51 := Tryd.zeroValue117
  t59 := Tryd.underlying68
  a59 := Tryd.isAgg68
  z59 := Tryd.sizeOf68
  v59 := Tryd.zeroValue68
  t146 := Tryd.underlying129
  a146 := Tryd.isAgg129
  z146 := Tryd.sizeOf129
  v146 := Tryd.zeroValue129
  g1 := by kernel_rfl }
open Go.RowKit Go.Lib in
theorem Tryd.strings_Cut (s sep : ByteArray) (m : Int) (w : World) (hs : s.size < 4294967281) (hm : w.cell? ⟨0, 0, none⟩ = some (.int .i64 m)) :
    Calls Tryd.prog 53 #[.string s, .string sep] w fun e w' => e = .returned (.tuple #[.string ⟨(Lib.cut s.data.toList sep.data.toList).1.toArray⟩, .string ⟨(Lib.cut s.data.toList sep.data.toList).2.1.toArray⟩, .bool (Lib.cut s.data.toList sep.data.toList).2.2]) ∧ ∃ n, w' = w.drewN n := Any.strings_Cut Tryd.lays145 s sep m w hs hm
end Go.Proofs
namespace Go.Proofs.YthhgcdfdjlijjaaDoor.G
open Go.RowKit Go.Proofs.YthhgcdfdjlijjaaDoorW.PrintWords Go.Proofs.YthhgcdfdjlijjaaDoorW.PrintLast Go.Proofs.YthhgcdfdjlijjaaDoorW.PrintMore
set_option linter.unusedVariables false
set_option linter.unusedSimpArgs false
noncomputable def gOf (n : String) : Nat := (Tryd.prog.globalNamed n).getD 0
def T1 (w : World) : Prop := Lib.TabIs Tryd.prog w "internal/strconv.uint64pow10" .u64 Lib.pow10Tab
def T2 (w : World) : Prop := T1 w ∧ (∃ ev, w.cell? ⟨gOf "strconv.ErrSyntax", 0, none⟩ = some ev ∧ (ev = .nilIface ∨ ∃ te pe, ev = .iface te pe)) ∧ (∃ ev, w.cell? ⟨gOf "strconv.ErrRange", 0, none⟩ = some ev ∧ (ev = .nilIface ∨ ∃ te pe, ev = .iface te pe))
def T3 (w : World) : Prop := T2 w ∧ ∃ m, w.cell? ⟨gOf "internal/bytealg.MaxLen", 0, none⟩ = some (.int .i64 m)
theorem T1.below {w w' : World} (h : T1 w) (hb : Below w.heap.size w w') : T1 w' := Go.Joins.tab_stays (g := gOf "internal/strconv.uint64pow10") (by kernel_rfl) h hb (Nat.le_refl _)
theorem cell_stays {w w' : World} {g : Nat} {v : Value} (h : w.cell? ⟨g, 0, none⟩ = some v) (hb : Below w.heap.size w w') : w'.cell? ⟨g, 0, none⟩ = some v := (hb.cell (World.block_lt_of_cell? w _ h)).trans h
theorem T2.below {w w' : World} (h : T2 w) (hb : Below w.heap.size w w') : T2 w' := by
 obtain ⟨h1, ⟨e, he, h2⟩, ⟨e', he', h3⟩⟩ := h
 exact ⟨h1.below hb, ⟨e, cell_stays he hb, h2⟩, ⟨e', cell_stays he' hb, h3⟩⟩
theorem T3.below {w w' : World} (h : T3 w) (hb : Below w.heap.size w w') : T3 w' := by
 obtain ⟨h1, m, hm⟩ := h
 exact ⟨h1.below hb, m, cell_stays hm hb⟩
def itoaB (n : Int) : ByteArray := ⟨(Lib.itoa n).toArray⟩
theorem itoa_calls {n : Int} (h0 : -9223372036854775808 ≤ n) (h1 : n ≤ 9223372036854775807) {w : World} (hT : T1 w) : Calls Tryd.prog 36 #[.int .i64 n] w fun e w' => e = .returned (.string (itoaB n)) ∧ Below w.heap.size w w' :=
 (Tryd.strconv_Itoa n h0 h1 w hT).mono fun e w' ⟨he, k, os, hw⟩ => ⟨he, hw ▸ Lib.below_grow _ w (Nat.le_refl _) k os⟩
def impl_FormatInt.f (n : Int) : Option ByteArray := if -9223372036854775808 ≤ n ∧ n ≤ 9223372036854775807 then some (itoaB n) else none
theorem impl_FormatInt.calls (a0 : Int) (r : ByteArray) (w : World) (h : impl_FormatInt.f a0 = some r) (hT : T1 w) :
  Calls Tryd.prog 12 #[.int .i64 a0] w fun e w' => e = .returned (.string r) ∧ Below w.heap.size w w' := by
 unfold impl_FormatInt.f at h
 by_cases hs : -9223372036854775808 ≤ a0 ∧ a0 ≤ 9223372036854775807
 ·rw [if_pos hs] at h
  obtain rfl := Option.some.inj h
  clear h
  go_enter Tryd.func12, Tryd.ntmps12
  go_wp2_with (go_at_call 36; refine (itoa_calls hs.1 hs.2 hT).mono ?_; rintro e w1 ⟨rfl, hb1⟩; have HB1 := Aside0.mk hb1; clear hb1)
  go_ret
  exact ⟨rfl, HB1.out⟩
 rw [if_neg hs] at h
 cases h
def impl_whole.f (s : ByteArray) (least most : Int) : Option (Int × Bool) :=
 if s.size ≤ 281474976710656 then
  match Lib.atoiAll s.data.toList with
  | .ok v => if v < least then some (0, false) else if v > most then some (0, false) else if (itoaB v).toList = s.toList then some (v, true) else some (0, false)
  | .syntax => some (0, false)
  | .range => some (0, false)
 else none
theorem bytes_below' {w w' : World} {t : TypeId} {s : ByteArray} (h : w' = w ∨ ∃ t', w' = Lib.bytesWorld w t t') : Below w.heap.size w w' := by
 rcases h with rfl | ⟨s, rfl⟩
 ·exact Below.refl _ _
 exact bytes_below (Below.refl _ _) (Nat.le_refl _) _ _
theorem impl_whole.calls (a0 : ByteArray) (a1 : Int) (a2 : Int) (r1 : Int) (r2 : Bool) (w : World) (h : impl_whole.f a0 a1 a2 = some (r1, r2)) (hT : T2 w) :
  Calls Tryd.prog 46 #[.string a0, .int .i64 a1, .int .i64 a2] w fun e w' => e = .returned (.tuple #[.int .i64 r1, .bool r2]) ∧ Below w.heap.size w w' := by
 unfold impl_whole.f at h
 by_cases hs : a0.size ≤ 281474976710656
 ·rw [if_pos hs] at h
  obtain ⟨hT1, ⟨e1, he1, k1⟩, ⟨e2, he2, k2⟩⟩ := hT
  cases ha : Lib.atoiAll a0.data.toList with
  | «syntax» =>
   rw [ha] at h
   simp only [Option.some.injEq, Prod.mk.injEq] at h
   obtain ⟨rfl, rfl⟩ := h
   go_enter Tryd.func46, Tryd.ntmps46
   go_wp2_with (go_at_call 62; refine (Tryd.strconv_Atoi_syntax a0 hs ha e1 w he1 k1).mono ?_; rintro e w1 ⟨N, rfl, _, _, hb1⟩; have HB1 := Aside0.mk hb1; clear hb1)
   go_ret2
   exact ⟨rfl, HB1.out⟩
  | range =>
   rw [ha] at h
   simp only [Option.some.injEq, Prod.mk.injEq] at h
   obtain ⟨rfl, rfl⟩ := h
   go_enter Tryd.func46, Tryd.ntmps46
   go_wp2_with (go_at_call 62; refine (Tryd.strconv_Atoi_range a0 hs ha e2 w he2 k2).mono ?_; rintro e w1 ⟨N, rfl, _, _, hb1⟩; have HB1 := Aside0.mk hb1; clear hb1)
   go_ret2
   exact ⟨rfl, HB1.out⟩
  | ok v =>
  rw [ha] at h
  simp only at h
  have vb : -9223372036854775808 ≤ v ∧ v ≤ 9223372036854775807 := Lib.atoiAll_bounds ha
  have A := (Tryd.strconv_Atoi_ok a0 (by omega) v ha w)
  by_cases c1 : v < a1
  ·rw [if_pos c1] at h
   have c1b : decide (v < a1) = true := decide_eq_true c1
   simp only [Option.some.injEq, Prod.mk.injEq] at h
   obtain ⟨rfl, rfl⟩ := h
   go_enter Tryd.func46, Tryd.ntmps46
   go_wp2_with (go_at_call 62; refine A.mono ?_; rintro e w1 ⟨rfl, hb1⟩; have HB1 := Aside0.mk (bytes_below' (s := a0) hb1); clear hb1)
   go_ret2
   exact ⟨rfl, HB1.out⟩
  rw [if_neg c1] at h
  have c1b : decide (v < a1) = false := decide_eq_false c1
  by_cases c2 : v > a2
  ·rw [if_pos c2] at h
   have c2b : decide (a2 < v) = true := decide_eq_true c2
   simp only [Option.some.injEq, Prod.mk.injEq] at h
   obtain ⟨rfl, rfl⟩ := h
   go_enter Tryd.func46, Tryd.ntmps46
   go_wp2_with (go_at_call 62; refine A.mono ?_; rintro e w1 ⟨rfl, hb1⟩; have HB1 := Aside0.mk (bytes_below' (s := a0) hb1); clear hb1)
   go_ret2
   exact ⟨rfl, HB1.out⟩
  rw [if_neg c2] at h
  have c2b : decide (a2 < v) = false := decide_eq_false c2
  by_cases c3 : (itoaB v).toList = a0.toList
  ·rw [if_pos c3] at h
   have c3b0 : ((itoaB v).toList == a0.toList) = true := beq_iff_eq.mpr c3
   have c3b1 : ((itoaB v).toList != a0.toList) = false := bne_eq_false_iff_eq.mpr c3
   simp only [Option.some.injEq, Prod.mk.injEq] at h
   obtain ⟨rfl, rfl⟩ := h
   go_enter Tryd.func46, Tryd.ntmps46
   go_wp2_with (first | (go_at_call 62; refine A.mono ?_; rintro e w1 ⟨rfl, hb1⟩; have HB1 := Aside0.mk (bytes_below' (s := a0) hb1); clear hb1) | (go_at_call 36; refine (itoa_calls vb.1 vb.2 (hT1.below HB1.out)).mono ?_; rintro e w2 ⟨rfl, hb2⟩; have HB2 := Aside0.mk (below_step HB1.out hb2); clear hb2))
   go_ret2
   exact ⟨rfl, HB2.out⟩
  rw [if_neg c3] at h
  have c3b0 : ((itoaB v).toList == a0.toList) = false := beq_eq_false_iff_ne.mpr c3
  have c3b1 : ((itoaB v).toList != a0.toList) = true := bne_iff_ne.mpr c3
  simp only [Option.some.injEq, Prod.mk.injEq] at h
  obtain ⟨rfl, rfl⟩ := h
  go_enter Tryd.func46, Tryd.ntmps46
  go_wp2_with (first | (go_at_call 62; refine A.mono ?_; rintro e w1 ⟨rfl, hb1⟩; have HB1 := Aside0.mk (bytes_below' (s := a0) hb1); clear hb1) | (go_at_call 36; refine (itoa_calls vb.1 vb.2 (hT1.below HB1.out)).mono ?_; rintro e w2 ⟨rfl, hb2⟩; have HB2 := Aside0.mk (below_step HB1.out hb2); clear hb2))
  go_ret2
  exact ⟨rfl, HB2.out⟩
 rw [if_neg hs] at h
 cases h
def strings_Cut.f (s t : ByteArray) : Option (ByteArray × ByteArray × Bool) :=
 if s.size < 4294967281 then some (⟨(Lib.cut s.data.toList t.data.toList).1.toArray⟩, ⟨(Lib.cut s.data.toList t.data.toList).2.1.toArray⟩, (Lib.cut s.data.toList t.data.toList).2.2) else none
theorem strings_Cut.calls (a0 : ByteArray) (a1 : ByteArray) (r1 : ByteArray) (r2 : ByteArray) (r3 : Bool) (w : World) (h : strings_Cut.f a0 a1 = some (r1, r2, r3)) (hT : T3 w) :
  Calls Tryd.prog 53 #[.string a0, .string a1] w fun e w' => e = .returned (.tuple #[.string r1, .string r2, .bool r3]) ∧ Below w.heap.size w w' := by
 unfold strings_Cut.f at h
 by_cases hs : a0.size < 4294967281
 ·rw [if_pos hs] at h
  simp only [Option.some.injEq, Prod.mk.injEq] at h
  obtain ⟨rfl, rfl, rfl⟩ := h
  obtain ⟨_, m, hm⟩ := hT
  refine (Tryd.strings_Cut a0 a1 m w hs hm).mono fun e w' ⟨he, k, hw⟩ => ⟨he, ?_⟩
  subst hw
  exact Lib.below_grow _ w (Nat.le_refl _) k #[]
 rw [if_neg hs] at h
 cases h
end Go.Proofs.YthhgcdfdjlijjaaDoor.G
namespace Go.Proofs.YthhgcdfdjlijjaaDoor.G
open Go.RowKit
set_option linter.unusedVariables false
def l3 : List (String × DataW Unit) := [("math/bits.deBruijn32tab", Rows.laid_math_bits_deBruijn32tab), ("math/bits.deBruijn64tab", Rows.laid_math_bits_deBruijn64tab), ("internal/strconv.uint64pow10", Rows.laid_internal_strconv_uint64pow10)]
def l5 : List (String × DataW Unit) := [("math/bits.deBruijn32tab", Rows.laid_math_bits_deBruijn32tab), ("math/bits.deBruijn64tab", Rows.laid_math_bits_deBruijn64tab), ("internal/strconv.uint64pow10", Rows.laid_internal_strconv_uint64pow10), ("strconv.ErrRange", Rows.laid_strconv_ErrRange), ("strconv.ErrSyntax", Rows.laid_strconv_ErrSyntax)]
noncomputable def tabT : Nat := ((Tryd.prog.globals[gOf "internal/strconv.uint64pow10"]?).map (·.type)).getD 0
theorem tab_of {r : List (String × DataW Unit)} {W : World} (h : laidMet Tryd.prog (("internal/strconv.uint64pow10", Rows.laid_internal_strconv_uint64pow10) :: r) W) : T1 W :=
  Lib.tabIs_of_head (g := gOf "internal/strconv.uint64pow10") (t := tabT) (e := 99) (n := 20) (by kernel_rfl) (by kernel_rfl) (by kernel_rfl) (by kernel_rfl) (by kernel_rfl) (by kernel_rfl) h
theorem star : "*" ++ "errors.errorString" = "*errors.errorString" := by decide
theorem rowE (u : TypeId) (h : Tryd.prog.typeName? 3 u = some "*errors.errorString") : u = 133 :=
  typeName_ptr_named (nm := "errors.errorString") (by rw [star]; kernel_rfl) (by kernel_rfl) (by decide) u (by rw [star]; exact h)
theorem err_of {n : String} {text : List UInt8} {r : List (String × DataW Unit)} {W : World} (hg : Tryd.prog.globalNamed n = some (gOf n)) (ht : (Tryd.prog.globals[gOf n]?).map (·.type) = some 78)
    (h : laidMet Tryd.prog ((n, .iface "*errors.errorString" (.ptr (.agg [.lit (.string text)]))) :: r) W) : ∃ ev, W.cell? ⟨gOf n, 0, none⟩ = some ev ∧ (ev = .nilIface ∨ ∃ te pe, ev = .iface te pe) := by
  obtain ⟨a, s, hv, _⟩ := laid_sentinel h hg ht Tryd.underlying78 rowE Tryd.underlying133 Tryd.underlying135 rfl rfl Tryd.underlying9 (by kernel_rfl) (by kernel_rfl)
  exact ⟨_, by simpa using World.var?_cell hg hv 0, .inr ⟨_, _, rfl⟩⟩
theorem laid3_T1 {W : World} (h : laidMetH Tryd.prog l3 W) : T1 W := by
  rw [MakeChecks.laidMetH_plain _ _ _ (by kernel_rfl)] at h
  exact tab_of h.tail.tail
theorem laid5_T1 {W : World} (h : laidMetH Tryd.prog l5 W) : T1 W := by
  rw [MakeChecks.laidMetH_plain _ _ _ (by kernel_rfl)] at h
  exact tab_of h.tail.tail
theorem laid5_T2 {W : World} (h : laidMetH Tryd.prog l5 W) : T2 W := by
  refine ⟨laid5_T1 h, ?_, ?_⟩
  · rw [MakeChecks.laidMetH_plain _ _ _ (by kernel_rfl)] at h
    exact err_of (by kernel_rfl) (by kernel_rfl) h.tail.tail.tail.tail
  · rw [MakeChecks.laidMetH_plain _ _ _ (by kernel_rfl)] at h
    exact err_of (by kernel_rfl) (by kernel_rfl) h.tail.tail.tail
set_option maxRecDepth 100000 in
theorem met3 (os : Os) (args : Array Value) : laidMetH Tryd.prog l3 ((World.doorLaid Tryd.prog 24 os).forCall (fun _ _ => 0) ⟨#[], args, []⟩).memory :=
  laidMetH_of_parts3 (fuel := 8) (laidMet_of_run' 8 (by kernel_rfl) (by kernel_rfl)) (by kernel_rfl) (by kernel_rfl)
set_option maxRecDepth 100000 in
theorem met5 (os : Os) (args : Array Value) : laidMetH Tryd.prog l5 ((World.doorLaid Tryd.prog 62 os).forCall (fun _ _ => 0) ⟨#[], args, []⟩).memory :=
  laidMetH_of_parts3 (fuel := 8) (laidMet_of_run' 8 (by kernel_rfl) (by kernel_rfl)) (by kernel_rfl) (by kernel_rfl)
end Go.Proofs.YthhgcdfdjlijjaaDoor.G
namespace Go.Proofs.YthhgcdfdjlijjaaDoor.PX
open Go.RowKit Go.Proofs.YthhgcdfdjlijjaaDoor.G Go.Proofs.YthhgcdfdjlijjaaDoorW.PrintWords Go.Proofs.YthhgcdfdjlijjaaDoorW.PrintLast Go.Proofs.YthhgcdfdjlijjaaDoorW.PrintMore
attribute [local go_sem] max2_int min2_int max_two min_two max_three min_three max_four min_four   -- for this text's walks alone
set_option linter.unusedVariables false
set_option linter.unusedSimpArgs false
def errW : Option Int → Value
 | none => .nilIface
 | some c => .iface 107 (.int .i64 c)
theorem errW_none : errW none = .nilIface := rfl
theorem errW_some (c : Int) : errW (some c) = .iface 107 (.int .i64 c) := rfl
theorem info9 : (Tryd.prog.info? 9).map (fun i => (i.zero, i.size, i.bytes)) = some (some (.string ⟨#[]⟩), 1, 16) := by kernel_rfl
/-! #### struct type 58 -/
structure S58 where
 f0 : Int
 f1 : Int
/-! #### struct type 55 -/
structure S55 where
 f0 : Int
 f1 : Int
/-! #### struct type 76 -/
structure S76 where
 f0 : Int
 f1 : Int
 f2 : Int
def z76 : S76 := ⟨(0 : Int), (0 : Int), (0 : Int)⟩
/-! ### spec_l1In: function 55 -/
def spec_l1In.f (a0 : Int) (a1 : Int) (a2 : Int) : Option (Bool) := if a0 ≥ a1 then (some (decide (a0 ≤ a2))) else (some false)
set_option maxHeartbeats 8000000 in
set_option maxRecDepth 100000 in
theorem spec_l1In.calls (a0 : Int) (a1 : Int) (a2 : Int) (r : Bool) (w : World) (h : spec_l1In.f a0 a1 a2 = some r) :
  Calls Tryd.prog 55 #[.int .i64 a0, .int .i64 a1, .int .i64 a2] w fun e w' => e = .returned (.bool r) ∧ Drawn0 w w' := by
 have H : (if a0 ≥ a1 then (some (decide (a0 ≤ a2))) else (some false)) = some r := h
 clear h
 by_cases c4 : a0 ≥ a1
 ·rw [if_pos c4] at H
  have c4b0 : decide (a1 ≤ a0) = true := decide_eq_true c4
  clear c4
  obtain rfl := Option.some.inj H
  go_enter Tryd.func55, Tryd.ntmps55
  go_wp2
  go_ret
  exact ⟨by first | rfl | (simp; done) | (simp [*]; done), by repeat (first | exact Drawn0.refl _ | apply Drawn0.step)⟩
 rw [if_neg c4] at H
 have c4b0 : decide (a1 ≤ a0) = false := decide_eq_false c4
 clear c4
 obtain rfl := Option.some.inj H
 go_enter Tryd.func55, Tryd.ntmps55
 go_wp2
 go_ret
 exact ⟨by first | rfl | (simp; done) | (simp [*]; done), by repeat (first | exact Drawn0.refl _ | apply Drawn0.step)⟩
/-! ### spec_AreSigns: function 37 -/
mutual
def spec_AreSigns.j0 : Nat → Bool → Int → ByteArray → Option (Bool)
 | 0, _, _, _ => none
 | k + 1, x24, x130000, x130001 => if x24 = true then (some false) else (spec_AreSigns.l0 k 0 x130000 x130001)
def spec_AreSigns.l0 : Nat → Int → Int → ByteArray → Option (Bool)
 | 0, _, _, _ => none
 | k + 1, x3, x130000, x130001 => if x3 < (x130001.size : Int) then (if 0 ≤ x3 then (if (bt x130001 x3) = 43 then (spec_AreSigns.l0 k (wrap64 (x3 + 1)) x130000 x130001) else (if (bt x130001 x3) = 45 then (spec_AreSigns.l0 k (wrap64 (x3 + 1)) x130000 x130001) else (some false))) else (none)) else (some true)
end
def spec_AreSigns.f (k : Nat) (a0_0 : Int) (a0_1 : ByteArray) : Option (Bool) := (spec_l1In.f a0_0 3 7).bind fun t130 => (if t130 = true then (spec_AreSigns.j0 k ((a0_1.size : Int) != (wrap64 (Int.tdiv (wrap64 ((wrap64 (a0_0 * (wrap64 (a0_0 - 1)))) * (wrap64 (a0_0 - 2)))) 6))) a0_0 a0_1) else (spec_AreSigns.j0 k true a0_0 a0_1))
set_option maxHeartbeats 8000000 in
set_option maxRecDepth 100000 in
theorem spec_AreSigns.calls (k : Nat) (a0_0 : Int) (a0_1 : ByteArray) (r : Bool) (w : World) (h : spec_AreSigns.f k a0_0 a0_1 = some r) :
  Calls Tryd.prog 37 #[.agg #[.int .i64 a0_0, .string a0_1]] w fun e w' => e = .returned (.bool r) ∧ Below w.heap.size w w' := by
 have hu28 := Tryd.underlying28
 have HB := Aside0.mk (Below.refl w.heap.size w)
 have H : ((spec_l1In.f a0_0 3 7).bind fun t130 => (if t130 = true then (spec_AreSigns.j0 k ((a0_1.size : Int) != (wrap64 (Int.tdiv (wrap64 ((wrap64 (a0_0 * (wrap64 (a0_0 - 1)))) * (wrap64 (a0_0 - 2)))) 6))) a0_0 a0_1) else (spec_AreSigns.j0 k true a0_0 a0_1))) = some r := h
 clear h
 have HC2 := Aside0.mk H
 clear H
 go_enter Tryd.func37, Tryd.ntmps37
 go_upto_region 1 with (first | ((with_reducible refine gate_dst (N := 1) rfl ?_); (try (refine gate_guard (by rfl) ?_; dsimp only)); refine zBx (N := 1) #[.int .i64 a0_0, .string a0_1] 28 ?_; intro gb129 hg w3 hbox hb; have BK129 := Aside0.mk (hbox); have GW129 := zS hg; have GE129 := zS hg; replace HB := zX hb; clear hb hbox hg))
 (try simp only [Act.put, List.setIfInBounds_toArray, List.set_cons_zero, List.set_cons_succ])
 go_cut [24] (fun v24 wc => ∃ (kq : Nat) (x24_1 : Bool), v24 = .bool x24_1 ∧ Aside0 (spec_AreSigns.j0 kq x24_1 a0_0 a0_1 = some r) ∧ Aside0 (kq ≤ k) ∧ Aside0 (wc.heap[gb129]? = some (.cells #[.int .i64 a0_0, .string a0_1] 28 (0, 0))) ∧ Aside0 (Below w.heap.size w wc))
 case first =>
  have H := HC2.out
  clear HC2
  obtain ⟨t130, A4, H⟩ := zO H
  by_cases c5 : t130 = true
  ·subst c5
   replace H := (if_pos rfl).symm.trans H
   have H' := Aside0.mk H; clear H
   obtain ⟨hcz6_0, hcz6_1, hfz6_0, hfz6_1⟩ := zq2 BK129.out
   go_wp2_with (first | ((with_reducible refine gate_callee (f := 55) rfl ?_); refine zD (some 6) Tryd.func55 #[.int .i64 a0_0, .int .i64 3, .int .i64 7] ?_; (with_reducible refine (spec_l1In.calls a0_0 3 7 true _ A4.out).mono ?_); rintro e w' ⟨rfl, ⟨nd, rfl⟩⟩; refine ⟨_, rfl, ?_⟩))
   go_meet
   case rel => exact ⟨_, (((a0_1.size : Int) != (wrap64 (Int.tdiv (wrap64 ((wrap64 (a0_0 * (wrap64 (a0_0 - 1)))) * (wrap64 (a0_0 - 2)))) 6)))), zF, H', ⟨by first | omega | exact Nat.le_refl _⟩, ⟨zK BK129.out⟩, ⟨zG GE129.out⟩⟩
  replace c5 := Bool.eq_false_iff.mpr c5
  subst c5
  replace H := (if_neg zFf).symm.trans H
  have H' := Aside0.mk H; clear H
  obtain ⟨hcz7_0, hcz7_1, hfz7_0, hfz7_1⟩ := zq2 BK129.out
  go_wp2_with (first | ((with_reducible refine gate_callee (f := 55) rfl ?_); refine zD (some 6) Tryd.func55 #[.int .i64 a0_0, .int .i64 3, .int .i64 7] ?_; (with_reducible refine (spec_l1In.calls a0_0 3 7 false _ A4.out).mono ?_); rintro e w' ⟨rfl, ⟨nd, rfl⟩⟩; refine ⟨_, rfl, ?_⟩))
  go_meet
  case rel => exact ⟨_, (true), zF, H', ⟨by first | omega | exact Nat.le_refl _⟩, ⟨zK BK129.out⟩, ⟨zG GE129.out⟩⟩
 case rest =>
 clear HC2
 obtain ⟨kq, x24_1, rfl, HA, HJ1, BK129, HB⟩ := hcut
 cases kq with
 | zero => exact absurd HA.out (by simp [spec_AreSigns.j0])
 | succ kj1 =>
 have H := HA.out
 clear HA
 simp only [spec_AreSigns.j0] at H
 by_cases c8 : x24_1 = true
 ·subst c8
  replace H := (if_pos rfl).symm.trans H
  obtain rfl := Option.some.inj H
  go_wp2
  go_ret
  exact ⟨zE, zG GE129.out⟩
 replace c8 := Bool.eq_false_iff.mpr c8
 subst c8
 replace H := (if_neg zFf).symm.trans H
 have H' := Aside0.mk H; clear H
 go_wp2
 go_loopg [3] kj1 (fun kq v3 w' => ∃ (x3_2 : Int), v3 = .int .i64 x3_2 ∧ Aside0 (spec_AreSigns.l0 kq x3_2 a0_0 a0_1 = some r) ∧ Aside0 (kq ≤ kj1) ∧ Aside0 (w'.heap[gb129]? = some (.cells #[.int .i64 a0_0, .string a0_1] 28 (0, 0))) ∧ Aside0 (Below w.heap.size w w'))
 case atStart => exact ⟨(0), zF, H', ⟨Nat.le_refl _⟩, ⟨zK BK129.out⟩, ⟨zG GE129.out⟩⟩
 case round =>
 clear H'
 try clear c8
 obtain ⟨x3_2, rfl, HA, HK2, BK129, HB⟩ := hrel
 cases gk with
 | zero => exact absurd HA.out (by simp [spec_AreSigns.l0])
 | succ k2 =>
 have H := HA.out
 clear HA
 simp only [spec_AreSigns.l0] at H
 by_cases c9 : x3_2 < (a0_1.size : Int)
 ·rw [if_pos c9] at H
  have c9b0 : decide (x3_2 < (a0_1.size : Int)) = true := decide_eq_true c9
  clear c9
  by_cases c10 : 0 ≤ x3_2
  ·rw [if_pos c10] at H
   have c10b0 : decide (0 ≤ x3_2) = true := decide_eq_true c10
   clear c10
   by_cases c12 : (bt a0_1 x3_2) = 43
   ·rw [if_pos c12] at H
    have c12b0 : ((bt a0_1 x3_2) == 43) = true := beq_iff_eq.mpr c12
    have c12b1 : ((bt a0_1 x3_2) != 43) = false := bne_eq_false_iff_eq.mpr c12
    clear c12
    have H' := Aside0.mk H; clear H
    obtain ⟨hcz13_0, hcz13_1, hfz13_0, hfz13_1⟩ := zq2 BK129.out
    have p11 : 0 ≤ (x3_2 : Int) := zA
    have q11 : x3_2 < (a0_1.size : Int) := zA
    have hx11 := bt_at a0_1 x3_2
    replace p11 := eq_true p11
    replace q11 := eq_true q11
    go_wp2
    go_roundg k2
    case measure => have := HJ1.out; have := HK2.out; omega
    case rel => exact ⟨(wrap64 (x3_2 + 1)), zF, H', ⟨by have := HJ1.out; have := HK2.out; omega⟩, ⟨zK BK129.out⟩, ⟨zG GE129.out⟩⟩
   rw [if_neg c12] at H
   have c12b0 : ((bt a0_1 x3_2) == 43) = false := beq_eq_false_iff_ne.mpr c12
   have c12b1 : ((bt a0_1 x3_2) != 43) = true := bne_iff_ne.mpr c12
   by_cases c15 : (bt a0_1 x3_2) = 45
   ·rw [if_pos c15] at H
    have c15b0 : ((bt a0_1 x3_2) == 45) = true := beq_iff_eq.mpr c15
    have c15b1 : ((bt a0_1 x3_2) != 45) = false := bne_eq_false_iff_eq.mpr c15
    clear c15
    have H' := Aside0.mk H; clear H
    obtain ⟨hcz16_0, hcz16_1, hfz16_0, hfz16_1⟩ := zq2 BK129.out
    have p11 : 0 ≤ (x3_2 : Int) := zA
    have q11 : x3_2 < (a0_1.size : Int) := zA
    have hx11 := bt_at a0_1 x3_2
    replace p11 := eq_true p11
    replace q11 := eq_true q11
    have p14 : 0 ≤ (x3_2 : Int) := zA
    have q14 : x3_2 < (a0_1.size : Int) := zA
    have hx14 := bt_at a0_1 x3_2
    replace p14 := eq_true p14
    replace q14 := eq_true q14
    go_wp2
    go_roundg k2
    case measure => have := HJ1.out; have := HK2.out; omega
    case rel => exact ⟨(wrap64 (x3_2 + 1)), zF, H', ⟨by have := HJ1.out; have := HK2.out; omega⟩, ⟨zK BK129.out⟩, ⟨zG GE129.out⟩⟩
   rw [if_neg c15] at H
   have c15b0 : ((bt a0_1 x3_2) == 45) = false := beq_eq_false_iff_ne.mpr c15
   have c15b1 : ((bt a0_1 x3_2) != 45) = true := bne_iff_ne.mpr c15
   obtain rfl := Option.some.inj H
   obtain ⟨hcz17_0, hcz17_1, hfz17_0, hfz17_1⟩ := zq2 BK129.out
   have p11 : 0 ≤ (x3_2 : Int) := zA
   have q11 : x3_2 < (a0_1.size : Int) := zA
   have hx11 := bt_at a0_1 x3_2
   replace p11 := eq_true p11
   replace q11 := eq_true q11
   have p14 : 0 ≤ (x3_2 : Int) := zA
   have q14 : x3_2 < (a0_1.size : Int) := zA
   have hx14 := bt_at a0_1 x3_2
   replace p14 := eq_true p14
   replace q14 := eq_true q14
   go_wp2
   go_ret
   exact ⟨zE, zG GE129.out⟩
  rw [if_neg c10] at H
  exact absurd H (by simp)
 rw [if_neg c9] at H
 have c9b0 : decide (x3_2 < (a0_1.size : Int)) = false := decide_eq_false c9
 clear c9
 obtain rfl := Option.some.inj H
 obtain ⟨hcz18_0, hcz18_1, hfz18_0, hfz18_1⟩ := zq2 BK129.out
 go_wp2
 go_ret
 exact ⟨zE, zG GE129.out⟩
/-! ### spec_FormatInt: function 11 -/
def spec_FormatInt.l0 : Nat → Int → Bool → ByteArray → Option (ByteArray)
 | 0, _, _, _ => none
 | k + 1, x0, x3, x4 => if x0 = 0 then (if x3 = true then (if 1 + x4.size ≤ 9223372036854775807 then (some ((⟨#[45]⟩ : ByteArray) ++ x4)) else (none)) else (some x4)) else (if (Int.tmod x0 10) < 0 then ((some (([(wrap64 (48 + (wrap64 (-(Int.tmod x0 10))))) % 256] : List Int) : List Int)).bind fun y101 => (if (strOfNums y101).size + x4.size ≤ 9223372036854775807 then (spec_FormatInt.l0 k (wrap64 (Int.tdiv x0 10)) x3 ((strOfNums y101) ++ x4)) else (none))) else ((some (([(wrap64 (48 + (Int.tmod x0 10))) % 256] : List Int) : List Int)).bind fun y104 => (if (strOfNums y104).size + x4.size ≤ 9223372036854775807 then (spec_FormatInt.l0 k (wrap64 (Int.tdiv x0 10)) x3 ((strOfNums y104) ++ x4)) else (none))))
def spec_FormatInt.f (k : Nat) (a0 : Int) : Option (ByteArray) := if a0 = 0 then (some (⟨#[48]⟩ : ByteArray)) else (spec_FormatInt.l0 k a0 (decide (a0 < 0)) (⟨#[]⟩ : ByteArray))
set_option maxHeartbeats 8000000 in
set_option maxRecDepth 100000 in
theorem spec_FormatInt.calls (k : Nat) (a0 : Int) (r : ByteArray) (w : World) (h : spec_FormatInt.f k a0 = some r) :
  Calls Tryd.prog 11 #[.int .i64 a0] w fun e w' => e = .returned (.string r) ∧ Below w.heap.size w w' := by
 have HB := Aside0.mk (Below.refl w.heap.size w)
 have H : (if a0 = 0 then (some (⟨#[48]⟩ : ByteArray)) else (spec_FormatInt.l0 k a0 (decide (a0 < 0)) (⟨#[]⟩ : ByteArray))) = some r := h
 clear h
 by_cases c2 : a0 = 0
 ·rw [if_pos c2] at H
  have c2b0 : (a0 == 0) = true := beq_iff_eq.mpr c2
  have c2b1 : (a0 != 0) = false := bne_eq_false_iff_eq.mpr c2
  clear c2
  obtain rfl := Option.some.inj H
  go_enter Tryd.func11, Tryd.ntmps11
  go_wp2
  go_ret
  exact ⟨zE, zB⟩
 rw [if_neg c2] at H
 have c2b0 : (a0 == 0) = false := beq_eq_false_iff_ne.mpr c2
 have c2b1 : (a0 != 0) = true := bne_iff_ne.mpr c2
 have H' := Aside0.mk H; clear H
 go_enter Tryd.func11, Tryd.ntmps11
 go_wp2
 go_loopg [0, 4] k (fun kq v0 v4 w' => ∃ (x0_1 : Int) (x4_1 : ByteArray), v0 = .int .i64 x0_1 ∧ v4 = .string x4_1 ∧ Aside0 (spec_FormatInt.l0 kq x0_1 (decide (a0 < 0)) x4_1 = some r) ∧ Aside0 (kq ≤ k) ∧ Aside0 (Below w.heap.size w w'))
 case atStart => exact ⟨(a0), ((⟨#[]⟩ : ByteArray)), zF, zF, H', ⟨Nat.le_refl _⟩, ⟨zB⟩⟩
 case round =>
 clear H'
 try clear c2
 try clear c2b0
 try clear c2b1
 obtain ⟨x0_1, x4_1, rfl, rfl, HA, HK1, HB⟩ := hrel
 cases gk with
 | zero => exact absurd HA.out (by simp [spec_FormatInt.l0])
 | succ k1 =>
 have H := HA.out
 clear HA
 simp only [spec_FormatInt.l0] at H
 by_cases c3 : x0_1 = 0
 ·rw [if_pos c3] at H
  have c3b0 : (x0_1 == 0) = true := beq_iff_eq.mpr c3
  have c3b1 : (x0_1 != 0) = false := bne_eq_false_iff_eq.mpr c3
  clear c3
  by_cases c4 : (decide (a0 < 0)) = true
  ·rw [if_pos c4] at H
   have c4b0 : (decide (a0 < 0)) = true := c4
   clear c4
   by_cases c5 : 1 + x4_1.size ≤ 9223372036854775807
   ·rw [if_pos c5] at H
    have c5b0 := eq_true c5
    have c5b1 : decide (1 + x4_1.size ≤ 9223372036854775807) = true := decide_eq_true c5
    try have c5b2 : (9223372036854775807 < 1 + x4_1.size) = False := eq_false (Nat.not_lt.2 c5)
    obtain rfl := Option.some.inj H
    go_wp2
    all_goals first | (exfalso; have hdd := of_decide_eq_true c4b0; omega; done) | skip
    go_ret
    exact ⟨zE, zB⟩
   rw [if_neg c5] at H
   exact absurd H (by simp)
  rw [if_neg c4] at H
  have c4b0 : (decide (a0 < 0)) = false := by simpa using c4
  clear c4
  obtain rfl := Option.some.inj H
  go_wp2
  all_goals first | (exfalso; have hdd := of_decide_eq_false c4b0; omega; done) | skip
  go_ret
  exact ⟨zE, zB⟩
 rw [if_neg c3] at H
 have c3b0 : (x0_1 == 0) = false := beq_eq_false_iff_ne.mpr c3
 have c3b1 : (x0_1 != 0) = true := bne_iff_ne.mpr c3
 by_cases c6 : (Int.tmod x0_1 10) < 0
 ·rw [if_pos c6] at H
  have c6b0 : decide ((Int.tmod x0_1 10) < 0) = true := decide_eq_true c6
  clear c6
  obtain ⟨y101, hy101⟩ : ∃ y_ : List Int, y_ = (([(wrap64 (48 + (wrap64 (-(Int.tmod x0_1 10))))) % 256] : List Int)) := ⟨_, rfl⟩
  replace H : (if (strOfNums y101).size + x4_1.size ≤ 9223372036854775807 then (spec_FormatInt.l0 k1 (wrap64 (Int.tdiv x0_1 10)) (decide (a0 < 0)) ((strOfNums y101) ++ x4_1)) else (none)) = some r := by first | (rw [hy101]; with_reducible exact H) | (have H2_ := (Option.bind_some _ _).symm.trans H; rw [hy101]; with_reducible exact H2_) | (have H2_ := (Option.bind_some _ _).symm.trans H; with_reducible exact H2_) | with_reducible exact H | (rw [hy101]; exact H) | exact H
  have Ny101 := Aside0.mk hy101
  clear hy101
  by_cases c7 : (strOfNums y101).size + x4_1.size ≤ 9223372036854775807
  ·rw [if_pos c7] at H
   have c7b0 := eq_true c7
   have c7b1 : decide ((strOfNums y101).size + x4_1.size ≤ 9223372036854775807) = true := decide_eq_true c7
   try have c7b2 : (9223372036854775807 < (strOfNums y101).size + x4_1.size) = False := eq_false (Nat.not_lt.2 c7)
   have H' := Aside0.mk H; clear H
   go_wp2_with (first | ((with_reducible refine gate_dst (N := 21) rfl ?_); refine Kd.R_lit (Kd.int .u8) _ 5 ?hg (N := 21) ?hd (xs := ([(wrap64 (48 + (wrap64 (-(Int.tmod x0_1 10))))) % 256] : List Int)) (inner := [.int .u8 ((wrap64 (48 + (wrap64 (-(Int.tmod x0_1 10))))) % 256)]) (ok := fun _ => True) (okp := fun _ => True) ?hr ?hp (fun _ hk => hk) trivial (Below.refl _ _) (Nat.le_refl _) (by simp) ?_; (case hd => rfl); (case hg => rfl); (case hr => first | (go_simp; done) | (go_simp; rfl)); (case hp => exact (Reps.one (show Kd.M (Kd.int .u8) _ _ _ ((wrap64 (48 + (wrap64 (-(Int.tmod x0_1 10))))) % 256) [.int .u8 ((wrap64 (48 + (wrap64 (-(Int.tmod x0_1 10))))) % 256)] from rfl) (Reps.none _ _))); intro v102 w8 ho9 hb hg_ hnew_; clear hg_ hnew_; (first | rw [← Ny101.out] at ho9 | (simp only [Int.reduceToNat] at ho9; rw [← Ny101.out] at ho9)); have HO103 := Aside0.mk (Kd.R_lower ho9 (below_size zB)); replace HB := zX hb; clear hb ho9; have hcv10 := own_string (P := Tryd.prog) Tryd.underlying41 Tryd.underlying5 Tryd.underlying9 (Kd.own_of_R HO103.out)))
   go_roundg k1
   case measure => have := HK1.out; omega
   case rel => exact ⟨(wrap64 (Int.tdiv x0_1 10)), ((strOfNums y101) ++ x4_1), zF, zF, H', ⟨by have := HK1.out; omega⟩, ⟨zB⟩⟩
  rw [if_neg c7] at H
  exact absurd H (by simp)
 rw [if_neg c6] at H
 have c6b0 : decide ((Int.tmod x0_1 10) < 0) = false := decide_eq_false c6
 clear c6
 obtain ⟨y104, hy104⟩ : ∃ y_ : List Int, y_ = (([(wrap64 (48 + (Int.tmod x0_1 10))) % 256] : List Int)) := ⟨_, rfl⟩
 replace H : (if (strOfNums y104).size + x4_1.size ≤ 9223372036854775807 then (spec_FormatInt.l0 k1 (wrap64 (Int.tdiv x0_1 10)) (decide (a0 < 0)) ((strOfNums y104) ++ x4_1)) else (none)) = some r := by first | (rw [hy104]; with_reducible exact H) | (have H2_ := (Option.bind_some _ _).symm.trans H; rw [hy104]; with_reducible exact H2_) | (have H2_ := (Option.bind_some _ _).symm.trans H; with_reducible exact H2_) | with_reducible exact H | (rw [hy104]; exact H) | exact H
 have Ny104 := Aside0.mk hy104
 clear hy104
 by_cases c11 : (strOfNums y104).size + x4_1.size ≤ 9223372036854775807
 ·rw [if_pos c11] at H
  have c11b0 := eq_true c11
  have c11b1 : decide ((strOfNums y104).size + x4_1.size ≤ 9223372036854775807) = true := decide_eq_true c11
  try have c11b2 : (9223372036854775807 < (strOfNums y104).size + x4_1.size) = False := eq_false (Nat.not_lt.2 c11)
  have H' := Aside0.mk H; clear H
  go_wp2_with (first | ((with_reducible refine gate_dst (N := 21) rfl ?_); refine Kd.R_lit (Kd.int .u8) _ 5 ?hg (N := 21) ?hd (xs := ([(wrap64 (48 + (Int.tmod x0_1 10))) % 256] : List Int)) (inner := [.int .u8 ((wrap64 (48 + (Int.tmod x0_1 10))) % 256)]) (ok := fun _ => True) (okp := fun _ => True) ?hr ?hp (fun _ hk => hk) trivial (Below.refl _ _) (Nat.le_refl _) (by simp) ?_; (case hd => rfl); (case hg => rfl); (case hr => first | (go_simp; done) | (go_simp; rfl)); (case hp => exact (Reps.one (show Kd.M (Kd.int .u8) _ _ _ ((wrap64 (48 + (Int.tmod x0_1 10))) % 256) [.int .u8 ((wrap64 (48 + (Int.tmod x0_1 10))) % 256)] from rfl) (Reps.none _ _))); intro v105 w12 ho13 hb hg_ hnew_; clear hg_ hnew_; (first | rw [← Ny104.out] at ho13 | (simp only [Int.reduceToNat] at ho13; rw [← Ny104.out] at ho13)); have HO106 := Aside0.mk (Kd.R_lower ho13 (below_size zB)); replace HB := zX hb; clear hb ho13; have hcv14 := own_string (P := Tryd.prog) Tryd.underlying41 Tryd.underlying5 Tryd.underlying9 (Kd.own_of_R HO106.out)))
  go_roundg k1
  case measure => have := HK1.out; omega
  case rel => exact ⟨(wrap64 (Int.tdiv x0_1 10)), ((strOfNums y104) ++ x4_1), zF, zF, H', ⟨by have := HK1.out; omega⟩, ⟨zB⟩⟩
 rw [if_neg c11] at H
 exact absurd H (by simp)
/-! ### spec_l1Read: function 45 -/
mutual
def spec_l1Read.j0 : Nat → ByteArray → Int → Bool → Option (Int × Bool)
 | 0, _, _, _ => none
 | k + 1, x0, x1, x6 => if x6 = true then (if 1 ≤ (x0.size : Int) then (spec_l1Read.j1 k x0 x1 x6 (x0.extract 1 x0.size)) else (none)) else (spec_l1Read.j1 k x0 x1 x6 x0)
def spec_l1Read.j1 : Nat → ByteArray → Int → Bool → ByteArray → Option (Int × Bool)
 | 0, _, _, _, _ => none
 | k + 1, x0, x1, x6, x7 => if (x7.size : Int) < 1 then (spec_l1Read.j2 k x0 x6 x7 true) else (spec_l1Read.j2 k x0 x6 x7 (decide ((x7.size : Int) > x1)))
def spec_l1Read.j2 : Nat → ByteArray → Bool → ByteArray → Bool → Option (Int × Bool)
 | 0, _, _, _, _ => none
 | k + 1, x0, x6, x7, x30 => if x30 = true then (some (0, false)) else (spec_l1Read.l0 k x0 x6 x7 0 0)
def spec_l1Read.l0 : Nat → ByteArray → Bool → ByteArray → Int → Int → Option (Int × Bool)
 | 0, _, _, _, _, _ => none
 | k + 1, x0, x6, x7, x8, x9 => if x9 < (x7.size : Int) then (if 0 ≤ x9 then (if (bt x7 x9) < 48 then (some (0, false)) else (if (bt x7 x9) > 57 then (some (0, false)) else (spec_l1Read.l0 k x0 x6 x7 (wrap64 ((wrap64 (10 * x8)) + (((bt x7 x9) - 48) % 256))) (wrap64 (x9 + 1))))) else (none)) else (if x6 = true then ((spec_FormatInt.f k (wrap64 (-x8))).bind fun t254 => (if t254.toList = x0.toList then (some (wrap64 (-x8), true)) else (some (0, false)))) else ((spec_FormatInt.f k x8).bind fun t255 => (if t255.toList = x0.toList then (some (x8, true)) else (some (0, false)))))
end
def spec_l1Read.f (k : Nat) (a0 : ByteArray) (a1 : Int) : Option (Int × Bool) := if (a0.size : Int) > 0 then (if 0 < (a0.size : Int) then (spec_l1Read.j0 k a0 a1 ((bt a0 0) == 45)) else (none)) else (spec_l1Read.j0 k a0 a1 false)
set_option maxHeartbeats 8000000 in
set_option maxRecDepth 100000 in
theorem spec_l1Read.calls (k : Nat) (a0 : ByteArray) (a1 : Int) (r1 : Int) (r2 : Bool) (w : World) (h : spec_l1Read.f k a0 a1 = some (r1, r2)) :
  Calls Tryd.prog 45 #[.string a0, .int .i64 a1] w fun e w' => e = .returned (.tuple #[.int .i64 r1, .bool r2]) ∧ Below w.heap.size w w' := by
 have HB := Aside0.mk (Below.refl w.heap.size w)
 have H : (if (a0.size : Int) > 0 then (if 0 < (a0.size : Int) then (spec_l1Read.j0 k a0 a1 ((bt a0 0) == 45)) else (none)) else (spec_l1Read.j0 k a0 a1 false)) = some (r1, r2) := h
 clear h
 have HC3 := Aside0.mk H
 clear H
 go_enter Tryd.func45, Tryd.ntmps45
 go_upto_region 1 with (fail)
 go_cut [6] (fun v6 wc => ∃ (kq : Nat) (x6_2 : Bool), v6 = .bool x6_2 ∧ Aside0 (spec_l1Read.j0 kq a0 a1 x6_2 = some (r1, r2)) ∧ Aside0 (kq ≤ k) ∧ Aside0 (Below w.heap.size w wc))
 case first =>
  have H := HC3.out
  clear HC3
  by_cases c4 : (a0.size : Int) > 0
  ·rw [if_pos c4] at H
   have c4b0 : decide (0 < (a0.size : Int)) = true := decide_eq_true c4
   have c4b1 : decide (0 < a0.size) = true := decide_eq_true (by omega)
   clear c4
   (first | rw [c4b0] | (simp only [i64_w, i32_w]; rw [c4b0]) | skip)
   by_cases c5 : 0 < (a0.size : Int)
   ·rw [if_pos c5] at H
    have c5b0 : decide (0 < (a0.size : Int)) = true := decide_eq_true c5
    have c5b1 : decide (0 < a0.size) = true := decide_eq_true (by omega)
    clear c5
    have H' := Aside0.mk H; clear H
    have p6 : 0 ≤ (0 : Int) := (by omega)
    have q6 : 0 < a0.size := (by have : (0 : Int) < (a0.size : Int) := zA; omega)
    have hx6 : ∀ h : 0 < a0.size, ((a0[0]'h).toNat : Int) = bt a0 0 := bt_at a0 0
    clear p6
    have qi6 : (0 < (a0.size : Int)) = True := eq_true (zA)
    replace q6 := eq_true q6
    go_wp2
    go_meet
    case rel => exact ⟨_, (((bt a0 0) == 45)), zF, H', ⟨by first | omega | exact Nat.le_refl _⟩, ⟨zB⟩⟩
   rw [if_neg c5] at H
   exact absurd H (by simp)
  rw [if_neg c4] at H
  have c4b0 : decide (0 < (a0.size : Int)) = false := decide_eq_false c4
  have c4b1 : decide (0 < a0.size) = false := decide_eq_false (by omega)
  clear c4
  (first | rw [c4b0] | (simp only [i64_w, i32_w]; rw [c4b0]) | skip)
  have H' := Aside0.mk H; clear H
  go_wp2
  go_meet
  case rel => exact ⟨_, (false), zF, H', ⟨by first | omega | exact Nat.le_refl _⟩, ⟨zB⟩⟩
 case rest =>
 clear HC3
 obtain ⟨kq, x6_2, rfl, HA, HJ2, HB⟩ := hcut
 cases kq with
 | zero => exact absurd HA.out (by simp [spec_l1Read.j0])
 | succ kj2 =>
 have H := HA.out
 clear HA
 simp only [spec_l1Read.j0] at H
 have HC7 := Aside0.mk H
 clear H
 go_upto_if 19 with (fail)
 go_cut [7] (fun v7 wc => ∃ (kq : Nat) (x7_6 : ByteArray), v7 = .string x7_6 ∧ Aside0 (spec_l1Read.j1 kq a0 a1 x6_2 x7_6 = some (r1, r2)) ∧ Aside0 (kq ≤ kj2) ∧ Aside0 (Below w.heap.size w wc))
 case first =>
  have H := HC7.out
  clear HC7
  by_cases c8 : x6_2 = true
  ·subst c8
   replace H := (if_pos rfl).symm.trans H
   by_cases c9 : 1 ≤ (a0.size : Int)
   ·rw [if_pos c9] at H
    have c9b0 := eq_true c9
    have c9b1 : decide (1 ≤ (a0.size : Int)) = true := decide_eq_true c9
    clear c9
    have H' := Aside0.mk H; clear H
    go_wp2
    go_meet
    case rel => exact ⟨_, (a0.extract 1 a0.size), zF, H', ⟨by have := HJ2.out; first | omega | exact Nat.le_refl _⟩, ⟨zB⟩⟩
   rw [if_neg c9] at H
   exact absurd H (by simp)
  replace c8 := Bool.eq_false_iff.mpr c8
  subst c8
  replace H := (if_neg zFf).symm.trans H
  have H' := Aside0.mk H; clear H
  go_wp2
  go_meet
  case rel => exact ⟨_, (a0), zF, H', ⟨by have := HJ2.out; first | omega | exact Nat.le_refl _⟩, ⟨zB⟩⟩
 case rest =>
 clear HC7
 obtain ⟨kq, x7_6, rfl, HA, HJ6, HB⟩ := hcut
 cases kq with
 | zero => exact absurd HA.out (by simp [spec_l1Read.j1])
 | succ kj6 =>
 have H := HA.out
 clear HA
 simp only [spec_l1Read.j1] at H
 have HC10 := Aside0.mk H
 clear H
 go_upto_region 5 with (fail)
 go_cut [30] (fun v30 wc => ∃ (kq : Nat) (x30_9 : Bool), v30 = .bool x30_9 ∧ Aside0 (spec_l1Read.j2 kq a0 x6_2 x7_6 x30_9 = some (r1, r2)) ∧ Aside0 (kq ≤ kj6) ∧ Aside0 (Below w.heap.size w wc))
 case first =>
  have H := HC10.out
  clear HC10
  by_cases c11 : (x7_6.size : Int) < 1
  ·rw [if_pos c11] at H
   have c11b0 : decide ((x7_6.size : Int) < 1) = true := decide_eq_true c11
   have c11b1 : decide (x7_6.size < 1) = true := decide_eq_true (by omega)
   clear c11
   (first | rw [c11b0] | (simp only [i64_w, i32_w]; rw [c11b0]) | skip)
   have H' := Aside0.mk H; clear H
   go_wp2
   go_meet
   case rel => exact ⟨_, (true), zF, H', ⟨by have := HJ2.out; have := HJ6.out; first | omega | exact Nat.le_refl _⟩, ⟨zB⟩⟩
  rw [if_neg c11] at H
  have c11b0 : decide ((x7_6.size : Int) < 1) = false := decide_eq_false c11
  have c11b1 : decide (x7_6.size < 1) = false := decide_eq_false (by omega)
  clear c11
  (first | rw [c11b0] | (simp only [i64_w, i32_w]; rw [c11b0]) | skip)
  have H' := Aside0.mk H; clear H
  go_wp2
  go_meet
  case rel => exact ⟨_, (decide ((x7_6.size : Int) > a1)), zF, H', ⟨by have := HJ2.out; have := HJ6.out; first | omega | exact Nat.le_refl _⟩, ⟨zB⟩⟩
 case rest =>
 clear HC10
 obtain ⟨kq, x30_9, rfl, HA, HJ9, HB⟩ := hcut
 cases kq with
 | zero => exact absurd HA.out (by simp [spec_l1Read.j2])
 | succ kj9 =>
 have H := HA.out
 clear HA
 simp only [spec_l1Read.j2] at H
 by_cases c12 : x30_9 = true
 ·subst c12
  replace H := (if_pos rfl).symm.trans H
  simp only [Option.some.injEq, Prod.mk.injEq] at H
  obtain ⟨rfl, rfl⟩ := H
  go_wp2
  go_ret2
  exact ⟨zE, zB⟩
 replace c12 := Bool.eq_false_iff.mpr c12
 subst c12
 replace H := (if_neg zFf).symm.trans H
 have H' := Aside0.mk H; clear H
 go_wp2
 go_loopg [8, 9] kj9 (fun kq v8 v9 w' => ∃ (x8_4 : Int) (x9_4 : Int), v8 = .int .i64 x8_4 ∧ v9 = .int .i64 x9_4 ∧ Aside0 (spec_l1Read.l0 kq a0 x6_2 x7_6 x8_4 x9_4 = some (r1, r2)) ∧ Aside0 (kq ≤ kj9) ∧ Aside0 (Below w.heap.size w w'))
 case atStart => exact ⟨(0), (0), zF, zF, H', ⟨Nat.le_refl _⟩, ⟨zB⟩⟩
 case round =>
 clear H'
 try clear c12
 obtain ⟨x8_4, x9_4, rfl, rfl, HA, HK4, HB⟩ := hrel
 cases gk with
 | zero => exact absurd HA.out (by simp [spec_l1Read.l0])
 | succ k4 =>
 have H := HA.out
 clear HA
 simp only [spec_l1Read.l0] at H
 by_cases c13 : x9_4 < (x7_6.size : Int)
 ·rw [if_pos c13] at H
  have c13b0 : decide (x9_4 < (x7_6.size : Int)) = true := decide_eq_true c13
  clear c13
  by_cases c14 : 0 ≤ x9_4
  ·rw [if_pos c14] at H
   have c14b0 : decide (0 ≤ x9_4) = true := decide_eq_true c14
   clear c14
   by_cases c16 : (bt x7_6 x9_4) < 48
   ·rw [if_pos c16] at H
    have c16b0 : decide ((bt x7_6 x9_4) < 48) = true := decide_eq_true c16
    clear c16
    simp only [Option.some.injEq, Prod.mk.injEq] at H
    obtain ⟨rfl, rfl⟩ := H
    have p15 : 0 ≤ (x9_4 : Int) := zA
    have q15 : x9_4 < (x7_6.size : Int) := zA
    have hx15 := bt_at x7_6 x9_4
    replace p15 := eq_true p15
    replace q15 := eq_true q15
    go_wp2
    go_ret2
    exact ⟨zE, zB⟩
   rw [if_neg c16] at H
   have c16b0 : decide ((bt x7_6 x9_4) < 48) = false := decide_eq_false c16
   clear c16
   by_cases c18 : (bt x7_6 x9_4) > 57
   ·rw [if_pos c18] at H
    have c18b0 : decide (57 < (bt x7_6 x9_4)) = true := decide_eq_true c18
    clear c18
    simp only [Option.some.injEq, Prod.mk.injEq] at H
    obtain ⟨rfl, rfl⟩ := H
    have p15 : 0 ≤ (x9_4 : Int) := zA
    have q15 : x9_4 < (x7_6.size : Int) := zA
    have hx15 := bt_at x7_6 x9_4
    replace p15 := eq_true p15
    replace q15 := eq_true q15
    have p17 : 0 ≤ (x9_4 : Int) := zA
    have q17 : x9_4 < (x7_6.size : Int) := zA
    have hx17 := bt_at x7_6 x9_4
    replace p17 := eq_true p17
    replace q17 := eq_true q17
    go_wp2
    go_ret2
    exact ⟨zE, zB⟩
   rw [if_neg c18] at H
   have c18b0 : decide (57 < (bt x7_6 x9_4)) = false := decide_eq_false c18
   clear c18
   have H' := Aside0.mk H; clear H
   have p15 : 0 ≤ (x9_4 : Int) := zA
   have q15 : x9_4 < (x7_6.size : Int) := zA
   have hx15 := bt_at x7_6 x9_4
   replace p15 := eq_true p15
   replace q15 := eq_true q15
   have p17 : 0 ≤ (x9_4 : Int) := zA
   have q17 : x9_4 < (x7_6.size : Int) := zA
   have hx17 := bt_at x7_6 x9_4
   replace p17 := eq_true p17
   replace q17 := eq_true q17
   have p19 : 0 ≤ (x9_4 : Int) := zA
   have q19 : x9_4 < (x7_6.size : Int) := zA
   have hx19 := bt_at x7_6 x9_4
   replace p19 := eq_true p19
   replace q19 := eq_true q19
   go_wp2
   go_roundg k4
   case measure => have := HJ2.out; have := HJ6.out; have := HJ9.out; have := HK4.out; omega
   case rel => exact ⟨(wrap64 ((wrap64 (10 * x8_4)) + (((bt x7_6 x9_4) - 48) % 256))), (wrap64 (x9_4 + 1)), zF, zF, H', ⟨by have := HJ2.out; have := HJ6.out; have := HJ9.out; have := HK4.out; omega⟩, ⟨zB⟩⟩
  rw [if_neg c14] at H
  exact absurd H (by simp)
 rw [if_neg c13] at H
 have c13b0 : decide (x9_4 < (x7_6.size : Int)) = false := decide_eq_false c13
 clear c13
 by_cases c20 : x6_2 = true
 ·subst c20
  replace H := (if_pos rfl).symm.trans H
  obtain ⟨t254, A21, H⟩ := zO H
  by_cases c22 : t254.toList = a0.toList
  ·rw [if_pos c22] at H
   have c22b0 : (t254.toList == a0.toList) = true := beq_iff_eq.mpr c22
   have c22b1 : (t254.toList != a0.toList) = false := bne_eq_false_iff_eq.mpr c22
   clear c22
   simp only [Option.some.injEq, Prod.mk.injEq] at H
   obtain ⟨rfl, rfl⟩ := H
   go_wp2_with (first | ((with_reducible refine gate_callee (f := 11) rfl ?_); refine zD (some 59) Tryd.func11 #[.int .i64 (wrap64 (-x8_4))] ?_; (with_reducible refine (spec_FormatInt.calls k4 (wrap64 (-x8_4)) t254 _ A21.out).mono ?_); rintro e w23 ⟨rfl, hb⟩; refine ⟨_, rfl, ?_⟩; replace HB := zX hb; (try clear hb)))
   go_ret2
   exact ⟨zE, zB⟩
  rw [if_neg c22] at H
  have c22b0 : (t254.toList == a0.toList) = false := beq_eq_false_iff_ne.mpr c22
  have c22b1 : (t254.toList != a0.toList) = true := bne_iff_ne.mpr c22
  simp only [Option.some.injEq, Prod.mk.injEq] at H
  obtain ⟨rfl, rfl⟩ := H
  go_wp2_with (first | ((with_reducible refine gate_callee (f := 11) rfl ?_); refine zD (some 59) Tryd.func11 #[.int .i64 (wrap64 (-x8_4))] ?_; (with_reducible refine (spec_FormatInt.calls k4 (wrap64 (-x8_4)) t254 _ A21.out).mono ?_); rintro e w24 ⟨rfl, hb⟩; refine ⟨_, rfl, ?_⟩; replace HB := zX hb; (try clear hb)))
  go_ret2
  exact ⟨zE, zB⟩
 replace c20 := Bool.eq_false_iff.mpr c20
 subst c20
 replace H := (if_neg zFf).symm.trans H
 obtain ⟨t255, A25, H⟩ := zO H
 by_cases c26 : t255.toList = a0.toList
 ·rw [if_pos c26] at H
  have c26b0 : (t255.toList == a0.toList) = true := beq_iff_eq.mpr c26
  have c26b1 : (t255.toList != a0.toList) = false := bne_eq_false_iff_eq.mpr c26
  clear c26
  simp only [Option.some.injEq, Prod.mk.injEq] at H
  obtain ⟨rfl, rfl⟩ := H
  go_wp2_with (first | ((with_reducible refine gate_callee (f := 11) rfl ?_); refine zD (some 59) Tryd.func11 #[.int .i64 x8_4] ?_; (with_reducible refine (spec_FormatInt.calls k4 x8_4 t255 _ A25.out).mono ?_); rintro e w27 ⟨rfl, hb⟩; refine ⟨_, rfl, ?_⟩; replace HB := zX hb; (try clear hb)))
  go_ret2
  exact ⟨zE, zB⟩
 rw [if_neg c26] at H
 have c26b0 : (t255.toList == a0.toList) = false := beq_eq_false_iff_ne.mpr c26
 have c26b1 : (t255.toList != a0.toList) = true := bne_iff_ne.mpr c26
 simp only [Option.some.injEq, Prod.mk.injEq] at H
 obtain ⟨rfl, rfl⟩ := H
 go_wp2_with (first | ((with_reducible refine gate_callee (f := 11) rfl ?_); refine zD (some 59) Tryd.func11 #[.int .i64 x8_4] ?_; (with_reducible refine (spec_FormatInt.calls k4 x8_4 t255 _ A25.out).mono ?_); rintro e w28 ⟨rfl, hb⟩; refine ⟨_, rfl, ?_⟩; replace HB := zX hb; (try clear hb)))
 go_ret2
 exact ⟨zE, zB⟩
/-! ### spec_ParseInt: function 22 -/
def spec_ParseInt.f (k : Nat) (a0 : ByteArray) : Option (Int × Bool) := (spec_l1Read.f k a0 12).bind fun bt256 => (some (bt256.1, bt256.2))
set_option maxHeartbeats 8000000 in
set_option maxRecDepth 100000 in
theorem spec_ParseInt.calls (k : Nat) (a0 : ByteArray) (r1 : Int) (r2 : Bool) (w : World) (h : spec_ParseInt.f k a0 = some (r1, r2)) :
  Calls Tryd.prog 22 #[.string a0] w fun e w' => e = .returned (.tuple #[.int .i64 r1, .bool r2]) ∧ Below w.heap.size w w' := by
 have HB := Aside0.mk (Below.refl w.heap.size w)
 have H : ((spec_l1Read.f k a0 12).bind fun bt256 => (some (bt256.1, bt256.2))) = some (r1, r2) := h
 clear h
 obtain ⟨⟨t256, t257⟩, A2, H⟩ := zO H
 replace H : (some (t256, t257)) = some (r1, r2) := H
 simp only [Option.some.injEq, Prod.mk.injEq] at H
 obtain ⟨rfl, rfl⟩ := H
 go_enter Tryd.func22, Tryd.ntmps22
 go_wp2_with (first | ((with_reducible refine gate_callee (f := 45) rfl ?_); refine zD (some 5) Tryd.func45 #[.string a0, .int .i64 12] ?_; (with_reducible refine (spec_l1Read.calls k a0 12 t256 t257 _ A2.out).mono ?_); rintro e w3 ⟨rfl, hb⟩; refine ⟨_, rfl, ?_⟩; replace HB := zX hb; (try clear hb)))
 go_ret2
 exact ⟨zE, zB⟩
/-! ### spec_SplitByte: function 51 -/
def spec_SplitByte.l0 : Nat → ByteArray → Int → List ByteArray → Int → Int → Option (List ByteArray)
 | 0, _, _, _, _, _ => none
 | k + 1, x0, x1, x5, x6, x7 => if x7 ≤ (x0.size : Int) then (if x7 = (x0.size : Int) then (if 0 ≤ x6 then (if x6 ≤ x7 then (if x5.length < 8796093022208 then (spec_SplitByte.l0 k x0 x1 (x5 ++ [x0.extract (x6 : Int).toNat (x7 : Int).toNat]) (wrap64 (x7 + 1)) (wrap64 (x7 + 1))) else (none)) else (none)) else (none)) else (if 0 ≤ x7 then (if x7 < (x0.size : Int) then (if (bt x0 x7) = x1 then (if 0 ≤ x6 then (if x6 ≤ x7 then (if x5.length < 8796093022208 then (spec_SplitByte.l0 k x0 x1 (x5 ++ [x0.extract (x6 : Int).toNat (x7 : Int).toNat]) (wrap64 (x7 + 1)) (wrap64 (x7 + 1))) else (none)) else (none)) else (none)) else (spec_SplitByte.l0 k x0 x1 x5 x6 (wrap64 (x7 + 1)))) else (none)) else (none))) else (some x5)
def spec_SplitByte.f (k : Nat) (a0 : ByteArray) (a1 : Int) : Option (List ByteArray) := spec_SplitByte.l0 k a0 a1 (([] : List ByteArray)) 0 0
set_option maxHeartbeats 8000000 in
set_option maxRecDepth 100000 in
theorem spec_SplitByte.calls (k : Nat) (a0 : ByteArray) (a1 : Int) (r : List ByteArray) (w : World) (h : spec_SplitByte.f k a0 a1 = some r) :
  Calls Tryd.prog 51 #[.string a0, .int .u8 a1] w fun e w' => ∃ v0_ : Value, e = .returned (v0_) ∧ Kd.R Kd.string 9 w' w.heap.size (fun _ => True) v0_ r ∧ Below w.heap.size w w' := by
 have HB := Aside0.mk (Below.refl w.heap.size w)
 have H : (spec_SplitByte.l0 k a0 a1 (([] : List ByteArray)) 0 0) = some r := h
 clear h
 obtain ⟨y368, hy368⟩ : ∃ y_ : List ByteArray, y_ = (([] : List ByteArray)) := ⟨_, rfl⟩
 replace H : (spec_SplitByte.l0 k a0 a1 y368 0 0) = some r := by first | (rw [hy368]; with_reducible exact H) | (have H2_ := (Option.bind_some _ _).symm.trans H; rw [hy368]; with_reducible exact H2_) | (have H2_ := (Option.bind_some _ _).symm.trans H; with_reducible exact H2_) | with_reducible exact H | (rw [hy368]; exact H) | exact H
 have Ny368 := Aside0.mk hy368
 clear hy368
 have H' := Aside0.mk H; clear H
 go_enter Tryd.func51, Tryd.ntmps51
 go_wp2_with (first | ((with_reducible refine gate_dst (N := 8) rfl ?_); refine Kd.R_lit Kd.string _ 9 ?hg (N := 8) ?hd (xs := ([] : List ByteArray)) (inner := []) (ok := fun _ => True) (okp := fun _ => True) ?hr ?hp (fun _ hk => hk) trivial (Below.refl _ _) (Nat.le_refl _) (by simp) ?_; (case hd => rfl); (case hg => rfl); (case hr => first | (go_simp; done) | (go_simp; rfl)); (case hp => exact (Reps.none _ _)); intro v369 w3 ho4 hb hg_ hnew_; clear hg_ hnew_; (first | rw [← Ny368.out] at ho4 | (simp only [Int.reduceToNat] at ho4; rw [← Ny368.out] at ho4)); have HO370 := Aside0.mk (Kd.R_lower ho4 (below_size zB)); replace HB := zX hb; clear hb ho4))
 go_loopg [5, 6, 7] k (fun kq v5 v6 v7 w' => ∃ (x5_1 : List ByteArray) (x6_1 : Int) (x7_1 : Int), v6 = .int .i64 x6_1 ∧ v7 = .int .i64 x7_1 ∧ Aside0 (spec_SplitByte.l0 kq a0 a1 x5_1 x6_1 x7_1 = some r) ∧ Aside0 (kq ≤ k) ∧ Aside0 (Kd.R Kd.string 9 w' w.heap.size (fun _ => True) v5 x5_1) ∧ Aside0 (Below w.heap.size w w'))
 case atStart => exact ⟨(y368), (0), (0), zF, zF, H', ⟨Nat.le_refl _⟩, ⟨zR HO370.out⟩, ⟨zB⟩⟩
 case round =>
 clear H'
 obtain ⟨x5_1, x6_1, x7_1, rfl, rfl, HA, HK1, HO_5, HB⟩ := hrel
 cases gk with
 | zero => exact absurd HA.out (by simp [spec_SplitByte.l0])
 | succ k1 =>
 have H := HA.out
 clear HA
 simp only [spec_SplitByte.l0] at H
 by_cases c5 : x7_1 ≤ (a0.size : Int)
 ·rw [if_pos c5] at H
  have c5b0 : decide (x7_1 ≤ (a0.size : Int)) = true := decide_eq_true c5
  clear c5
  by_cases c6 : x7_1 = (a0.size : Int)
  ·rw [if_pos c6] at H
   have c6b0 : (x7_1 == (a0.size : Int)) = true := beq_iff_eq.mpr c6
   have c6b1 : (x7_1 != (a0.size : Int)) = false := bne_eq_false_iff_eq.mpr c6
   clear c6
   by_cases c7 : 0 ≤ x6_1
   ·rw [if_pos c7] at H
    have c7b0 := eq_true c7
    have c7b1 : decide (0 ≤ x6_1) = true := decide_eq_true c7
    clear c7
    by_cases c8 : x6_1 ≤ x7_1
    ·rw [if_pos c8] at H
     have c8b0 := eq_true c8
     have c8b1 : decide (x6_1 ≤ x7_1) = true := decide_eq_true c8
     clear c8
     have c9b0 := eq_true (zA : x7_1 ≤ (a0.size : Int))
     by_cases c10 : x5_1.length < 8796093022208
     ·rw [if_pos c10] at H
      have LMc10 := Aside0.mk c10
      clear c10
      obtain ⟨y371, hy371⟩ : ∃ y_ : List ByteArray, y_ = (x5_1 ++ [a0.extract (x6_1 : Int).toNat (x7_1 : Int).toNat]) := ⟨_, rfl⟩
      replace H : (spec_SplitByte.l0 k1 a0 a1 y371 (wrap64 (x7_1 + 1)) (wrap64 (x7_1 + 1))) = some r := by first | (rw [hy371]; with_reducible exact H) | (have H2_ := (Option.bind_some _ _).symm.trans H; rw [hy371]; with_reducible exact H2_) | (have H2_ := (Option.bind_some _ _).symm.trans H; with_reducible exact H2_) | with_reducible exact H | (rw [hy371]; exact H) | exact H
      have Ny371 := Aside0.mk hy371
      clear hy371
      have H' := Aside0.mk H; clear H
      go_wp2_with (first | ((with_reducible refine gate_builtin (b := .append) (xs := #[.tmp 26, .tmp 31]) rfl ?_); at_builtin; refine Kd.R_append Kd.string (w0 := w) w.heap.size rfl (.tmp 26) (.tmp 31) 53 9 (.string ⟨#[]⟩) 16 rfl Tryd.underlying53 info9 rfl (by decide) (by omega) u5 x5_1 (a0.extract (x6_1 : Int).toNat (x7_1 : Int).toNat) [.string (a0.extract (x6_1 : Int).toNat (x7_1 : Int).toNat)] (fun _ => True) (fun _ => False) rfl rfl ?aP (fun _ hk => hk.elim) ?aF ?aO ?aB ?aS ?aL ?_; (case aP => exact rfl); (case aB => exact zB); (case aF => exact (fun _ _ => trivial)); (case aO => exact (zR HO_5.out)); (case aS => exact (below_size zB)); (case aL => have := LMc10.out; omega); intro v372 w11 ho hb hg hat; rw [← Ny371.out] at ho; have n0_ := Aside0.mk (hb); have n1_ := Aside0.mk (ho); clear HB; clear HO_5; have HB := n0_; have HO373 := n1_; clear n0_ n1_; clear ho hb hg hat))
      go_roundg k1
      case measure => have := HK1.out; omega
      case rel => exact ⟨(y371), (wrap64 (x7_1 + 1)), (wrap64 (x7_1 + 1)), zF, zF, H', ⟨by have := HK1.out; omega⟩, ⟨zR HO373.out⟩, ⟨zB⟩⟩
     rw [if_neg c10] at H
     exact absurd H (by simp)
    rw [if_neg c8] at H
    exact absurd H (by simp)
   rw [if_neg c7] at H
   exact absurd H (by simp)
  rw [if_neg c6] at H
  have c6b0 : (x7_1 == (a0.size : Int)) = false := beq_eq_false_iff_ne.mpr c6
  have c6b1 : (x7_1 != (a0.size : Int)) = true := bne_iff_ne.mpr c6
  by_cases c12 : 0 ≤ x7_1
  ·rw [if_pos c12] at H
   have c12b0 : decide (0 ≤ x7_1) = true := decide_eq_true c12
   clear c12
   by_cases c13 : x7_1 < (a0.size : Int)
   ·rw [if_pos c13] at H
    have c13b0 : decide (x7_1 < (a0.size : Int)) = true := decide_eq_true c13
    clear c13
    by_cases c15 : (bt a0 x7_1) = a1
    ·rw [if_pos c15] at H
     have c15b0 : ((bt a0 x7_1) == a1) = true := beq_iff_eq.mpr c15
     have c15b1 : ((bt a0 x7_1) != a1) = false := bne_eq_false_iff_eq.mpr c15
     clear c15
     by_cases c16 : 0 ≤ x6_1
     ·rw [if_pos c16] at H
      have c16b0 := eq_true c16
      have c16b1 : decide (0 ≤ x6_1) = true := decide_eq_true c16
      clear c16
      by_cases c17 : x6_1 ≤ x7_1
      ·rw [if_pos c17] at H
       have c17b0 := eq_true c17
       have c17b1 : decide (x6_1 ≤ x7_1) = true := decide_eq_true c17
       clear c17
       have c18b0 := eq_true (zA : x7_1 ≤ (a0.size : Int))
       by_cases c19 : x5_1.length < 8796093022208
       ·rw [if_pos c19] at H
        have LMc19 := Aside0.mk c19
        clear c19
        obtain ⟨y374, hy374⟩ : ∃ y_ : List ByteArray, y_ = (x5_1 ++ [a0.extract (x6_1 : Int).toNat (x7_1 : Int).toNat]) := ⟨_, rfl⟩
        replace H : (spec_SplitByte.l0 k1 a0 a1 y374 (wrap64 (x7_1 + 1)) (wrap64 (x7_1 + 1))) = some r := by first | (rw [hy374]; with_reducible exact H) | (have H2_ := (Option.bind_some _ _).symm.trans H; rw [hy374]; with_reducible exact H2_) | (have H2_ := (Option.bind_some _ _).symm.trans H; with_reducible exact H2_) | with_reducible exact H | (rw [hy374]; exact H) | exact H
        have Ny374 := Aside0.mk hy374
        clear hy374
        have H' := Aside0.mk H; clear H
        have p14 : 0 ≤ (x7_1 : Int) := zA
        have q14 : x7_1 < (a0.size : Int) := zA
        have hx14 := bt_at a0 x7_1
        replace p14 := eq_true p14
        replace q14 := eq_true q14
        go_wp2_with (first | ((with_reducible refine gate_builtin (b := .append) (xs := #[.tmp 26, .tmp 31]) rfl ?_); at_builtin; refine Kd.R_append Kd.string (w0 := w) w.heap.size rfl (.tmp 26) (.tmp 31) 53 9 (.string ⟨#[]⟩) 16 rfl Tryd.underlying53 info9 rfl (by decide) (by omega) u5 x5_1 (a0.extract (x6_1 : Int).toNat (x7_1 : Int).toNat) [.string (a0.extract (x6_1 : Int).toNat (x7_1 : Int).toNat)] (fun _ => True) (fun _ => False) rfl rfl ?aP (fun _ hk => hk.elim) ?aF ?aO ?aB ?aS ?aL ?_; (case aP => exact rfl); (case aB => exact zB); (case aF => exact (fun _ _ => trivial)); (case aO => exact (zR HO_5.out)); (case aS => exact (below_size zB)); (case aL => have := LMc19.out; omega); intro v375 w20 ho hb hg hat; rw [← Ny374.out] at ho; have n0_ := Aside0.mk (hb); have n1_ := Aside0.mk (ho); clear HB; clear HO_5; have HB := n0_; have HO376 := n1_; clear n0_ n1_; clear ho hb hg hat))
        go_roundg k1
        case measure => have := HK1.out; omega
        case rel => exact ⟨(y374), (wrap64 (x7_1 + 1)), (wrap64 (x7_1 + 1)), zF, zF, H', ⟨by have := HK1.out; omega⟩, ⟨zR HO376.out⟩, ⟨zB⟩⟩
       rw [if_neg c19] at H
       exact absurd H (by simp)
      rw [if_neg c17] at H
      exact absurd H (by simp)
     rw [if_neg c16] at H
     exact absurd H (by simp)
    rw [if_neg c15] at H
    have c15b0 : ((bt a0 x7_1) == a1) = false := beq_eq_false_iff_ne.mpr c15
    have c15b1 : ((bt a0 x7_1) != a1) = true := bne_iff_ne.mpr c15
    have H' := Aside0.mk H; clear H
    have p14 : 0 ≤ (x7_1 : Int) := zA
    have q14 : x7_1 < (a0.size : Int) := zA
    have hx14 := bt_at a0 x7_1
    replace p14 := eq_true p14
    replace q14 := eq_true q14
    go_wp2
    go_roundg k1
    case measure => have := HK1.out; omega
    case rel => exact ⟨(x5_1), (x6_1), (wrap64 (x7_1 + 1)), zF, zF, H', ⟨by have := HK1.out; omega⟩, ⟨zR HO_5.out⟩, ⟨zB⟩⟩
   rw [if_neg c13] at H
   exact absurd H (by simp)
  rw [if_neg c12] at H
  exact absurd H (by simp)
 rw [if_neg c5] at H
 have c5b0 : decide (x7_1 ≤ (a0.size : Int)) = false := decide_eq_false c5
 clear c5
 obtain rfl := Option.some.inj H
 go_wp2
 go_ret
 exact ⟨_, zE, zR HO_5.out, zB⟩
/-! ### spec_ParseSigns: function 29 -/
def spec_ParseSigns.j0 : Nat → List ByteArray → Int → Bool → Option (Int × ByteArray × Bool)
 | 0, _, _, _ => none
 | k + 1, x4, x5, x23 => if x23 = true then (some (0, (⟨#[]⟩ : ByteArray), false)) else (if 1 < (x4.length : Int) then ((spec_AreSigns.f k x5 (rdOf ByteArray.empty x4 1)).bind fun t386 => (if t386 = true then (some (x5, rdOf ByteArray.empty x4 1, true)) else (some (0, (⟨#[]⟩ : ByteArray), false)))) else (none))
def spec_ParseSigns.f (k : Nat) (a0 : ByteArray) : Option (Int × ByteArray × Bool) := (spec_SplitByte.f k a0 58).bind fun t378 => (if 0 < (t378.length : Int) then ((spec_ParseInt.f k (rdOf ByteArray.empty t378 0)).bind fun bt382 => (if (t378.length : Int) = 2 then (spec_ParseSigns.j0 k t378 bt382.1 (!bt382.2)) else (spec_ParseSigns.j0 k t378 bt382.1 true))) else (none))
set_option maxHeartbeats 8000000 in
set_option maxRecDepth 100000 in
theorem spec_ParseSigns.calls (k : Nat) (a0 : ByteArray) (r1 : Int) (r2 : ByteArray) (r3 : Bool) (w : World) (h : spec_ParseSigns.f k a0 = some (r1, r2, r3)) :
  Calls Tryd.prog 29 #[.string a0] w fun e w' => e = .returned (.tuple #[.agg #[.int .i64 r1, .string r2], .bool r3]) ∧ Below w.heap.size w w' := by
 have hu28 := Tryd.underlying28
 have HB := Aside0.mk (Below.refl w.heap.size w)
 have H : ((spec_SplitByte.f k a0 58).bind fun t378 => (if 0 < (t378.length : Int) then ((spec_ParseInt.f k (rdOf ByteArray.empty t378 0)).bind fun bt382 => (if (t378.length : Int) = 2 then (spec_ParseSigns.j0 k t378 bt382.1 (!bt382.2)) else (spec_ParseSigns.j0 k t378 bt382.1 true))) else (none))) = some (r1, r2, r3) := h
 clear h
 obtain ⟨t378, A2, H⟩ := zO H
 by_cases c3 : 0 < (t378.length : Int)
 ·rw [if_pos c3] at H
  have c3b0 : decide (0 < (t378.length : Int)) = true := decide_eq_true c3
  have c3b1 : decide (0 < t378.length) = true := decide_eq_true (by omega)
  clear c3
  obtain ⟨⟨t382, t383⟩, A4, H⟩ := zO H
  dsimp only at H
  have HC5 := Aside0.mk H
  clear H
  go_enter Tryd.func29, Tryd.ntmps29
  go_upto_region 3 with (first | ((with_reducible refine gate_dst (N := 2) rfl ?_); refine zBx (N := 2) #[.int .i64 0, .string (⟨#[]⟩ : ByteArray)] 28 ?_; intro gb377 hg w6 hbox hb; have BK377 := Aside0.mk (hbox); have GW377 := zS hg; have GE377 := zS hg; replace HB := zX hb; clear hb hbox hg) | ((with_reducible refine gate_callee (f := 51) rfl ?_); refine zD (some 9) Tryd.func51 #[.string a0, .int .u8 58] ?_; (with_reducible refine (spec_SplitByte.calls k a0 58 t378 _ A2.out).mono ?_); rintro e w7 ⟨v379, rfl, ho0, hb⟩; refine ⟨_, rfl, ?_⟩; have HO380 := Aside0.mk (Kd.R_lower ho0 (below_size (zG GE377.out))); replace BK377 := zV BK377.out hb; replace HB := zX1 GE377.out hb; (try clear hb); (try clear ho0); obtain ⟨Ao8, co8, eo8⟩ := Kd.R_slice HO380.out; subst eo8; have p381 : 0 ≤ (0 : Int) := (by omega); have q381 : 0 < (t378.length : Int) := zA; obtain ⟨ad381, e381, hx381_0⟩ := Kd.at_string (Kd.R_reads' HO380.out).2.2 0 p381 q381; cases e381; have qi381 : (0 < t378.length) = True := eq_true (by omega); (try rw [show ((0 : Int)).toNat = 0 from rfl] at hx381_0); (try rw [Addr.add_zero'] at hx381_0); replace p381 := eq_true p381; replace q381 := eq_true q381) | ((with_reducible refine gate_callee (f := 22) rfl ?_); refine zD (some 14) Tryd.func22 #[.string (rdOf ByteArray.empty t378 0)] ?_; (with_reducible refine (spec_ParseInt.calls k (rdOf ByteArray.empty t378 0) t382 t383 _ A4.out).mono ?_); rintro e w9 ⟨rfl, hb⟩; refine ⟨_, rfl, ?_⟩; replace HO380 := zW HO380.out hb; replace BK377 := zV BK377.out hb; replace HB := zX1 GE377.out hb; (try clear hb)))
  (try simp only [Act.put, List.setIfInBounds_toArray, List.set_cons_zero, List.set_cons_succ])
  go_cut [23] (fun v23 wc => ∃ (kq : Nat) (x23_4 : Bool), v23 = .bool x23_4 ∧ Aside0 (spec_ParseSigns.j0 kq t378 t382 x23_4 = some (r1, r2, r3)) ∧ Aside0 (kq ≤ k) ∧ Aside0 (Kd.R Kd.string 9 wc w.heap.size (fun _ => True) (.slice (some ad381) t378.length co8) t378) ∧ Aside0 (wc.heap[gb377]? = some (.cells #[.int .i64 0, .string (⟨#[]⟩ : ByteArray)] 28 (0, 0))) ∧ Aside0 (Below w.heap.size w wc))
  case first =>
   have H := HC5.out
   clear HC5
   by_cases c10 : (t378.length : Int) = 2
   ·rw [if_pos c10] at H
    have c10b0 : ((t378.length : Int) == 2) = true := beq_iff_eq.mpr c10
    have c10b1 : ((t378.length : Int) != 2) = false := bne_eq_false_iff_eq.mpr c10
    clear c10
    (first | rw [c10b0] | (simp only [i64_w, i32_w]; rw [c10b0]) | skip)
    have H' := Aside0.mk H; clear H
    go_wp2
    go_meet
    case rel => exact ⟨_, (!t383), zF, H', ⟨by first | omega | exact Nat.le_refl _⟩, ⟨zR HO380.out⟩, ⟨zK BK377.out⟩, ⟨zG GE377.out⟩⟩
   rw [if_neg c10] at H
   have c10b0 : ((t378.length : Int) == 2) = false := beq_eq_false_iff_ne.mpr c10
   have c10b1 : ((t378.length : Int) != 2) = true := bne_iff_ne.mpr c10
   (first | rw [c10b0] | (simp only [i64_w, i32_w]; rw [c10b0]) | skip)
   have H' := Aside0.mk H; clear H
   go_wp2
   go_meet
   case rel => exact ⟨_, (true), zF, H', ⟨by first | omega | exact Nat.le_refl _⟩, ⟨zR HO380.out⟩, ⟨zK BK377.out⟩, ⟨zG GE377.out⟩⟩
  case rest =>
  clear HC5
  try clear c3
  try clear c3b0
  try clear c3b1
  try clear hx381_0
  try clear p381
  try clear q381
  obtain ⟨kq, x23_4, rfl, HA, HJ4, HO_4, BK377, HB⟩ := hcut
  cases kq with
  | zero => exact absurd HA.out (by simp [spec_ParseSigns.j0])
  | succ kj4 =>
  have H := HA.out
  clear HA
  simp only [spec_ParseSigns.j0] at H
  by_cases c11 : x23_4 = true
  ·subst c11
   replace H := (if_pos rfl).symm.trans H
   simp only [Option.some.injEq, Prod.mk.injEq] at H
   obtain ⟨rfl, rfl, rfl⟩ := H
   obtain ⟨hcz12_0, hcz12_1, hfz12_0, hfz12_1⟩ := zq2 BK377.out
   go_wp2
   refine bodyPost_ret (results_ct rfl _ _ gb377 28 #[.int .i64 0, .string (⟨#[]⟩ : ByteArray)] (0, 0) _ rfl (zk0 BK377.out) Tryd.underlying28 rfl (by kernel_rfl)) rfl ?_
   exact ⟨zE, zG GE377.out⟩
  replace c11 := Bool.eq_false_iff.mpr c11
  subst c11
  replace H := (if_neg zFf).symm.trans H
  by_cases c13 : 1 < (t378.length : Int)
  ·rw [if_pos c13] at H
   have c13b0 : decide (1 < (t378.length : Int)) = true := decide_eq_true c13
   have c13b1 : decide (1 < t378.length) = true := decide_eq_true (by omega)
   clear c13
   obtain ⟨t386, A14, H⟩ := zO H
   by_cases c15 : t386 = true
   ·subst c15
    replace H := (if_pos rfl).symm.trans H
    simp only [Option.some.injEq, Prod.mk.injEq] at H
    obtain ⟨rfl, rfl, rfl⟩ := H
    have p384 : 0 ≤ (1 : Int) := (by omega)
    have q384 : 1 < (t378.length : Int) := zA
    obtain ⟨ad384, e384, hx384_0⟩ := Kd.at_string (Kd.R_reads' HO_4.out).2.2 1 p384 q384
    obtain rfl : ad381 = ad384 := (by injection e384)
    (try simp only [show (1 : Int).toNat = 1 from rfl, Nat.reduceMul, Nat.reduceEqDiff, Go.Addr.add, ↓reduceIte] at hx384_0)
    have qi384 : (1 < t378.length) = True := eq_true (by omega)
    (try rw [show ((1 : Int)).toNat = 1 from rfl] at hx384_0)
    replace p384 := eq_true p384
    replace q384 := eq_true q384
    go_wp2_with (first | ((with_reducible refine gate_dst (N := 7) rfl ?_); refine zBx (N := 7) #[.int .i64 0, .string (⟨#[]⟩ : ByteArray)] 28 ?_; intro gb385 hg w16 hbox hb; replace HO_4 := zW HO_4.out hb; have BK385 := Aside0.mk (hbox); have GW385 := zSg hg (zG GE377.out); have GE385 := zSg hg (zG GE377.out); have NB377_385 := zL hg BK377.out; have NB385_377 := zLg hg BK377.out; replace BK377 := zV BK377.out hb; replace HB := zX1 GE377.out hb; clear hb hbox hg; have hnb17 := NB385_377.out; have hnc17 := NB377_385.out; obtain ⟨hcz18_0, hcz18_1, hfz18_0, hfz18_1⟩ := zq2 BK385.out) | ((with_reducible refine gate_callee (f := 37) rfl ?_); refine zD (some 31) Tryd.func37 #[.agg #[.int .i64 t382, .string (rdOf ByteArray.empty t378 1)]] ?_; (with_reducible refine (spec_AreSigns.calls kj4 t382 (rdOf ByteArray.empty t378 1) true _ A14.out).mono ?_); rintro e w19 ⟨rfl, hb⟩; refine ⟨_, rfl, ?_⟩; replace HO_4 := Aside0.mk (Kd.R_below (by (with_reducible repeat (first | apply Kd.R_alloc | apply Kd.R_drewN | apply Kd.R_drew)); exact (Kd.R_mono (Kd.R_far (p := ⟨gb385, 1, none⟩) (Kd.R_far (p := ⟨gb385, 0, none⟩) (Kd.R_types HO_4.out BK385.out (by decide)) (fun _ hk => hk.2) (.int .i64 t382)) (fun _ hk => hk.2) (.string (rdOf ByteArray.empty t378 1))) (fun _ h_ => h_.1))) hb); replace BK377 := Aside0.mk (blk_below (g := gb377) (o := .cells #[.int .i64 0, .string (⟨#[]⟩ : ByteArray)] 28 (0, 0)) (zk2 BK377.out NB377_385.out NB377_385.out) hb); replace BK385 := Aside0.mk (blk_below (g := gb385) (o := .cells #[.int .i64 t382, .string (rdOf ByteArray.empty t378 1)] 28 (0, 0)) (zk0 BK385.out) hb); replace HB := Aside0.mk (below_step (zG2 GE377.out GE385.out) hb); (try clear hb); obtain ⟨hcz20_0, hcz20_1, hfz20_0, hfz20_1⟩ := zq2 BK385.out; obtain ⟨hcz21_0, hcz21_1, hfz21_0, hfz21_1⟩ := zq2 BK377.out))
    refine bodyPost_ret (results_ct rfl _ _ gb377 28 #[.int .i64 t382, .string (rdOf ByteArray.empty t378 1)] (0, 0) _ rfl (zk0 BK377.out) Tryd.underlying28 rfl (by kernel_rfl)) rfl ?_
    exact ⟨zE, zG2 GE377.out GE385.out⟩
   replace c15 := Bool.eq_false_iff.mpr c15
   subst c15
   replace H := (if_neg zFf).symm.trans H
   simp only [Option.some.injEq, Prod.mk.injEq] at H
   obtain ⟨rfl, rfl, rfl⟩ := H
   have p384 : 0 ≤ (1 : Int) := (by omega)
   have q384 : 1 < (t378.length : Int) := zA
   obtain ⟨ad384, e384, hx384_0⟩ := Kd.at_string (Kd.R_reads' HO_4.out).2.2 1 p384 q384
   obtain rfl : ad381 = ad384 := (by injection e384)
   (try simp only [show (1 : Int).toNat = 1 from rfl, Nat.reduceMul, Nat.reduceEqDiff, Go.Addr.add, ↓reduceIte] at hx384_0)
   have qi384 : (1 < t378.length) = True := eq_true (by omega)
   (try rw [show ((1 : Int)).toNat = 1 from rfl] at hx384_0)
   replace p384 := eq_true p384
   replace q384 := eq_true q384
   go_wp2_with (first | ((with_reducible refine gate_dst (N := 7) rfl ?_); refine zBx (N := 7) #[.int .i64 0, .string (⟨#[]⟩ : ByteArray)] 28 ?_; intro gb385 hg w22 hbox hb; replace HO_4 := zW HO_4.out hb; have BK385 := Aside0.mk (hbox); have GW385 := zSg hg (zG GE377.out); have GE385 := zSg hg (zG GE377.out); have NB377_385 := zL hg BK377.out; have NB385_377 := zLg hg BK377.out; replace BK377 := zV BK377.out hb; replace HB := zX1 GE377.out hb; clear hb hbox hg; have hnb23 := NB385_377.out; have hnc23 := NB377_385.out; obtain ⟨hcz24_0, hcz24_1, hfz24_0, hfz24_1⟩ := zq2 BK385.out) | ((with_reducible refine gate_callee (f := 37) rfl ?_); refine zD (some 31) Tryd.func37 #[.agg #[.int .i64 t382, .string (rdOf ByteArray.empty t378 1)]] ?_; (with_reducible refine (spec_AreSigns.calls kj4 t382 (rdOf ByteArray.empty t378 1) false _ A14.out).mono ?_); rintro e w25 ⟨rfl, hb⟩; refine ⟨_, rfl, ?_⟩; replace HO_4 := Aside0.mk (Kd.R_below (by (with_reducible repeat (first | apply Kd.R_alloc | apply Kd.R_drewN | apply Kd.R_drew)); exact (Kd.R_mono (Kd.R_far (p := ⟨gb385, 1, none⟩) (Kd.R_far (p := ⟨gb385, 0, none⟩) (Kd.R_types HO_4.out BK385.out (by decide)) (fun _ hk => hk.2) (.int .i64 t382)) (fun _ hk => hk.2) (.string (rdOf ByteArray.empty t378 1))) (fun _ h_ => h_.1))) hb); replace BK377 := Aside0.mk (blk_below (g := gb377) (o := .cells #[.int .i64 0, .string (⟨#[]⟩ : ByteArray)] 28 (0, 0)) (zk2 BK377.out NB377_385.out NB377_385.out) hb); replace BK385 := Aside0.mk (blk_below (g := gb385) (o := .cells #[.int .i64 t382, .string (rdOf ByteArray.empty t378 1)] 28 (0, 0)) (zk0 BK385.out) hb); replace HB := Aside0.mk (below_step (zG2 GE377.out GE385.out) hb); (try clear hb); obtain ⟨hcz26_0, hcz26_1, hfz26_0, hfz26_1⟩ := zq2 BK377.out))
   refine bodyPost_ret (results_ct rfl _ _ gb377 28 #[.int .i64 0, .string (⟨#[]⟩ : ByteArray)] (0, 0) _ rfl (zk0 BK377.out) Tryd.underlying28 rfl (by kernel_rfl)) rfl ?_
   exact ⟨zE, zG2 GE377.out GE385.out⟩
  rw [if_neg c13] at H
  exact absurd H (by simp)
 rw [if_neg c3] at H
 exact absurd H (by simp)
/-! ### impl_AreSigns: function 38 -/
mutual
def impl_AreSigns.j0 : Nat → Bool → Int → ByteArray → Option (Bool)
 | 0, _, _, _ => none
 | k + 1, x28, x138000, x138001 => if x28 = true then (some false) else (impl_AreSigns.l0 k 0 x138000 x138001)
def impl_AreSigns.l0 : Nat → Int → Int → ByteArray → Option (Bool)
 | 0, _, _, _ => none
 | k + 1, x3, x138000, x138001 => if x3 < (x138001.size : Int) then (if 0 ≤ x3 then (if (bt x138001 x3) = 43 then (impl_AreSigns.l0 k (wrap64 (x3 + 1)) x138000 x138001) else (if (bt x138001 x3) = 45 then (impl_AreSigns.l0 k (wrap64 (x3 + 1)) x138000 x138001) else (some false))) else (none)) else (some true)
end
def impl_AreSigns.f (k : Nat) (a0_0 : Int) (a0_1 : ByteArray) : Option (Bool) := if a0_0 < 3 then (impl_AreSigns.j0 k true a0_0 a0_1) else (if a0_0 > 7 then (impl_AreSigns.j0 k true a0_0 a0_1) else (impl_AreSigns.j0 k ((a0_1.size : Int) != (wrap64 (Int.tdiv (wrap64 ((wrap64 (a0_0 * (wrap64 (a0_0 - 1)))) * (wrap64 (a0_0 - 2)))) 6))) a0_0 a0_1))
set_option maxHeartbeats 8000000 in
set_option maxRecDepth 100000 in
theorem impl_AreSigns.calls (k : Nat) (a0_0 : Int) (a0_1 : ByteArray) (r : Bool) (w : World) (h : impl_AreSigns.f k a0_0 a0_1 = some r) :
  Calls Tryd.prog 38 #[.agg #[.int .i64 a0_0, .string a0_1]] w fun e w' => e = .returned (.bool r) ∧ Below w.heap.size w w' := by
 have hu28 := Tryd.underlying28
 have HB := Aside0.mk (Below.refl w.heap.size w)
 have H : (if a0_0 < 3 then (impl_AreSigns.j0 k true a0_0 a0_1) else (if a0_0 > 7 then (impl_AreSigns.j0 k true a0_0 a0_1) else (impl_AreSigns.j0 k ((a0_1.size : Int) != (wrap64 (Int.tdiv (wrap64 ((wrap64 (a0_0 * (wrap64 (a0_0 - 1)))) * (wrap64 (a0_0 - 2)))) 6))) a0_0 a0_1))) = some r := h
 clear h
 have HC2 := Aside0.mk H
 clear H
 go_enter Tryd.func38, Tryd.ntmps38
 go_upto_region 1 with (first | ((with_reducible refine gate_dst (N := 1) rfl ?_); (try (refine gate_guard (by rfl) ?_; dsimp only)); refine zBx (N := 1) #[.int .i64 a0_0, .string a0_1] 28 ?_; intro gb137 hg w3 hbox hb; have BK137 := Aside0.mk (hbox); have GW137 := zS hg; have GE137 := zS hg; replace HB := zX hb; clear hb hbox hg))
 (try simp only [Act.put, List.setIfInBounds_toArray, List.set_cons_zero, List.set_cons_succ])
 go_cut [28] (fun v28 wc => ∃ (kq : Nat) (x28_1 : Bool), v28 = .bool x28_1 ∧ Aside0 (impl_AreSigns.j0 kq x28_1 a0_0 a0_1 = some r) ∧ Aside0 (kq ≤ k) ∧ Aside0 (wc.heap[gb137]? = some (.cells #[.int .i64 a0_0, .string a0_1] 28 (0, 0))) ∧ Aside0 (Below w.heap.size w wc))
 case first =>
  have H := HC2.out
  clear HC2
  by_cases c4 : a0_0 < 3
  ·rw [if_pos c4] at H
   have c4b0 : decide (a0_0 < 3) = true := decide_eq_true c4
   clear c4
   (first | rw [c4b0] | (simp only [i64_w, i32_w]; rw [c4b0]) | skip)
   have H' := Aside0.mk H; clear H
   obtain ⟨hcz5_0, hcz5_1, hfz5_0, hfz5_1⟩ := zq2 BK137.out
   go_wp2
   go_meet
   case rel => exact ⟨_, (true), zF, H', ⟨by first | omega | exact Nat.le_refl _⟩, ⟨zK BK137.out⟩, ⟨zG GE137.out⟩⟩
  rw [if_neg c4] at H
  have c4b0 : decide (a0_0 < 3) = false := decide_eq_false c4
  clear c4
  (first | rw [c4b0] | (simp only [i64_w, i32_w]; rw [c4b0]) | skip)
  by_cases c6 : a0_0 > 7
  ·rw [if_pos c6] at H
   have c6b0 : decide (7 < a0_0) = true := decide_eq_true c6
   clear c6
   have H' := Aside0.mk H; clear H
   obtain ⟨hcz7_0, hcz7_1, hfz7_0, hfz7_1⟩ := zq2 BK137.out
   go_wp2
   go_meet
   case rel => exact ⟨_, (true), zF, H', ⟨by first | omega | exact Nat.le_refl _⟩, ⟨zK BK137.out⟩, ⟨zG GE137.out⟩⟩
  rw [if_neg c6] at H
  have c6b0 : decide (7 < a0_0) = false := decide_eq_false c6
  clear c6
  have H' := Aside0.mk H; clear H
  obtain ⟨hcz8_0, hcz8_1, hfz8_0, hfz8_1⟩ := zq2 BK137.out
  go_wp2
  go_meet
  case rel => exact ⟨_, (((a0_1.size : Int) != (wrap64 (Int.tdiv (wrap64 ((wrap64 (a0_0 * (wrap64 (a0_0 - 1)))) * (wrap64 (a0_0 - 2)))) 6)))), zF, H', ⟨by first | omega | exact Nat.le_refl _⟩, ⟨zK BK137.out⟩, ⟨zG GE137.out⟩⟩
 case rest =>
 clear HC2
 obtain ⟨kq, x28_1, rfl, HA, HJ1, BK137, HB⟩ := hcut
 cases kq with
 | zero => exact absurd HA.out (by simp [impl_AreSigns.j0])
 | succ kj1 =>
 have H := HA.out
 clear HA
 simp only [impl_AreSigns.j0] at H
 by_cases c9 : x28_1 = true
 ·subst c9
  replace H := (if_pos rfl).symm.trans H
  obtain rfl := Option.some.inj H
  go_wp2
  go_ret
  exact ⟨zE, zG GE137.out⟩
 replace c9 := Bool.eq_false_iff.mpr c9
 subst c9
 replace H := (if_neg zFf).symm.trans H
 have H' := Aside0.mk H; clear H
 go_wp2
 go_loopg [3] kj1 (fun kq v3 w' => ∃ (x3_2 : Int), v3 = .int .i64 x3_2 ∧ Aside0 (impl_AreSigns.l0 kq x3_2 a0_0 a0_1 = some r) ∧ Aside0 (kq ≤ kj1) ∧ Aside0 (w'.heap[gb137]? = some (.cells #[.int .i64 a0_0, .string a0_1] 28 (0, 0))) ∧ Aside0 (Below w.heap.size w w'))
 case atStart => exact ⟨(0), zF, H', ⟨Nat.le_refl _⟩, ⟨zK BK137.out⟩, ⟨zG GE137.out⟩⟩
 case round =>
 clear H'
 try clear c9
 obtain ⟨x3_2, rfl, HA, HK2, BK137, HB⟩ := hrel
 cases gk with
 | zero => exact absurd HA.out (by simp [impl_AreSigns.l0])
 | succ k2 =>
 have H := HA.out
 clear HA
 simp only [impl_AreSigns.l0] at H
 by_cases c10 : x3_2 < (a0_1.size : Int)
 ·rw [if_pos c10] at H
  have c10b0 : decide (x3_2 < (a0_1.size : Int)) = true := decide_eq_true c10
  clear c10
  by_cases c11 : 0 ≤ x3_2
  ·rw [if_pos c11] at H
   have c11b0 : decide (0 ≤ x3_2) = true := decide_eq_true c11
   clear c11
   by_cases c13 : (bt a0_1 x3_2) = 43
   ·rw [if_pos c13] at H
    have c13b0 : ((bt a0_1 x3_2) == 43) = true := beq_iff_eq.mpr c13
    have c13b1 : ((bt a0_1 x3_2) != 43) = false := bne_eq_false_iff_eq.mpr c13
    clear c13
    have H' := Aside0.mk H; clear H
    obtain ⟨hcz14_0, hcz14_1, hfz14_0, hfz14_1⟩ := zq2 BK137.out
    have p12 : 0 ≤ (x3_2 : Int) := zA
    have q12 : x3_2 < (a0_1.size : Int) := zA
    have hx12 := bt_at a0_1 x3_2
    replace p12 := eq_true p12
    replace q12 := eq_true q12
    go_wp2
    go_roundg k2
    case measure => have := HJ1.out; have := HK2.out; omega
    case rel => exact ⟨(wrap64 (x3_2 + 1)), zF, H', ⟨by have := HJ1.out; have := HK2.out; omega⟩, ⟨zK BK137.out⟩, ⟨zG GE137.out⟩⟩
   rw [if_neg c13] at H
   have c13b0 : ((bt a0_1 x3_2) == 43) = false := beq_eq_false_iff_ne.mpr c13
   have c13b1 : ((bt a0_1 x3_2) != 43) = true := bne_iff_ne.mpr c13
   by_cases c16 : (bt a0_1 x3_2) = 45
   ·rw [if_pos c16] at H
    have c16b0 : ((bt a0_1 x3_2) == 45) = true := beq_iff_eq.mpr c16
    have c16b1 : ((bt a0_1 x3_2) != 45) = false := bne_eq_false_iff_eq.mpr c16
    clear c16
    have H' := Aside0.mk H; clear H
    obtain ⟨hcz17_0, hcz17_1, hfz17_0, hfz17_1⟩ := zq2 BK137.out
    have p12 : 0 ≤ (x3_2 : Int) := zA
    have q12 : x3_2 < (a0_1.size : Int) := zA
    have hx12 := bt_at a0_1 x3_2
    replace p12 := eq_true p12
    replace q12 := eq_true q12
    have p15 : 0 ≤ (x3_2 : Int) := zA
    have q15 : x3_2 < (a0_1.size : Int) := zA
    have hx15 := bt_at a0_1 x3_2
    replace p15 := eq_true p15
    replace q15 := eq_true q15
    go_wp2
    go_roundg k2
    case measure => have := HJ1.out; have := HK2.out; omega
    case rel => exact ⟨(wrap64 (x3_2 + 1)), zF, H', ⟨by have := HJ1.out; have := HK2.out; omega⟩, ⟨zK BK137.out⟩, ⟨zG GE137.out⟩⟩
   rw [if_neg c16] at H
   have c16b0 : ((bt a0_1 x3_2) == 45) = false := beq_eq_false_iff_ne.mpr c16
   have c16b1 : ((bt a0_1 x3_2) != 45) = true := bne_iff_ne.mpr c16
   obtain rfl := Option.some.inj H
   obtain ⟨hcz18_0, hcz18_1, hfz18_0, hfz18_1⟩ := zq2 BK137.out
   have p12 : 0 ≤ (x3_2 : Int) := zA
   have q12 : x3_2 < (a0_1.size : Int) := zA
   have hx12 := bt_at a0_1 x3_2
   replace p12 := eq_true p12
   replace q12 := eq_true q12
   have p15 : 0 ≤ (x3_2 : Int) := zA
   have q15 : x3_2 < (a0_1.size : Int) := zA
   have hx15 := bt_at a0_1 x3_2
   replace p15 := eq_true p15
   replace q15 := eq_true q15
   go_wp2
   go_ret
   exact ⟨zE, zG GE137.out⟩
  rw [if_neg c11] at H
  exact absurd H (by simp)
 rw [if_neg c10] at H
 have c10b0 : decide (x3_2 < (a0_1.size : Int)) = false := decide_eq_false c10
 clear c10
 obtain rfl := Option.some.inj H
 obtain ⟨hcz19_0, hcz19_1, hfz19_0, hfz19_1⟩ := zq2 BK137.out
 go_wp2
 go_ret
 exact ⟨zE, zG GE137.out⟩
/-! ### impl_ParseNumber: function 25 -/
def impl_ParseNumber.f (a0 : ByteArray) : Option (Int × Bool) := (impl_whole.f a0 0 999999).bind fun bt281 => (some (bt281.1, bt281.2))
theorem zl72_0 {p q : Prop} (g : p) (h : p → q := by intro zg_; repeat (first | (with_reducible first | exact zg_ | apply below_alloc | apply pw_below_drewN | apply below_drew1) | exact zg_)) : q := h g
set_option maxHeartbeats 8000000 in
set_option maxRecDepth 100000 in
theorem impl_ParseNumber.calls (a0 : ByteArray) (r1 : Int) (r2 : Bool) (w : World) (h : impl_ParseNumber.f a0 = some (r1, r2)) (hT : T2 w) :
  Calls Tryd.prog 25 #[.string a0] w fun e w' => e = .returned (.tuple #[.int .i64 r1, .bool r2]) ∧ Below w.heap.size w w' := by
 have HT := Aside0.mk hT
 clear hT
 have HB := Aside0.mk (Below.refl w.heap.size w)
 have H : ((impl_whole.f a0 0 999999).bind fun bt281 => (some (bt281.1, bt281.2))) = some (r1, r2) := h
 clear h
 obtain ⟨⟨t281, t282⟩, A2, H⟩ := zO H
 replace H : (some (t281, t282)) = some (r1, r2) := H
 simp only [Option.some.injEq, Prod.mk.injEq] at H
 obtain ⟨rfl, rfl⟩ := H
 go_enter Tryd.func25, Tryd.ntmps25
 go_wp2_with (first | ((with_reducible refine gate_callee (f := 46) rfl ?_); refine zD (some 5) Tryd.func46 #[.string a0, .int .i64 0, .int .i64 999999] ?_; (with_reducible refine (impl_whole.calls a0 0 999999 t281 t282 _ A2.out (HT.out.below ?sideT)).mono ?_); (case sideT => exact (zl72_0 HB.out)); rintro e w3 ⟨rfl, hb⟩; refine ⟨_, rfl, ?_⟩; replace HB := zX hb; (try clear hb)))
 go_ret2
 exact ⟨zE, zB⟩
/-! ### impl_SplitByte: function 52 -/
def impl_SplitByte.l0 : Nat → ByteArray → Int → List ByteArray → Int → Int → Option (List ByteArray)
 | 0, _, _, _, _, _ => none
 | k + 1, x0, x1, x5, x6, x7 => if x7 ≤ (x0.size : Int) then (if x7 = (x0.size : Int) then (if 0 ≤ x6 then (if x6 ≤ x7 then (if x5.length < 8796093022208 then (impl_SplitByte.l0 k x0 x1 (x5 ++ [x0.extract (x6 : Int).toNat (x7 : Int).toNat]) (wrap64 (x7 + 1)) (wrap64 (x7 + 1))) else (none)) else (none)) else (none)) else (if 0 ≤ x7 then (if x7 < (x0.size : Int) then (if (bt x0 x7) = x1 then (if 0 ≤ x6 then (if x6 ≤ x7 then (if x5.length < 8796093022208 then (impl_SplitByte.l0 k x0 x1 (x5 ++ [x0.extract (x6 : Int).toNat (x7 : Int).toNat]) (wrap64 (x7 + 1)) (wrap64 (x7 + 1))) else (none)) else (none)) else (none)) else (impl_SplitByte.l0 k x0 x1 x5 x6 (wrap64 (x7 + 1)))) else (none)) else (none))) else (some x5)
def impl_SplitByte.f (k : Nat) (a0 : ByteArray) (a1 : Int) : Option (List ByteArray) := impl_SplitByte.l0 k a0 a1 ([] : List ByteArray) 0 0
set_option maxHeartbeats 8000000 in
set_option maxRecDepth 100000 in
theorem impl_SplitByte.calls (k : Nat) (a0 : ByteArray) (a1 : Int) (r : List ByteArray) (w : World) (h : impl_SplitByte.f k a0 a1 = some r) :
  Calls Tryd.prog 52 #[.string a0, .int .u8 a1] w fun e w' => ∃ v0_ : Value, e = .returned (v0_) ∧ Kd.R Kd.string 9 w' w.heap.size (fun _ => True) v0_ r ∧ Below w.heap.size w w' := by
 have HB := Aside0.mk (Below.refl w.heap.size w)
 have H : (impl_SplitByte.l0 k a0 a1 ([] : List ByteArray) 0 0) = some r := h
 clear h
 have H' := Aside0.mk H; clear H
 go_enter Tryd.func52, Tryd.ntmps52
 go_wp2
 go_loopg [5, 6, 7] k (fun kq v5 v6 v7 w' => ∃ (x5_1 : List ByteArray) (x6_1 : Int) (x7_1 : Int), v6 = .int .i64 x6_1 ∧ v7 = .int .i64 x7_1 ∧ Aside0 (impl_SplitByte.l0 kq a0 a1 x5_1 x6_1 x7_1 = some r) ∧ Aside0 (kq ≤ k) ∧ Aside0 (Kd.R Kd.string 9 w' w.heap.size (fun _ => True) v5 x5_1) ∧ Aside0 (Below w.heap.size w w'))
 case atStart => exact ⟨(([] : List ByteArray)), (0), (0), zF, zF, H', ⟨Nat.le_refl _⟩, ⟨by first | exact Kd.R_nil _ _ _ _ _ | exact Kd.N_nil _ _ _ _ _ | exact Kd.V_nil _ _ _ _ _ | exact Kd.Q_nil _ _ _ _ _ | exact Kd.S_nil _ _ _ _ _⟩, ⟨zB⟩⟩
 case round =>
 clear H'
 obtain ⟨x5_1, x6_1, x7_1, rfl, rfl, HA, HK1, HO_5, HB⟩ := hrel
 cases gk with
 | zero => exact absurd HA.out (by simp [impl_SplitByte.l0])
 | succ k1 =>
 have H := HA.out
 clear HA
 simp only [impl_SplitByte.l0] at H
 by_cases c3 : x7_1 ≤ (a0.size : Int)
 ·rw [if_pos c3] at H
  have c3b0 : decide (x7_1 ≤ (a0.size : Int)) = true := decide_eq_true c3
  clear c3
  by_cases c4 : x7_1 = (a0.size : Int)
  ·rw [if_pos c4] at H
   have c4b0 : (x7_1 == (a0.size : Int)) = true := beq_iff_eq.mpr c4
   have c4b1 : (x7_1 != (a0.size : Int)) = false := bne_eq_false_iff_eq.mpr c4
   clear c4
   by_cases c5 : 0 ≤ x6_1
   ·rw [if_pos c5] at H
    have c5b0 := eq_true c5
    have c5b1 : decide (0 ≤ x6_1) = true := decide_eq_true c5
    clear c5
    by_cases c6 : x6_1 ≤ x7_1
    ·rw [if_pos c6] at H
     have c6b0 := eq_true c6
     have c6b1 : decide (x6_1 ≤ x7_1) = true := decide_eq_true c6
     clear c6
     have c7b0 := eq_true (zA : x7_1 ≤ (a0.size : Int))
     by_cases c8 : x5_1.length < 8796093022208
     ·rw [if_pos c8] at H
      have LMc8 := Aside0.mk c8
      clear c8
      obtain ⟨y387, hy387⟩ : ∃ y_ : List ByteArray, y_ = (x5_1 ++ [a0.extract (x6_1 : Int).toNat (x7_1 : Int).toNat]) := ⟨_, rfl⟩
      replace H : (impl_SplitByte.l0 k1 a0 a1 y387 (wrap64 (x7_1 + 1)) (wrap64 (x7_1 + 1))) = some r := by first | (rw [hy387]; with_reducible exact H) | (have H2_ := (Option.bind_some _ _).symm.trans H; rw [hy387]; with_reducible exact H2_) | (have H2_ := (Option.bind_some _ _).symm.trans H; with_reducible exact H2_) | with_reducible exact H | (rw [hy387]; exact H) | exact H
      have Ny387 := Aside0.mk hy387
      clear hy387
      have H' := Aside0.mk H; clear H
      go_wp2_with (first | ((with_reducible refine gate_builtin (b := .append) (xs := #[.tmp 25, .tmp 30]) rfl ?_); at_builtin; refine Kd.R_append Kd.string (w0 := w) w.heap.size rfl (.tmp 25) (.tmp 30) 53 9 (.string ⟨#[]⟩) 16 rfl Tryd.underlying53 info9 rfl (by decide) (by omega) u5 x5_1 (a0.extract (x6_1 : Int).toNat (x7_1 : Int).toNat) [.string (a0.extract (x6_1 : Int).toNat (x7_1 : Int).toNat)] (fun _ => True) (fun _ => False) rfl rfl ?aP (fun _ hk => hk.elim) ?aF ?aO ?aB ?aS ?aL ?_; (case aP => exact rfl); (case aB => exact zB); (case aF => exact (fun _ _ => trivial)); (case aO => exact (zR HO_5.out)); (case aS => exact (below_size zB)); (case aL => have := LMc8.out; omega); intro v388 w9 ho hb hg hat; rw [← Ny387.out] at ho; have n0_ := Aside0.mk (hb); have n1_ := Aside0.mk (ho); clear HB; clear HO_5; have HB := n0_; have HO389 := n1_; clear n0_ n1_; clear ho hb hg hat))
      go_roundg k1
      case measure => have := HK1.out; omega
      case rel => exact ⟨(y387), (wrap64 (x7_1 + 1)), (wrap64 (x7_1 + 1)), zF, zF, H', ⟨by have := HK1.out; omega⟩, ⟨zR HO389.out⟩, ⟨zB⟩⟩
     rw [if_neg c8] at H
     exact absurd H (by simp)
    rw [if_neg c6] at H
    exact absurd H (by simp)
   rw [if_neg c5] at H
   exact absurd H (by simp)
  rw [if_neg c4] at H
  have c4b0 : (x7_1 == (a0.size : Int)) = false := beq_eq_false_iff_ne.mpr c4
  have c4b1 : (x7_1 != (a0.size : Int)) = true := bne_iff_ne.mpr c4
  by_cases c10 : 0 ≤ x7_1
  ·rw [if_pos c10] at H
   have c10b0 : decide (0 ≤ x7_1) = true := decide_eq_true c10
   clear c10
   by_cases c11 : x7_1 < (a0.size : Int)
   ·rw [if_pos c11] at H
    have c11b0 : decide (x7_1 < (a0.size : Int)) = true := decide_eq_true c11
    clear c11
    by_cases c13 : (bt a0 x7_1) = a1
    ·rw [if_pos c13] at H
     have c13b0 : ((bt a0 x7_1) == a1) = true := beq_iff_eq.mpr c13
     have c13b1 : ((bt a0 x7_1) != a1) = false := bne_eq_false_iff_eq.mpr c13
     clear c13
     by_cases c14 : 0 ≤ x6_1
     ·rw [if_pos c14] at H
      have c14b0 := eq_true c14
      have c14b1 : decide (0 ≤ x6_1) = true := decide_eq_true c14
      clear c14
      by_cases c15 : x6_1 ≤ x7_1
      ·rw [if_pos c15] at H
       have c15b0 := eq_true c15
       have c15b1 : decide (x6_1 ≤ x7_1) = true := decide_eq_true c15
       clear c15
       have c16b0 := eq_true (zA : x7_1 ≤ (a0.size : Int))
       by_cases c17 : x5_1.length < 8796093022208
       ·rw [if_pos c17] at H
        have LMc17 := Aside0.mk c17
        clear c17
        obtain ⟨y390, hy390⟩ : ∃ y_ : List ByteArray, y_ = (x5_1 ++ [a0.extract (x6_1 : Int).toNat (x7_1 : Int).toNat]) := ⟨_, rfl⟩
        replace H : (impl_SplitByte.l0 k1 a0 a1 y390 (wrap64 (x7_1 + 1)) (wrap64 (x7_1 + 1))) = some r := by first | (rw [hy390]; with_reducible exact H) | (have H2_ := (Option.bind_some _ _).symm.trans H; rw [hy390]; with_reducible exact H2_) | (have H2_ := (Option.bind_some _ _).symm.trans H; with_reducible exact H2_) | with_reducible exact H | (rw [hy390]; exact H) | exact H
        have Ny390 := Aside0.mk hy390
        clear hy390
        have H' := Aside0.mk H; clear H
        have p12 : 0 ≤ (x7_1 : Int) := zA
        have q12 : x7_1 < (a0.size : Int) := zA
        have hx12 := bt_at a0 x7_1
        replace p12 := eq_true p12
        replace q12 := eq_true q12
        go_wp2_with (first | ((with_reducible refine gate_builtin (b := .append) (xs := #[.tmp 25, .tmp 30]) rfl ?_); at_builtin; refine Kd.R_append Kd.string (w0 := w) w.heap.size rfl (.tmp 25) (.tmp 30) 53 9 (.string ⟨#[]⟩) 16 rfl Tryd.underlying53 info9 rfl (by decide) (by omega) u5 x5_1 (a0.extract (x6_1 : Int).toNat (x7_1 : Int).toNat) [.string (a0.extract (x6_1 : Int).toNat (x7_1 : Int).toNat)] (fun _ => True) (fun _ => False) rfl rfl ?aP (fun _ hk => hk.elim) ?aF ?aO ?aB ?aS ?aL ?_; (case aP => exact rfl); (case aB => exact zB); (case aF => exact (fun _ _ => trivial)); (case aO => exact (zR HO_5.out)); (case aS => exact (below_size zB)); (case aL => have := LMc17.out; omega); intro v391 w18 ho hb hg hat; rw [← Ny390.out] at ho; have n0_ := Aside0.mk (hb); have n1_ := Aside0.mk (ho); clear HB; clear HO_5; have HB := n0_; have HO392 := n1_; clear n0_ n1_; clear ho hb hg hat))
        go_roundg k1
        case measure => have := HK1.out; omega
        case rel => exact ⟨(y390), (wrap64 (x7_1 + 1)), (wrap64 (x7_1 + 1)), zF, zF, H', ⟨by have := HK1.out; omega⟩, ⟨zR HO392.out⟩, ⟨zB⟩⟩
       rw [if_neg c17] at H
       exact absurd H (by simp)
      rw [if_neg c15] at H
      exact absurd H (by simp)
     rw [if_neg c14] at H
     exact absurd H (by simp)
    rw [if_neg c13] at H
    have c13b0 : ((bt a0 x7_1) == a1) = false := beq_eq_false_iff_ne.mpr c13
    have c13b1 : ((bt a0 x7_1) != a1) = true := bne_iff_ne.mpr c13
    have H' := Aside0.mk H; clear H
    have p12 : 0 ≤ (x7_1 : Int) := zA
    have q12 : x7_1 < (a0.size : Int) := zA
    have hx12 := bt_at a0 x7_1
    replace p12 := eq_true p12
    replace q12 := eq_true q12
    go_wp2
    go_roundg k1
    case measure => have := HK1.out; omega
    case rel => exact ⟨(x5_1), (x6_1), (wrap64 (x7_1 + 1)), zF, zF, H', ⟨by have := HK1.out; omega⟩, ⟨zR HO_5.out⟩, ⟨zB⟩⟩
   rw [if_neg c11] at H
   exact absurd H (by simp)
  rw [if_neg c10] at H
  exact absurd H (by simp)
 rw [if_neg c3] at H
 have c3b0 : decide (x7_1 ≤ (a0.size : Int)) = false := decide_eq_false c3
 clear c3
 obtain rfl := Option.some.inj H
 go_wp2
 go_ret
 exact ⟨_, zE, zR HO_5.out, zB⟩
/-! ### impl_ParseSigns: function 30 -/
def impl_ParseSigns.j0 : Nat → List ByteArray → Int → Bool → Option (Int × ByteArray × Bool)
 | 0, _, _, _ => none
 | k + 1, x4, x5, x23 => if x23 = true then (some (0, (⟨#[]⟩ : ByteArray), false)) else (if 1 < (x4.length : Int) then ((impl_AreSigns.f k x5 (rdOf ByteArray.empty x4 1)).bind fun t402 => (if t402 = true then (some (x5, rdOf ByteArray.empty x4 1, true)) else (some (0, (⟨#[]⟩ : ByteArray), false)))) else (none))
def impl_ParseSigns.f (k : Nat) (a0 : ByteArray) : Option (Int × ByteArray × Bool) := (impl_SplitByte.f k a0 58).bind fun t394 => (if 0 < (t394.length : Int) then ((impl_ParseNumber.f (rdOf ByteArray.empty t394 0)).bind fun bt398 => (if bt398.2 = true then (impl_ParseSigns.j0 k t394 bt398.1 ((t394.length : Int) != 2)) else (impl_ParseSigns.j0 k t394 bt398.1 true))) else (none))
theorem zl88_0 {p q p0 : Prop} (g : p) (g0 : p0) (h : p → p0 → q := by intro zg_ z0_; repeat (first | (with_reducible first | exact zg_ | apply below_alloc | apply pw_below_drewN | apply below_drew1 | refine below_set ?_ z0_) | exact zg_)) : q := h g g0
set_option maxHeartbeats 8000000 in
set_option maxRecDepth 100000 in
theorem impl_ParseSigns.calls (k : Nat) (a0 : ByteArray) (r1 : Int) (r2 : ByteArray) (r3 : Bool) (w : World) (h : impl_ParseSigns.f k a0 = some (r1, r2, r3)) (hT : T2 w) :
  Calls Tryd.prog 30 #[.string a0] w fun e w' => e = .returned (.tuple #[.agg #[.int .i64 r1, .string r2], .bool r3]) ∧ Below w.heap.size w w' := by
 have HT := Aside0.mk hT
 clear hT
 have hu28 := Tryd.underlying28
 have HB := Aside0.mk (Below.refl w.heap.size w)
 have H : ((impl_SplitByte.f k a0 58).bind fun t394 => (if 0 < (t394.length : Int) then ((impl_ParseNumber.f (rdOf ByteArray.empty t394 0)).bind fun bt398 => (if bt398.2 = true then (impl_ParseSigns.j0 k t394 bt398.1 ((t394.length : Int) != 2)) else (impl_ParseSigns.j0 k t394 bt398.1 true))) else (none))) = some (r1, r2, r3) := h
 clear h
 obtain ⟨t394, A2, H⟩ := zO H
 by_cases c3 : 0 < (t394.length : Int)
 ·rw [if_pos c3] at H
  have c3b0 : decide (0 < (t394.length : Int)) = true := decide_eq_true c3
  have c3b1 : decide (0 < t394.length) = true := decide_eq_true (by omega)
  clear c3
  obtain ⟨⟨t398, t399⟩, A4, H⟩ := zO H
  dsimp only at H
  have HC5 := Aside0.mk H
  clear H
  go_enter Tryd.func30, Tryd.ntmps30
  go_upto_region 3 with (first | ((with_reducible refine gate_dst (N := 2) rfl ?_); (try (refine gate_guard (by rfl) ?_; dsimp only)); refine zBx (N := 2) #[.int .i64 0, .string (⟨#[]⟩ : ByteArray)] 28 ?_; intro gb393 hg w6 hbox hb; have BK393 := Aside0.mk (hbox); have GW393 := zS hg; have GE393 := zS hg; replace HB := zX hb; clear hb hbox hg) | ((with_reducible refine gate_callee (f := 52) rfl ?_); refine zD (some 9) Tryd.func52 #[.string a0, .int .u8 58] ?_; (with_reducible refine (impl_SplitByte.calls k a0 58 t394 _ A2.out).mono ?_); rintro e w7 ⟨v395, rfl, ho0, hb⟩; refine ⟨_, rfl, ?_⟩; have HO396 := Aside0.mk (Kd.R_lower ho0 (below_size (zG GE393.out))); replace BK393 := zV BK393.out hb; replace HB := zX1 GE393.out hb; (try clear hb); (try clear ho0); obtain ⟨Ao8, co8, eo8⟩ := Kd.R_slice HO396.out; subst eo8; have p397 : 0 ≤ (0 : Int) := (by omega); have q397 : 0 < (t394.length : Int) := zA; obtain ⟨ad397, e397, hx397_0⟩ := Kd.at_string (Kd.R_reads' HO396.out).2.2 0 p397 q397; cases e397; have qi397 : (0 < t394.length) = True := eq_true (by omega); (try rw [show ((0 : Int)).toNat = 0 from rfl] at hx397_0); (try rw [Addr.add_zero'] at hx397_0); replace p397 := eq_true p397; replace q397 := eq_true q397) | ((with_reducible refine gate_callee (f := 25) rfl ?_); refine zD (some 14) Tryd.func25 #[.string (rdOf ByteArray.empty t394 0)] ?_; (with_reducible refine (impl_ParseNumber.calls (rdOf ByteArray.empty t394 0) t398 t399 _ A4.out (HT.out.below ?sideT)).mono ?_); (case sideT => exact (zl88_0 HB.out GE393.out)); rintro e w9 ⟨rfl, hb⟩; refine ⟨_, rfl, ?_⟩; replace HO396 := zW HO396.out hb; replace BK393 := zV BK393.out hb; replace HB := zX1 GE393.out hb; (try clear hb)))
  (try simp only [Act.put, List.setIfInBounds_toArray, List.set_cons_zero, List.set_cons_succ])
  go_cut [23] (fun v23 wc => ∃ (kq : Nat) (x23_4 : Bool), v23 = .bool x23_4 ∧ Aside0 (impl_ParseSigns.j0 kq t394 t398 x23_4 = some (r1, r2, r3)) ∧ Aside0 (kq ≤ k) ∧ Aside0 (Kd.R Kd.string 9 wc w.heap.size (fun _ => True) (.slice (some ad397) t394.length co8) t394) ∧ Aside0 (wc.heap[gb393]? = some (.cells #[.int .i64 0, .string (⟨#[]⟩ : ByteArray)] 28 (0, 0))) ∧ Aside0 (Below w.heap.size w wc))
  case first =>
   have H := HC5.out
   clear HC5
   by_cases c10 : t399 = true
   ·subst c10
    replace H := (if_pos rfl).symm.trans H
    have H' := Aside0.mk H; clear H
    go_wp2
    go_meet
    case rel => exact ⟨_, (((t394.length : Int) != 2)), zF, H', ⟨by first | omega | exact Nat.le_refl _⟩, ⟨zR HO396.out⟩, ⟨zK BK393.out⟩, ⟨zG GE393.out⟩⟩
   replace c10 := Bool.eq_false_iff.mpr c10
   subst c10
   replace H := (if_neg zFf).symm.trans H
   have H' := Aside0.mk H; clear H
   go_wp2
   go_meet
   case rel => exact ⟨_, (true), zF, H', ⟨by first | omega | exact Nat.le_refl _⟩, ⟨zR HO396.out⟩, ⟨zK BK393.out⟩, ⟨zG GE393.out⟩⟩
  case rest =>
  clear HC5
  try clear c3
  try clear c3b0
  try clear c3b1
  try clear hx397_0
  try clear p397
  try clear q397
  obtain ⟨kq, x23_4, rfl, HA, HJ4, HO_4, BK393, HB⟩ := hcut
  cases kq with
  | zero => exact absurd HA.out (by simp [impl_ParseSigns.j0])
  | succ kj4 =>
  have H := HA.out
  clear HA
  simp only [impl_ParseSigns.j0] at H
  by_cases c11 : x23_4 = true
  ·subst c11
   replace H := (if_pos rfl).symm.trans H
   simp only [Option.some.injEq, Prod.mk.injEq] at H
   obtain ⟨rfl, rfl, rfl⟩ := H
   obtain ⟨hcz12_0, hcz12_1, hfz12_0, hfz12_1⟩ := zq2 BK393.out
   go_wp2
   refine bodyPost_ret (results_ct rfl _ _ gb393 28 #[.int .i64 0, .string (⟨#[]⟩ : ByteArray)] (0, 0) _ rfl (zk0 BK393.out) Tryd.underlying28 rfl (by kernel_rfl)) rfl ?_
   exact ⟨zE, zG GE393.out⟩
  replace c11 := Bool.eq_false_iff.mpr c11
  subst c11
  replace H := (if_neg zFf).symm.trans H
  by_cases c13 : 1 < (t394.length : Int)
  ·rw [if_pos c13] at H
   have c13b0 : decide (1 < (t394.length : Int)) = true := decide_eq_true c13
   have c13b1 : decide (1 < t394.length) = true := decide_eq_true (by omega)
   clear c13
   obtain ⟨t402, A14, H⟩ := zO H
   by_cases c15 : t402 = true
   ·subst c15
    replace H := (if_pos rfl).symm.trans H
    simp only [Option.some.injEq, Prod.mk.injEq] at H
    obtain ⟨rfl, rfl, rfl⟩ := H
    have p400 : 0 ≤ (1 : Int) := (by omega)
    have q400 : 1 < (t394.length : Int) := zA
    obtain ⟨ad400, e400, hx400_0⟩ := Kd.at_string (Kd.R_reads' HO_4.out).2.2 1 p400 q400
    obtain rfl : ad397 = ad400 := (by injection e400)
    (try simp only [show (1 : Int).toNat = 1 from rfl, Nat.reduceMul, Nat.reduceEqDiff, Go.Addr.add, ↓reduceIte] at hx400_0)
    have qi400 : (1 < t394.length) = True := eq_true (by omega)
    (try rw [show ((1 : Int)).toNat = 1 from rfl] at hx400_0)
    replace p400 := eq_true p400
    replace q400 := eq_true q400
    go_wp2_with (first | ((with_reducible refine gate_dst (N := 7) rfl ?_); (try (refine gate_guard (by rfl) ?_; dsimp only)); refine zBx (N := 7) #[.int .i64 0, .string (⟨#[]⟩ : ByteArray)] 28 ?_; intro gb401 hg w16 hbox hb; replace HO_4 := zW HO_4.out hb; have BK401 := Aside0.mk (hbox); have GW401 := zSg hg (zG GE393.out); have GE401 := zSg hg (zG GE393.out); have NB393_401 := zL hg BK393.out; have NB401_393 := zLg hg BK393.out; replace BK393 := zV BK393.out hb; replace HB := zX1 GE393.out hb; clear hb hbox hg; have hnb17 := NB401_393.out; have hnc17 := NB393_401.out; obtain ⟨hcz18_0, hcz18_1, hfz18_0, hfz18_1⟩ := zq2 BK401.out) | ((with_reducible refine gate_callee (f := 38) rfl ?_); refine zD (some 31) Tryd.func38 #[.agg #[.int .i64 t398, .string (rdOf ByteArray.empty t394 1)]] ?_; (with_reducible refine (impl_AreSigns.calls kj4 t398 (rdOf ByteArray.empty t394 1) true _ A14.out).mono ?_); rintro e w19 ⟨rfl, hb⟩; refine ⟨_, rfl, ?_⟩; replace HO_4 := Aside0.mk (Kd.R_below (by (with_reducible repeat (first | apply Kd.R_alloc | apply Kd.R_drewN | apply Kd.R_drew)); exact (Kd.R_mono (Kd.R_far (p := ⟨gb401, 1, none⟩) (Kd.R_far (p := ⟨gb401, 0, none⟩) (Kd.R_types HO_4.out BK401.out (by decide)) (fun _ hk => hk.2) (.int .i64 t398)) (fun _ hk => hk.2) (.string (rdOf ByteArray.empty t394 1))) (fun _ h_ => h_.1))) hb); replace BK393 := Aside0.mk (blk_below (g := gb393) (o := .cells #[.int .i64 0, .string (⟨#[]⟩ : ByteArray)] 28 (0, 0)) (zk2 BK393.out NB393_401.out NB393_401.out) hb); replace BK401 := Aside0.mk (blk_below (g := gb401) (o := .cells #[.int .i64 t398, .string (rdOf ByteArray.empty t394 1)] 28 (0, 0)) (zk0 BK401.out) hb); replace HB := Aside0.mk (below_step (zG2 GE393.out GE401.out) hb); (try clear hb); obtain ⟨hcz20_0, hcz20_1, hfz20_0, hfz20_1⟩ := zq2 BK401.out; obtain ⟨hcz21_0, hcz21_1, hfz21_0, hfz21_1⟩ := zq2 BK393.out))
    refine bodyPost_ret (results_ct rfl _ _ gb393 28 #[.int .i64 t398, .string (rdOf ByteArray.empty t394 1)] (0, 0) _ rfl (zk0 BK393.out) Tryd.underlying28 rfl (by kernel_rfl)) rfl ?_
    exact ⟨zE, zG2 GE393.out GE401.out⟩
   replace c15 := Bool.eq_false_iff.mpr c15
   subst c15
   replace H := (if_neg zFf).symm.trans H
   simp only [Option.some.injEq, Prod.mk.injEq] at H
   obtain ⟨rfl, rfl, rfl⟩ := H
   have p400 : 0 ≤ (1 : Int) := (by omega)
   have q400 : 1 < (t394.length : Int) := zA
   obtain ⟨ad400, e400, hx400_0⟩ := Kd.at_string (Kd.R_reads' HO_4.out).2.2 1 p400 q400
   obtain rfl : ad397 = ad400 := (by injection e400)
   (try simp only [show (1 : Int).toNat = 1 from rfl, Nat.reduceMul, Nat.reduceEqDiff, Go.Addr.add, ↓reduceIte] at hx400_0)
   have qi400 : (1 < t394.length) = True := eq_true (by omega)
   (try rw [show ((1 : Int)).toNat = 1 from rfl] at hx400_0)
   replace p400 := eq_true p400
   replace q400 := eq_true q400
   go_wp2_with (first | ((with_reducible refine gate_dst (N := 7) rfl ?_); (try (refine gate_guard (by rfl) ?_; dsimp only)); refine zBx (N := 7) #[.int .i64 0, .string (⟨#[]⟩ : ByteArray)] 28 ?_; intro gb401 hg w22 hbox hb; replace HO_4 := zW HO_4.out hb; have BK401 := Aside0.mk (hbox); have GW401 := zSg hg (zG GE393.out); have GE401 := zSg hg (zG GE393.out); have NB393_401 := zL hg BK393.out; have NB401_393 := zLg hg BK393.out; replace BK393 := zV BK393.out hb; replace HB := zX1 GE393.out hb; clear hb hbox hg; have hnb23 := NB401_393.out; have hnc23 := NB393_401.out; obtain ⟨hcz24_0, hcz24_1, hfz24_0, hfz24_1⟩ := zq2 BK401.out) | ((with_reducible refine gate_callee (f := 38) rfl ?_); refine zD (some 31) Tryd.func38 #[.agg #[.int .i64 t398, .string (rdOf ByteArray.empty t394 1)]] ?_; (with_reducible refine (impl_AreSigns.calls kj4 t398 (rdOf ByteArray.empty t394 1) false _ A14.out).mono ?_); rintro e w25 ⟨rfl, hb⟩; refine ⟨_, rfl, ?_⟩; replace HO_4 := Aside0.mk (Kd.R_below (by (with_reducible repeat (first | apply Kd.R_alloc | apply Kd.R_drewN | apply Kd.R_drew)); exact (Kd.R_mono (Kd.R_far (p := ⟨gb401, 1, none⟩) (Kd.R_far (p := ⟨gb401, 0, none⟩) (Kd.R_types HO_4.out BK401.out (by decide)) (fun _ hk => hk.2) (.int .i64 t398)) (fun _ hk => hk.2) (.string (rdOf ByteArray.empty t394 1))) (fun _ h_ => h_.1))) hb); replace BK393 := Aside0.mk (blk_below (g := gb393) (o := .cells #[.int .i64 0, .string (⟨#[]⟩ : ByteArray)] 28 (0, 0)) (zk2 BK393.out NB393_401.out NB393_401.out) hb); replace BK401 := Aside0.mk (blk_below (g := gb401) (o := .cells #[.int .i64 t398, .string (rdOf ByteArray.empty t394 1)] 28 (0, 0)) (zk0 BK401.out) hb); replace HB := Aside0.mk (below_step (zG2 GE393.out GE401.out) hb); (try clear hb); obtain ⟨hcz26_0, hcz26_1, hfz26_0, hfz26_1⟩ := zq2 BK393.out))
   refine bodyPost_ret (results_ct rfl _ _ gb393 28 #[.int .i64 0, .string (⟨#[]⟩ : ByteArray)] (0, 0) _ rfl (zk0 BK393.out) Tryd.underlying28 rfl (by kernel_rfl)) rfl ?_
   exact ⟨zE, zG2 GE393.out GE401.out⟩
  rw [if_neg c13] at H
  exact absurd H (by simp)
 rw [if_neg c3] at H
 exact absurd H (by simp)
end Go.Proofs.YthhgcdfdjlijjaaDoor.PX
namespace Go.Proofs.YthhgcdfdjlijjaaDoor.M
open Go.RowKit Go.Proofs.YthhgcdfdjlijjaaDoorW.PrintWords
section
variable {α β : Type} {r : α} {r' : β}
theorem ev_pos {c : Prop} [Decidable c] {a b : Nat → Option α} (h : c) (k : Ev a r) : Ev (fun n => if c then a n else b n) r := Ev.congr (fun _ => if_pos h) k
theorem ev_neg {c : Prop} [Decidable c] {a b : Nat → Option α} (h : ¬ c) (k : Ev b r) : Ev (fun n => if c then a n else b n) r := Ev.congr (fun _ => if_neg h) k
theorem ev_call {x : Option α} {a : α} {f : Nat → α → Option β} (h : x = some a) (k : Ev (fun n => f n a) r') : Ev (fun n => x.bind (f n)) r' := Ev.congr (fun n => by rw [h]; rfl) k
theorem ev_cast {g : Nat → Option α} {a b : α} (h : Ev g a) (e : a = b) : Ev g b := e ▸ h
theorem ev_step {g : Nat → Option α} (k : Ev (fun n => g (n + 1)) r) : Ev g r := Ev.step (fun _ => rfl) k
end
theorem wrap_id {x : Int} (h0 : -9223372036854775808 ≤ x) (h1 : x ≤ 9223372036854775807) : wrap64 x = x := by unfold wrap64; omega
theorem size_list (t : ByteArray) : t.size = t.data.toList.length := rfl
theorem bt_nat {t : ByteArray} {i : Nat} (h : i < t.data.toList.length) : bt t (i : Int) = ((t.data.toList[i]).toNat : Int) := by
  have h' : i < t.size := h
  unfold bt
  simp only [Int.toNat_natCast, h', dite_true]
  rfl
def isSg (c : UInt8) : Bool := c = 43 || c = 45
def cntW (n : Int) : Int := wrap64 (Int.tdiv (wrap64 ((wrap64 (n * (wrap64 (n - 1)))) * (wrap64 (n - 2)))) 6)
theorem cntW_3 : cntW 3 = 1 := by decide +kernel
theorem cntW_4 : cntW 4 = 4 := by decide +kernel
theorem cntW_5 : cntW 5 = 10 := by decide +kernel
theorem cntW_6 : cntW 6 = 20 := by decide +kernel
theorem cntW_7 : cntW 7 = 35 := by decide +kernel
def areOk (n : Int) (t : ByteArray) : Bool := decide (3 ≤ n) && decide (n ≤ 7) && decide ((t.size : Int) = cntW n) && t.data.toList.all isSg
theorem u8_43 (c : UInt8) : ((c.toNat : Int) = 43) ↔ c = 43 := by
  constructor
  · intro h; apply UInt8.toNat_inj.1; show c.toNat = 43; omega
  · rintro rfl; rfl
theorem u8_45 (c : UInt8) : ((c.toNat : Int) = 45) ↔ c = 45 := by
  constructor
  · intro h; apply UInt8.toNat_inj.1; show c.toNat = 45; omega
  · rintro rfl; rfl
theorem areOk_iff (n : Int) (t : ByteArray) : areOk n t = true ↔ (3 ≤ n ∧ n ≤ 7) ∧ (t.size : Int) = cntW n ∧ ∀ c ∈ t.data.toList, c = 43 ∨ c = 45 := by
  simp only [areOk, Bool.and_eq_true, decide_eq_true_eq, List.all_eq_true, isSg, Bool.or_eq_true, and_assoc]
theorem areOk_size {n : Int} {t : ByteArray} (h : areOk n t = true) : t.size ≤ 35 := by
  obtain ⟨⟨h0, h1⟩, h2, _⟩ := (areOk_iff n t).1 h
  have h3 : cntW n ≤ 35 := by
    have : n = 3 ∨ n = 4 ∨ n = 5 ∨ n = 6 ∨ n = 7 := by omega
    rcases this with rfl | rfl | rfl | rfl | rfl
    · rw [cntW_3]; decide
    · rw [cntW_4]; decide
    · rw [cntW_5]; decide
    · rw [cntW_6]; decide
    · rw [cntW_7]; decide
  omega
end Go.Proofs.YthhgcdfdjlijjaaDoor.M
namespace Go.Proofs.YthhgcdfdjlijjaaDoor.M
open Go.RowKit Go.Proofs.YthhgcdfdjlijjaaDoorW.PrintWords Go.Proofs.YthhgcdfdjlijjaaDoor.PX
theorem impl_are_loop (n : Int) (t : ByteArray) (hs : t.data.toList.length ≤ 9223372036854775807) (d : Nat) : ∀ i : Nat, i + d = t.data.toList.length → Ev (fun k => impl_AreSigns.l0 k (i : Int) n t) ((t.data.toList.drop i).all isSg) := by
  induction d with
  | zero =>
    intro i hi
    rw [List.drop_of_length_le (by omega)]
    refine ev_step ?_
    simp only [impl_AreSigns.l0]
    exact ev_neg (by rw [size_list]; omega) (Ev.now _)
  | succ d ih =>
    intro i hi
    have hlt : i < t.data.toList.length := by omega
    rw [List.drop_eq_getElem_cons hlt, List.all_cons]
    refine ev_step ?_
    simp only [impl_AreSigns.l0]
    refine ev_pos (by rw [size_list]; omega) (ev_pos (by omega) ?_)
    rw [bt_nat hlt, wrap_id (by omega) (by omega)]
    have hn := ih (i + 1) (by omega)
    by_cases h1 : t.data.toList[i] = 43
    · refine ev_pos ((u8_43 _).2 h1) ?_
      rw [show isSg t.data.toList[i] = true by simp [isSg, h1], Bool.true_and]
      exact hn
    · refine ev_neg (fun h => h1 ((u8_43 _).1 h)) ?_
      by_cases h2 : t.data.toList[i] = 45
      · refine ev_pos ((u8_45 _).2 h2) ?_
        rw [show isSg t.data.toList[i] = true by simp [isSg, h2], Bool.true_and]
        exact hn
      · refine ev_neg (fun h => h2 ((u8_45 _).1 h)) ?_
        rw [show isSg t.data.toList[i] = false by unfold isSg; rw [decide_eq_false h1, decide_eq_false h2]; rfl, Bool.false_and]
        exact Ev.now _
theorem impl_are (n : Int) (t : ByteArray) (hs : t.size ≤ 9223372036854775807) : Ev (fun k => impl_AreSigns.f k n t) (areOk n t) := by
  rw [size_list] at hs
  unfold impl_AreSigns.f areOk
  have hj : ∀ r, Ev (fun k => impl_AreSigns.j0 k true n t) r ↔ r = false := fun r => by
    constructor
    · rintro ⟨K, hK⟩
      have := hK (K + 1) (by omega)
      simp only [impl_AreSigns.j0, if_true] at this
      exact (Option.some.inj this).symm
    · rintro rfl
      refine ev_step ?_
      simp only [impl_AreSigns.j0]
      exact ev_pos (by trivial) (Ev.now _)
  by_cases h0 : n < 3
  · refine ev_pos h0 ((hj _).2 ?_)
    simp; omega
  · refine ev_neg h0 ?_
    by_cases h1 : n > 7
    · refine ev_pos h1 ((hj _).2 ?_)
      simp; omega
    · refine ev_neg h1 ?_
      refine ev_step ?_
      simp only [impl_AreSigns.j0]
      rw [show decide (3 ≤ n) = true from decide_eq_true (by omega), show decide (n ≤ 7) = true from decide_eq_true (by omega), Bool.true_and, Bool.true_and]
      by_cases h2 : (t.size : Int) = cntW n
      · refine ev_neg (by simp only [bne_iff_ne, ne_eq, Decidable.not_not]; exact h2) ?_
        rw [decide_eq_true h2, Bool.true_and]
        exact impl_are_loop n t hs t.data.toList.length 0 (by omega)
      · refine ev_pos (by simp only [bne_iff_ne, ne_eq]; exact h2) ?_
        rw [decide_eq_false h2, Bool.false_and]
        exact Ev.now _
theorem spec_are_loop (n : Int) (t : ByteArray) (hs : t.data.toList.length ≤ 9223372036854775807) (d : Nat) : ∀ i : Nat, i + d = t.data.toList.length → Ev (fun k => spec_AreSigns.l0 k (i : Int) n t) ((t.data.toList.drop i).all isSg) := by
  induction d with
  | zero =>
    intro i hi
    rw [List.drop_of_length_le (by omega)]
    refine ev_step ?_
    simp only [spec_AreSigns.l0]
    exact ev_neg (by rw [size_list]; omega) (Ev.now _)
  | succ d ih =>
    intro i hi
    have hlt : i < t.data.toList.length := by omega
    rw [List.drop_eq_getElem_cons hlt, List.all_cons]
    refine ev_step ?_
    simp only [spec_AreSigns.l0]
    refine ev_pos (by rw [size_list]; omega) (ev_pos (by omega) ?_)
    rw [bt_nat hlt, wrap_id (by omega) (by omega)]
    have hn := ih (i + 1) (by omega)
    by_cases h1 : t.data.toList[i] = 43
    · refine ev_pos ((u8_43 _).2 h1) ?_
      rw [show isSg t.data.toList[i] = true by simp [isSg, h1], Bool.true_and]
      exact hn
    · refine ev_neg (fun h => h1 ((u8_43 _).1 h)) ?_
      by_cases h2 : t.data.toList[i] = 45
      · refine ev_pos ((u8_45 _).2 h2) ?_
        rw [show isSg t.data.toList[i] = true by simp [isSg, h2], Bool.true_and]
        exact hn
      · refine ev_neg (fun h => h2 ((u8_45 _).1 h)) ?_
        rw [show isSg t.data.toList[i] = false by unfold isSg; rw [decide_eq_false h1, decide_eq_false h2]; rfl, Bool.false_and]
        exact Ev.now _
theorem spec_in (x lo hi : Int) : spec_l1In.f x lo hi = some (decide (lo ≤ x) && decide (x ≤ hi)) := by
  unfold spec_l1In.f
  by_cases h : x ≥ lo
  · rw [if_pos h, show decide (lo ≤ x) = true from decide_eq_true h, Bool.true_and]
  · rw [if_neg h, show decide (lo ≤ x) = false from decide_eq_false h, Bool.false_and]
theorem spec_are (n : Int) (t : ByteArray) (hs : t.size ≤ 9223372036854775807) : Ev (fun k => spec_AreSigns.f k n t) (areOk n t) := by
  rw [size_list] at hs
  unfold spec_AreSigns.f areOk
  refine ev_call (spec_in n 3 7) ?_
  by_cases h0 : (decide (3 ≤ n) && decide (n ≤ 7)) = true
  · refine ev_pos h0 ?_
    rw [h0, Bool.true_and]
    refine ev_step ?_
    simp only [spec_AreSigns.j0]
    by_cases h2 : (t.size : Int) = cntW n
    · refine ev_neg (by simp only [bne_iff_ne, ne_eq, Decidable.not_not]; exact h2) ?_
      rw [decide_eq_true h2, Bool.true_and]
      exact spec_are_loop n t hs t.data.toList.length 0 (by omega)
    · refine ev_pos (by simp only [bne_iff_ne, ne_eq]; exact h2) ?_
      rw [decide_eq_false h2, Bool.false_and]
      exact Ev.now _
  · refine ev_neg h0 ?_
    rw [Bool.eq_false_iff.mpr h0, Bool.false_and, Bool.false_and]
    refine ev_step ?_
    simp only [spec_AreSigns.j0]
    exact ev_pos (by trivial) (Ev.now _)
end Go.Proofs.YthhgcdfdjlijjaaDoor.M
namespace Go.Proofs.YthhgcdfdjlijjaaDoor.M
open Go.RowKit Go.Proofs.YthhgcdfdjlijjaaDoorW.PrintWords Go.Proofs.YthhgcdfdjlijjaaDoor.PX Go.Proofs.YthhgcdfdjlijjaaDoor.G Go.Proofs.YthhgcdfdjlijjaaDoorW.PrintMore
open Go.Lib (decDigits itoa parseUint10 parseMag atoiAll)
theorem dec_one {u : Nat} (h : u < 10) : decDigits u = [UInt8.ofNat (48 + u)] := by rw [decDigits, dif_pos h]
theorem dec_step {u : Nat} (h : ¬ u < 10) : decDigits u = decDigits (u / 10) ++ [UInt8.ofNat (48 + u % 10)] := by rw [decDigits, dif_neg h]
theorem dig_nat {d : Nat} (h : d < 10) : (UInt8.ofNat (48 + d)).toNat = 48 + d := by
  rw [UInt8.toNat_ofNat']
  exact Nat.mod_eq_of_lt (by omega)
theorem dec_len (d : Nat) : ∀ u, u < 10 ^ (d + 1) → (decDigits u).length ≤ d + 1 := by
  induction d with
  | zero => intro u h; rw [dec_one (by simpa using h)]; exact Nat.le_refl _
  | succ d ih =>
    intro u h
    by_cases g : u < 10
    · rw [dec_one g, List.length_singleton]; omega
    · have := ih (u / 10) (by rw [Nat.pow_succ] at h; omega)
      rw [dec_step g, List.length_append, List.length_singleton]; omega
theorem dec_pos (u : Nat) : 1 ≤ (decDigits u).length := by
  by_cases g : u < 10
  · rw [dec_one g]; exact Nat.le_refl _
  · rw [dec_step g, List.length_append, List.length_singleton]; omega
theorem dec_dig (d : Nat) : ∀ u, u < 10 ^ (d + 1) → ∀ c ∈ decDigits u, 48 ≤ c.toNat ∧ c.toNat ≤ 57 := by
  induction d with
  | zero =>
    intro u h c hc
    have h : u < 10 := by simpa using h
    rw [dec_one h, List.mem_singleton] at hc
    rw [hc, dig_nat h]
    omega
  | succ d ih =>
    intro u h c hc
    by_cases g : u < 10
    · rw [dec_one g, List.mem_singleton] at hc
      rw [hc, dig_nat g]
      omega
    · rw [dec_step g, List.mem_append, List.mem_singleton] at hc
      rcases hc with hc | hc
      · exact ih (u / 10) (by rw [Nat.pow_succ] at h; omega) c hc
      · rw [hc, dig_nat (Nat.mod_lt _ (by omega))]
        have := Nat.mod_lt u (show 0 < 10 by omega)
        omega
/-! ### the library's reading -/
theorem parse_app (l r : List UInt8) : ∀ acc a, parseUint10 acc l = .ok a → parseUint10 acc (l ++ r) = parseUint10 a r := by
  induction l with
  | nil => intro acc a h; simp only [parseUint10] at h; cases h; rfl
  | cons c l ih =>
    intro acc a h
    simp only [parseUint10, List.cons_append] at h ⊢
    split at h
    · rename_i h1
      rw [if_pos h1]
      split at h
      · cases h
      · rename_i h2
        rw [if_neg h2]
        split at h
        · cases h
        · rename_i h3
          rw [if_neg h3]
          exact ih _ _ h
    · cases h
theorem parse_dec (d : Nat) : ∀ u, u < 10 ^ (d + 1) → u < 18446744073709551616 → parseUint10 0 (decDigits u) = .ok u := by
  have one : ∀ a x : Nat, x < 10 → a < 1844674407370955162 → a * 10 + x < 18446744073709551616 → parseUint10 a [UInt8.ofNat (48 + x)] = .ok (a * 10 + x) := by
    intro a x hx h1 h2
    simp only [parseUint10, dig_nat hx]
    rw [if_pos (by omega), if_neg (by omega), if_neg (by omega)]
    congr 1
    omega
  induction d with
  | zero =>
    intro u h _
    have h : u < 10 := by simpa using h
    rw [dec_one h, one 0 u h (by omega) (by omega), Nat.zero_mul, Nat.zero_add]
  | succ d ih =>
    intro u h h2
    by_cases g : u < 10
    · rw [dec_one g, one 0 u g (by omega) (by omega), Nat.zero_mul, Nat.zero_add]
    · rw [dec_step g, parse_app _ _ _ _ (ih (u / 10) (by rw [Nat.pow_succ] at h; omega) (by omega)), one (u / 10) (u % 10) (Nat.mod_lt _ (by omega)) (by omega) (by omega)]
      congr 1
      omega
theorem dec_ne (u : Nat) : decDigits u ≠ [] := fun h => by have := dec_pos u; rw [h] at this; exact absurd this (by decide)
theorem big20 {u : Nat} (h : u < 18446744073709551616) : u < 10 ^ (19 + 1) := by omega
theorem mag_dec {u : Nat} (h : u < 18446744073709551616) : parseMag (decDigits u) = .ok u := by
  unfold parseMag
  rw [if_neg (dec_ne u)]
  exact parse_dec 19 u (big20 h) h
theorem dec_head {u : Nat} (h : u < 18446744073709551616) : ∃ c r, decDigits u = c :: r ∧ 48 ≤ c.toNat ∧ c.toNat ≤ 57 := by
  cases e : decDigits u with
  | nil => exact absurd e (dec_ne u)
  | cons c r =>
    have := dec_dig 19 u (big20 h) c (by rw [e]; exact List.mem_cons_self)
    exact ⟨c, r, rfl, this⟩
theorem atoi_itoa {n : Int} (h0 : -9223372036854775808 ≤ n) (h1 : n ≤ 9223372036854775807) : atoiAll (itoa n) = .ok n := by
  unfold itoa
  by_cases g : n < 0
  · rw [if_pos g, Lib.atoiAll_minus, mag_dec (by omega)]
    unfold Lib.signed
    simp only
    rw [if_neg (by omega)]
    congr 1
    omega
  · rw [if_neg g]
    obtain ⟨c, r, e, c1, c2⟩ := dec_head (u := n.toNat) (by omega)
    have hm := mag_dec (u := n.toNat) (by omega)
    rw [e] at hm ⊢
    rw [Lib.atoiAll_plain c r (by omega) (by omega), hm]
    unfold Lib.signless
    simp only
    rw [if_neg (by omega)]
    congr 1
    omega
theorem itoaB_data (n : Int) : (itoaB n).data.toList = itoa n := rfl
theorem itoaB_inj {m n : Int} (hm : -9223372036854775808 ≤ m ∧ m ≤ 9223372036854775807) (hn : -9223372036854775808 ≤ n ∧ n ≤ 9223372036854775807) (h : itoaB m = itoaB n) : m = n := by
  have e1 := atoi_itoa hm.1 hm.2
  have e2 := atoi_itoa hn.1 hn.2
  rw [← itoaB_data, h, itoaB_data, e2] at e1
  injection e1 with e1
  exact e1.symm
/-! ### the reference's text -/
theorem app_list (a b : List UInt8) : (⟨a.toArray⟩ : ByteArray) ++ ⟨b.toArray⟩ = ⟨(a ++ b).toArray⟩ := by
  apply ByteArray.ext
  simp
theorem fmt_loop (neg : Bool) (d : Nat) : ∀ (x : Int) (l : List UInt8), x.natAbs < 10 ^ d → l.length + d ≤ 1000 → -9223372036854775808 ≤ x → x ≤ 9223372036854775807 →
    Ev (fun k => spec_FormatInt.l0 k x neg ⟨l.toArray⟩) ⟨((if neg = true then [45] else []) ++ ((if x = 0 then [] else decDigits x.natAbs) ++ l)).toArray⟩ := by
  have exit : ∀ (l : List UInt8), l.length ≤ 1000 → Ev (fun k => spec_FormatInt.l0 k 0 neg ⟨l.toArray⟩) ⟨((if neg = true then [45] else []) ++ ((if (0 : Int) = 0 then [] else decDigits (0 : Int).natAbs) ++ l)).toArray⟩ := by
    intro l hl
    refine ev_step ?_
    simp only [spec_FormatInt.l0]
    refine ev_pos (by first | rfl | trivial) ?_
    cases neg with
    | true =>
      refine ev_pos (by first | rfl | trivial) (ev_pos ?_ (ev_cast (Ev.now _) ?_))
      · show 1 + l.length ≤ _
        omega
      · exact app_list [45] l
    | false => exact ev_neg (by simp) (Ev.now _)
  induction d with
  | zero =>
    intro x l hx hl _ _
    have : x = 0 := by simp at hx; exact hx
    subst this
    exact exit l (by omega)
  | succ d ih =>
    intro x l hx hl h0 h1
    by_cases g : x = 0
    · subst g
      exact exit l (by omega)
    · have ml := Nat.mod_lt x.natAbs (show 0 < 10 by omega)
      have td : (Int.tdiv x 10).natAbs = x.natAbs / 10 := by
        rcases Int.natAbs_eq x with e | e
        · rw [e]; exact Int.natAbs_natCast _
        · rw [e, Int.neg_tdiv, Int.natAbs_neg, Int.natAbs_neg]; exact Int.natAbs_natCast _
      have tm : Int.tmod x 10 = if x < 0 then -((x.natAbs % 10 : Nat) : Int) else ((x.natAbs % 10 : Nat) : Int) := by
        rcases Int.natAbs_eq x with e | e
        · rw [if_neg (by omega)]
          conv => lhs; rw [e]
          rfl
        · rw [if_pos (by omega)]
          conv => lhs; rw [e, Int.neg_tmod]
          rfl
      have tz : Int.tdiv x 10 = 0 ↔ x.natAbs < 10 := by omega
      have tb : -9223372036854775808 ≤ Int.tdiv x 10 ∧ Int.tdiv x 10 ≤ 9223372036854775807 := by
        have : x.natAbs ≤ 9223372036854775808 := by omega
        omega
      have nx := ih (Int.tdiv x 10) (UInt8.ofNat (48 + x.natAbs % 10) :: l) (by rw [td]; rw [Nat.pow_succ] at hx; omega) (by rw [List.length_cons]; omega) tb.1 tb.2
      have fin : ((if neg = true then [45] else []) ++ ((if Int.tdiv x 10 = 0 then [] else decDigits (Int.tdiv x 10).natAbs) ++ UInt8.ofNat (48 + x.natAbs % 10) :: l) : List UInt8) = (if neg = true then [45] else []) ++ ((if x = 0 then [] else decDigits x.natAbs) ++ l) := by
        rw [if_neg g, td]
        by_cases s : x.natAbs < 10
        · rw [if_pos (tz.2 s), dec_one s, Nat.mod_eq_of_lt s]
          rfl
        · rw [if_neg (fun e => s (tz.1 e)), dec_step s, List.append_assoc]
          rfl
      rw [fin] at nx
      have go : ∀ y : Int, y = 48 + ((x.natAbs % 10 : Nat) : Int) → Ev (fun k => (some (([y % 256] : List Int) : List Int)).bind fun y101 => (if (strOfNums y101).size + (⟨l.toArray⟩ : ByteArray).size ≤ 9223372036854775807 then (spec_FormatInt.l0 k (wrap64 (Int.tdiv x 10)) neg ((strOfNums y101) ++ ⟨l.toArray⟩)) else (none)))
          ⟨((if neg = true then [45] else []) ++ ((if x = 0 then [] else decDigits x.natAbs) ++ l)).toArray⟩ := by
        intro y hy
        have e : y % 256 = ((48 + x.natAbs % 10 : Nat) : Int) := by omega
        rw [e]
        refine ev_call rfl (ev_pos ?_ ?_)
        · show 1 + l.length ≤ _
          omega
        · rw [wrap_id tb.1 tb.2]
          have e2 : strOfNums [((48 + x.natAbs % 10 : Nat) : Int)] ++ (⟨l.toArray⟩ : ByteArray) = ⟨(UInt8.ofNat (48 + x.natAbs % 10) :: l).toArray⟩ := app_list [UInt8.ofNat (48 + x.natAbs % 10)] l
          rw [e2]
          exact nx
      refine ev_step ?_
      simp only [spec_FormatInt.l0]
      refine ev_neg g ?_
      by_cases s : Int.tmod x 10 < 0
      · refine ev_pos s (go _ ?_)
        rw [tm] at s ⊢
        split at s
        · rename_i s'
          rw [if_pos s', wrap_id (x := -(-((x.natAbs % 10 : Nat) : Int))) (by omega) (by omega), wrap_id (by omega) (by omega)]
          omega
        · omega
      · refine ev_neg s (go _ ?_)
        rw [tm] at s ⊢
        split at s
        · rename_i s'
          rw [if_pos s', wrap_id (by omega) (by omega)]
          omega
        · rename_i s'
          rw [if_neg s', wrap_id (by omega) (by omega)]
theorem spec_fmt {n : Int} (h0 : -9223372036854775808 ≤ n) (h1 : n ≤ 9223372036854775807) : Ev (fun k => spec_FormatInt.f k n) (itoaB n) := by
  unfold spec_FormatInt.f
  by_cases g : n = 0
  · subst g
    exact ev_pos rfl (ev_cast (Ev.now _) (show (⟨#[48]⟩ : ByteArray) = ⟨(decDigits 0).toArray⟩ by rw [dec_one (by decide)]; rfl))
  · refine ev_neg g (ev_cast (fmt_loop (decide (n < 0)) 19 n [] (by omega) (by decide) h0 h1) ?_)
    unfold itoaB itoa
    rw [if_neg g, List.append_nil]
    by_cases s : n < 0
    · rw [decide_eq_true s, if_pos rfl, if_pos s]
      rfl
    · rw [decide_eq_false s, if_neg (by simp), if_neg s, show n.natAbs = n.toNat by omega]
      rfl
theorem impl_fmt {n : Int} (h0 : -9223372036854775808 ≤ n) (h1 : n ≤ 9223372036854775807) : impl_FormatInt.f n = some (itoaB n) := if_pos ⟨h0, h1⟩
end Go.Proofs.YthhgcdfdjlijjaaDoor.M
namespace Go.Proofs.YthhgcdfdjlijjaaDoor.PX
open Go.RowKit Go.Proofs.YthhgcdfdjlijjaaDoor.G Go.Proofs.YthhgcdfdjlijjaaDoorW.PrintWords Go.Proofs.YthhgcdfdjlijjaaDoorW.PrintLast Go.Proofs.YthhgcdfdjlijjaaDoorW.PrintMore
attribute [local go_sem] max2_int min2_int max_two min_two max_three min_three max_four min_four   -- for this text's walks alone
set_option linter.unusedVariables false
set_option linter.unusedSimpArgs false
/-! ### impl_ParseInt: function 23 -/
/-! ### spec_ParseNumber: function 24 -/
end Go.Proofs.YthhgcdfdjlijjaaDoor.PX
namespace Go.Proofs.YthhgcdfdjlijjaaDoor.M
open Go.RowKit Go.Proofs.YthhgcdfdjlijjaaDoorW.PrintWords Go.Proofs.YthhgcdfdjlijjaaDoor.PX Go.Proofs.YthhgcdfdjlijjaaDoor.G Go.Proofs.YthhgcdfdjlijjaaDoorW.PrintMore
open Go.Lib (decDigits itoa parseUint10 parseMag atoiAll)
def valF : Nat → List UInt8 → Option Nat
  | acc, [] => some acc
  | acc, c :: r => if 48 ≤ c.toNat ∧ c.toNat ≤ 57 then valF (10 * acc + (c.toNat - 48)) r else none
theorem valF_app (l r : List UInt8) : ∀ acc a, valF acc l = some a → valF acc (l ++ r) = valF a r := by
  induction l with
  | nil => intro acc a h; simp only [valF, Option.some.injEq] at h; subst h; rfl
  | cons c l ih =>
    intro acc a h
    simp only [valF, List.cons_append] at h ⊢
    split at h
    · rename_i h1
      rw [if_pos h1]
      exact ih _ _ h
    · cases h
theorem valF_dec (d : Nat) : ∀ u, u < 10 ^ (d + 1) → valF 0 (decDigits u) = some u := by
  have one : ∀ a x : Nat, x < 10 → valF a [UInt8.ofNat (48 + x)] = some (10 * a + x) := by
    intro a x hx
    simp only [valF, dig_nat hx]
    rw [if_pos (by omega)]
    congr 1
    omega
  induction d with
  | zero =>
    intro u h
    have h : u < 10 := by simpa using h
    rw [dec_one h, one 0 u h, Nat.mul_zero, Nat.zero_add]
  | succ d ih =>
    intro u h
    by_cases g : u < 10
    · rw [dec_one g, one 0 u g, Nat.mul_zero, Nat.zero_add]
    · rw [dec_step g, valF_app _ _ _ _ (ih (u / 10) (by rw [Nat.pow_succ] at h; omega)), one (u / 10) (u % 10) (Nat.mod_lt _ (by omega))]
      congr 1
      omega
theorem valF_lt (l : List UInt8) : ∀ acc v m, valF acc l = some v → acc < 10 ^ m → v < 10 ^ (m + l.length) := by
  induction l with
  | nil => intro acc v m h ha; simp only [valF, Option.some.injEq] at h; subst h; exact ha
  | cons c l ih =>
    intro acc v m h ha
    simp only [valF] at h
    split at h
    · have := ih _ v (m + 1) h (by rw [Nat.pow_succ]; omega)
      rw [List.length_cons, show m + (l.length + 1) = m + 1 + l.length by omega]
      exact this
    · cases h
def readE (s : ByteArray) (neg : Bool) : Option Nat → Int × Bool
  | none => (0, false)
  | some v => if (itoaB (if neg = true then -(v : Int) else (v : Int))).toList = s.toList then ((if neg = true then -(v : Int) else (v : Int)), true) else (0, false)
def tailB (s : ByteArray) (neg : Bool) : ByteArray := if neg = true then s.extract 1 s.size else s
def negB (s : ByteArray) : Bool := decide (0 < s.size) && (bt s 0 == 45)
def readS (s : ByteArray) (m : Nat) : Int × Bool := if (tailB s (negB s)).size < 1 ∨ (tailB s (negB s)).size > m then (0, false) else readE s (negB s) (valF 0 (tailB s (negB s)).data.toList)
theorem p12 : ∀ i, i ≤ 12 → 10 ^ i ≤ 1000000000000 := fun i h => by
  have := Nat.pow_le_pow_right (n := 10) (by omega) h
  omega
theorem read_loop (s t : ByteArray) (neg : Bool) (ht : t.data.toList.length ≤ 12) (d : Nat) : ∀ i acc : Nat, i + d = t.data.toList.length → acc < 10 ^ i → Ev (fun k => spec_l1Read.l0 k s neg t (acc : Int) (i : Int)) (readE s neg (valF acc (t.data.toList.drop i))) := by
  induction d with
  | zero =>
    intro i acc hi ha
    have := p12 i (by omega)
    refine ev_step ?_
    simp only [spec_l1Read.l0]
    rw [List.drop_of_length_le (by omega)]
    refine ev_neg (by rw [size_list]; omega) ?_
    simp only [valF, readE]
    cases neg with
    | true =>
      simp only [if_true]
      rw [wrap_id (x := -(acc : Int)) (by omega) (by omega)]
      refine Ev.bind (spec_fmt (by omega) (by omega)) ?_
      by_cases g : (itoaB (-(acc : Int))).toList = s.toList
      · exact ev_cast (ev_pos g (Ev.now _)) (if_pos g).symm
      · exact ev_cast (ev_neg g (Ev.now _)) (if_neg g).symm
    | false =>
      simp only [Bool.false_eq_true, if_false]
      refine Ev.bind (spec_fmt (by omega) (by omega)) ?_
      by_cases g : (itoaB (acc : Int)).toList = s.toList
      · exact ev_cast (ev_pos g (Ev.now _)) (if_pos g).symm
      · exact ev_cast (ev_neg g (Ev.now _)) (if_neg g).symm
  | succ d ih =>
    intro i acc hi ha
    have hil : i < t.data.toList.length := by omega
    have pb := p12 i (by omega)
    have pb' := p12 (i + 1) (by omega)
    refine ev_step ?_
    simp only [spec_l1Read.l0]
    rw [List.drop_eq_getElem_cons hil, bt_nat hil]
    simp only [valF]
    have hc := UInt8.toNat_lt (t.data.toList[i])
    generalize t.data.toList[i] = c at hc
    refine ev_pos (by rw [size_list]; omega) (ev_pos (by omega) ?_)
    by_cases g1 : (c.toNat : Int) < 48
    · rw [if_neg (by omega)]
      exact ev_pos g1 (Ev.now _)
    · refine ev_neg g1 ?_
      by_cases g2 : (c.toNat : Int) > 57
      · rw [if_neg (by omega)]
        exact ev_pos g2 (Ev.now _)
      · rw [if_pos (by omega)]
        refine ev_neg g2 ?_
        have nx := ih (i + 1) (10 * acc + (c.toNat - 48)) (by omega) (by rw [Nat.pow_succ]; omega)
        rw [Nat.pow_succ] at pb'
        rw [wrap_id (x := 10 * (acc : Int)) (by omega) (by omega), wrap_id (x := 10 * (acc : Int) + ((c.toNat : Int) - 48) % 256) (by omega) (by omega), wrap_id (x := (i : Int) + 1) (by omega) (by omega), show 10 * (acc : Int) + ((c.toNat : Int) - 48) % 256 = ((10 * acc + (c.toNat - 48) : Nat) : Int) by omega]
        exact nx
theorem spec_read (s : ByteArray) (m : Nat) (hm : m ≤ 12) (hs : s.size ≤ 1048576) : Ev (fun k => spec_l1Read.f k s (m : Int)) (readS s m) := by
  have j2 : ∀ (neg : Bool) (t : ByteArray), t = tailB s neg → Ev (fun k => spec_l1Read.j1 k s (m : Int) neg t) (if t.size < 1 ∨ t.size > m then (0, false) else readE s neg (valF 0 t.data.toList)) := by
    intro neg t _
    have two : ∀ b : Bool, b = decide (t.size < 1 ∨ t.size > m) → Ev (fun k => spec_l1Read.j2 k s neg t b) (if t.size < 1 ∨ t.size > m then (0, false) else readE s neg (valF 0 t.data.toList)) := by
      intro b hb
      refine ev_step ?_
      simp only [spec_l1Read.j2]
      by_cases g : t.size < 1 ∨ t.size > m
      · rw [if_pos g]
        rw [decide_eq_true g] at hb
        exact ev_pos hb (Ev.now _)
      · rw [if_neg g]
        rw [decide_eq_false g] at hb
        refine ev_neg (by rw [hb]; simp) ?_
        have r := read_loop s t neg (by rw [← size_list]; omega) t.data.toList.length 0 0 (by omega) (by simp)
        rw [List.drop_zero] at r
        exact r
    refine ev_step ?_
    simp only [spec_l1Read.j1]
    by_cases g : t.size < 1
    · exact ev_pos (by omega) (two true (by rw [decide_eq_true (Or.inl g)]))
    · refine ev_neg (by omega) (two _ ?_)
      rw [decide_eq_decide]
      omega
  have j0 : ∀ neg : Bool, (neg = true → 0 < s.size) → Ev (fun k => spec_l1Read.j0 k s (m : Int) neg) (if (tailB s neg).size < 1 ∨ (tailB s neg).size > m then (0, false) else readE s neg (valF 0 (tailB s neg).data.toList)) := by
    intro neg hn
    refine ev_step ?_
    simp only [spec_l1Read.j0]
    cases neg with
    | true =>
      have := hn rfl
      exact ev_pos (by first | rfl | trivial) (ev_pos (by omega) (j2 true _ rfl))
    | false => exact ev_neg (by simp) (j2 false _ rfl)
  unfold spec_l1Read.f readS
  by_cases g : 0 < s.size
  · have e : negB s = (bt s 0 == 45) := by unfold negB; rw [decide_eq_true g, Bool.true_and]
    rw [e]
    exact ev_pos (by omega) (ev_pos (by omega) (j0 _ fun _ => g))
  · have e : negB s = false := by unfold negB; rw [decide_eq_false g, Bool.false_and]
    rw [e]
    exact ev_neg (by omega) (j0 false (by simp))
theorem toL_inj {a b : ByteArray} : a.toList = b.toList ↔ a = b := by
  constructor
  · intro h
    rw [ByteArray.toList_eq, ByteArray.toList_eq] at h
    exact ByteArray.ext (Array.ext' h)
  · rintro rfl; rfl
theorem tail_data {s : ByteArray} {c : UInt8} {r : List UInt8} (h : s.data.toList = c :: r) : (s.extract 1 s.size).data.toList = r := by
  rw [ByteArray.data_extract, Array.toList_extract, h, size_list, h]
  simp [List.extract]
theorem readS_of {v : Int} {m : Nat} (hm1 : 1 ≤ m) (hm : m ≤ 12) (hv : v.natAbs < 10 ^ m) : readS (itoaB v) m = (v, true) := by
  have pb := p12 m hm
  have hmp : m ≠ 0 := by omega
  obtain ⟨m', rfl⟩ := Nat.exists_eq_succ_of_ne_zero hmp
  have hl := dec_len m' v.natAbs hv
  have hp := dec_pos v.natAbs
  have hv' := valF_dec m' v.natAbs hv
  obtain ⟨c, r, e, c1, c2⟩ := dec_head (u := v.natAbs) (by omega)
  by_cases g : v < 0
  · have d : (itoaB v).data.toList = 45 :: decDigits v.natAbs := by rw [itoaB_data]; unfold itoa; rw [if_pos g]
    have hz : 0 < (itoaB v).size := by rw [size_list, d]; simp
    have hn : negB (itoaB v) = true := by
      unfold negB
      rw [decide_eq_true hz, Bool.true_and, beq_iff_eq]
      have := bt_nat (t := itoaB v) (i := 0) (by rw [d]; simp)
      rw [show ((0 : Nat) : Int) = 0 from rfl] at this
      rw [this]
      simp [d]
    have ht : (tailB (itoaB v) true).data.toList = decDigits v.natAbs := by unfold tailB; rw [if_pos rfl]; exact tail_data d
    unfold readS
    rw [hn, size_list, ht, if_neg (by omega), hv']
    unfold readE
    simp only [if_true]
    rw [show -((v.natAbs : Nat) : Int) = v by omega, if_pos rfl]
  · have d : (itoaB v).data.toList = decDigits v.natAbs := by rw [itoaB_data]; unfold itoa; rw [if_neg g, show v.toNat = v.natAbs by omega]
    have hn : negB (itoaB v) = false := by
      unfold negB
      rw [Bool.and_eq_false_iff]
      right
      have := bt_nat (t := itoaB v) (i := 0) (by rw [d]; omega)
      rw [show ((0 : Nat) : Int) = 0 from rfl] at this
      rw [this, beq_eq_false_iff_ne]
      have e2 : (itoaB v).data.toList[0]'(by rw [d]; omega) = c := by simp [d, e]
      rw [e2]
      omega
    have ht : (tailB (itoaB v) false).data.toList = decDigits v.natAbs := by unfold tailB; rw [if_neg (by simp)]; exact d
    unfold readS
    rw [hn, size_list, ht, if_neg (by omega), hv']
    unfold readE
    simp only [Bool.false_eq_true, if_false]
    rw [show ((v.natAbs : Nat) : Int) = v by omega, if_pos rfl]
theorem readS_not {s : ByteArray} {m : Nat} (h : ∀ v : Int, v.natAbs < 10 ^ m → itoaB v ≠ s) : readS s m = (0, false) := by
  unfold readS
  by_cases g : (tailB s (negB s)).size < 1 ∨ (tailB s (negB s)).size > m
  · rw [if_pos g]
  · rw [if_neg g]
    cases e : valF 0 (tailB s (negB s)).data.toList with
    | none => rfl
    | some v =>
      have hv := valF_lt _ 0 v 0 e (by decide)
      rw [← size_list, Nat.zero_add] at hv
      have hv2 : v < 10 ^ m := Nat.lt_of_lt_of_le hv (Nat.pow_le_pow_right (by omega) (by omega))
      simp only [readE]
      rw [if_neg]
      rw [toL_inj]
      refine h _ ?_
      split <;> omega
theorem whole_of {v least most : Int} (h0 : -9223372036854775808 ≤ v) (h1 : v ≤ 9223372036854775807) (g0 : least ≤ v) (g1 : v ≤ most) (hs : (itoaB v).size ≤ 1048576) : impl_whole.f (itoaB v) least most = some (v, true) := by
  unfold impl_whole.f
  rw [if_pos (by omega), itoaB_data, atoi_itoa h0 h1]
  simp only
  rw [if_neg (by omega), if_neg (by omega), if_pos trivial]
theorem whole_not {s : ByteArray} {least most : Int} (hs : s.size ≤ 1048576) (h : ∀ v : Int, -9223372036854775808 ≤ v → v ≤ 9223372036854775807 → least ≤ v → v ≤ most → itoaB v ≠ s) : impl_whole.f s least most = some (0, false) := by
  unfold impl_whole.f
  rw [if_pos (by omega)]
  cases e : atoiAll s.data.toList with
  | «syntax» => rfl
  | range => rfl
  | ok v =>
    have vb := Lib.atoiAll_bounds e
    simp only
    by_cases c1 : v < least
    · rw [if_pos c1]
    · rw [if_neg c1]
      by_cases c2 : v > most
      · rw [if_pos c2]
      · rw [if_neg c2, if_neg]
        rw [toL_inj]
        exact h v vb.1 vb.2 (by omega) (by omega)
noncomputable def intA (s : ByteArray) : Int × Bool := readS s 12
theorem spec_int (s : ByteArray) (hs : s.size ≤ 1048576) : Ev (fun k => spec_ParseInt.f k s) (intA s) := by
  unfold spec_ParseInt.f intA
  exact Ev.bind (spec_read s 12 (by omega) hs) (Ev.now _)
noncomputable def numA (s : ByteArray) : Int × Bool := if (readS s 6).2 = true then (if (readS s 6).1 < 0 then (0, false) else ((readS s 6).1, true)) else (0, false)
theorem impl_num (s : ByteArray) (hs : s.size ≤ 1048576) : impl_ParseNumber.f s = some (numA s) := by
  unfold impl_ParseNumber.f numA
  by_cases h : ∃ v : Int, v.natAbs < 10 ^ 6 ∧ itoaB v = s
  · obtain ⟨v, hv, rfl⟩ := h
    rw [readS_of (by omega) (by omega) hv]
    simp only [if_true]
    by_cases g : v < 0
    · rw [if_pos g, whole_not hs fun u h0 h1 g0 g1 e => by
        have := itoaB_inj ⟨h0, h1⟩ ⟨by omega, by omega⟩ e
        omega]
      rfl
    · rw [if_neg g, whole_of (by omega) (by omega) (by omega) (by omega) hs]
      rfl
  · rw [whole_not hs fun v _ _ h1 h2 e => h ⟨v, by omega, e⟩, readS_not fun v hv e => h ⟨v, hv, e⟩]
    rfl
end Go.Proofs.YthhgcdfdjlijjaaDoor.M
namespace Go.Proofs.YthhgcdfdjlijjaaDoor.M
open Go.RowKit Go.Proofs.YthhgcdfdjlijjaaDoorW.PrintWords
section
variable {σ τ ρ α β : Type}
def Goes (z : Except ρ σ) (K : σ → Nat → Option ρ) (g : Nat → Option ρ) : Prop :=
  match z with
  | .error v => Ev g v
  | .ok s => ∀ r, Ev (K s) r → Ev g r
variable {z : Except ρ σ} {K : σ → Nat → Option ρ}
theorem Goes.ok (s : σ) : Goes (.ok s) K (K s) := fun _ h => h
theorem Goes.error {g : Nat → Option ρ} {v : ρ} (h : Ev g v) : Goes (.error v) K g := h
theorem Goes.map {g g' : Nat → Option ρ} (hg : ∀ r, Ev g' r → Ev g r) (h : Goes z K g') : Goes z K g := by
  cases z with
  | error v => exact hg _ h
  | ok s => exact fun r hr => hg _ (h r hr)
theorem Goes.step {g : Nat → Option ρ} (h : Goes z K (fun k => g (k + 1))) : Goes z K g := Goes.map (fun _ => ev_step) h
theorem Goes.pos {c : Prop} [Decidable c] {a b : Nat → Option ρ} (hc : c) (h : Goes z K a) : Goes z K (fun k => if c then a k else b k) := Goes.map (fun _ => ev_pos hc) h
theorem Goes.neg {c : Prop} [Decidable c] {a b : Nat → Option ρ} (hc : ¬ c) (h : Goes z K b) : Goes z K (fun k => if c then a k else b k) := Goes.map (fun _ => ev_neg hc) h
theorem Goes.ev {x : Nat → Option α} {a : α} {f : Nat → α → Option ρ} (hx : Ev x a) (h : Goes z K (fun k => f k a)) : Goes z K (fun k => (x k).bind (f k)) := Goes.map (fun _ => Ev.bind hx) h
theorem Goes.bind {y : Except ρ τ} {f : τ → Except ρ σ} {K' : τ → Nat → Option ρ} {g : Nat → Option ρ} (h : Goes y K' g) (h' : ∀ s, Goes (f s) K (K' s)) : Goes (y >>= f) K g := by
  cases y with
  | error v => exact h
  | ok s => exact Goes.map (h ·) (h' s)
theorem Goes.out {g : Nat → Option ρ} {r : ρ} (h : Goes z K g) (he : ∀ v, z = .error v → v = r) (ho : ∀ s, z = .ok s → Ev (K s) r) : Ev g r := by
  cases z with
  | error v => exact he v rfl ▸ h
  | ok s => exact h r (ho s rfl)
theorem loop_up' {lo n : Nat} {L : Int → σ → Nat → Option ρ} (I : Nat → σ → Prop) (dec : σ → Nat → Except ρ σ) (hf : ∀ s, I n s → Goes (.ok s) K (L (n : Int) s))
    (hb : ∀ i, lo ≤ i → i < n → ∀ s, I i s → Goes (dec s i) (fun s => L ((i + 1 : Nat) : Int) s) (L (i : Int) s)) (hi : ∀ i, lo ≤ i → i < n → ∀ s, I i s → ∀ s', dec s i = .ok s' → I (i + 1) s') (hlo : lo ≤ n) (s : σ) (hs : I lo s) :
    Goes ((List.range' lo (n - lo)).foldlM dec s) K (L (lo : Int) s) := by
  have key : ∀ d i, lo ≤ i → i + d = n → ∀ s, I i s → Goes ((List.range' i d).foldlM dec s) K (L (i : Int) s) := by
    intro d
    induction d with
    | zero =>
      intro i _ hid s hs
      obtain rfl : i = n := by omega
      exact hf s hs
    | succ d ih =>
      intro i hl hid s hs
      rw [List.range'_succ, List.foldlM_cons]
      have h := hb i hl (by omega) s hs
      have h' := hi i hl (by omega) s hs
      cases hd : dec s i with
      | error v => rw [hd] at h; exact h
      | ok s' =>
        rw [hd] at h
        exact Goes.map (h ·) (ih (i + 1) (by omega) (by omega) s' (h' s' hd))
  exact key (n - lo) lo (Nat.le_refl _) (by omega) s hs
theorem foldlM_ok (g : σ → α → σ) (l : List α) : ∀ s, (l.foldlM (fun s a => (.ok (g s a) : Except ρ σ)) s) = .ok (l.foldl g s) := by
  induction l with
  | nil => intro s; rfl
  | cons x l ih => intro s; exact ih (g s x)
end
section
variable {σ ρ : Type} {n : Nat} {K : σ → Nat → Option ρ}
end
end Go.Proofs.YthhgcdfdjlijjaaDoor.M
namespace Go.Proofs.YthhgcdfdjlijjaaDoor.M
open Go.RowKit Go.Proofs.YthhgcdfdjlijjaaDoorW.PrintWords Go.Proofs.YthhgcdfdjlijjaaDoor.PX
def splitG (t : ByteArray) (by_ : Int) (s : List ByteArray × Nat) (i : Nat) : List ByteArray × Nat := if i = t.size ∨ bt t (i : Int) = by_ then (s.1 ++ [t.extract s.2 i], i + 1) else s
def splitP (t : ByteArray) (by_ : Int) : List ByteArray := ((List.range' 0 (t.size + 1)).foldl (splitG t by_) ([], 0)).1
theorem splitG_ok {t : ByteArray} {by_ : Int} {s : List ByteArray × Nat} {i : Nat} (h : s.1.length ≤ i ∧ s.2 ≤ i) : (splitG t by_ s i).1.length ≤ i + 1 ∧ (splitG t by_ s i).2 ≤ i + 1 := by
  unfold splitG
  split
  · simp only [List.length_append, List.length_singleton]; omega
  · omega
theorem impl_splitB (t : ByteArray) (by_ : Int) (ht : t.size ≤ 1048576) : Ev (fun k => impl_SplitByte.f k t by_) (splitP t by_) := by
  unfold impl_SplitByte.f
  have key := loop_up' (σ := List ByteArray × Nat) (ρ := List ByteArray) (lo := 0) (n := t.size + 1) (K := fun s _ => some s.1) (L := fun x s k => impl_SplitByte.l0 k t by_ s.1 (s.2 : Int) x) (fun x s => s.1.length ≤ x ∧ s.2 ≤ x)
    (fun s x => .ok (splitG t by_ s x)) (fun s _ => ?_) (fun x _ hx s hs => ?_) (fun x _ hx s hs s' e => ?_) (by omega) ([], 0) ⟨Nat.le_refl _, Nat.le_refl _⟩
  · rw [foldlM_ok, Nat.sub_zero] at key
    exact key _ (Ev.now _)
  · refine Goes.step ?_
    simp only [impl_SplitByte.l0]
    exact Goes.neg (by omega) (Goes.ok (K := fun s _ => some s.1) s)
  · have cut : Goes (.ok (s.1 ++ [t.extract s.2 x], x + 1)) (fun (s : List ByteArray × Nat) k => impl_SplitByte.l0 k t by_ s.1 (s.2 : Int) ((x + 1 : Nat) : Int))
        (fun k => if 0 ≤ (s.2 : Int) then (if (s.2 : Int) ≤ (x : Int) then (if s.1.length < 8796093022208 then (impl_SplitByte.l0 k t by_ (s.1 ++ [t.extract (s.2 : Int).toNat (x : Int).toNat]) (wrap64 ((x : Int) + 1)) (wrap64 ((x : Int) + 1))) else none) else none) else none) := by
      rw [wrap_id (x := (x : Int) + 1) (by omega) (by omega), Int.toNat_natCast, Int.toNat_natCast]
      exact Goes.pos (by omega) (Goes.pos (by omega) (Goes.pos (by omega) (Goes.ok (K := fun (s : List ByteArray × Nat) k => impl_SplitByte.l0 k t by_ s.1 (s.2 : Int) ((x + 1 : Nat) : Int)) (s.1 ++ [t.extract s.2 x], x + 1))))
    refine Goes.step ?_
    simp only [impl_SplitByte.l0]
    refine Goes.pos (by omega) ?_
    unfold splitG
    by_cases e1 : x = t.size
    · rw [if_pos (.inl e1)]
      exact Goes.pos (by omega) cut
    · refine Goes.neg (by omega) (Goes.pos (by omega) (Goes.pos (by omega) ?_))
      by_cases e2 : bt t (x : Int) = by_
      · rw [if_pos (.inr e2)]
        exact Goes.pos e2 cut
      · rw [if_neg (fun h => h.elim e1 e2)]
        rw [wrap_id (x := (x : Int) + 1) (by omega) (by omega)]
        exact Goes.neg e2 (Goes.ok (K := fun (s : List ByteArray × Nat) k => impl_SplitByte.l0 k t by_ s.1 (s.2 : Int) ((x + 1 : Nat) : Int)) s)
  · cases e
    exact splitG_ok hs
theorem spec_splitB (t : ByteArray) (by_ : Int) (ht : t.size ≤ 1048576) : Ev (fun k => spec_SplitByte.f k t by_) (splitP t by_) := by
  unfold spec_SplitByte.f
  have key := loop_up' (σ := List ByteArray × Nat) (ρ := List ByteArray) (lo := 0) (n := t.size + 1) (K := fun s _ => some s.1) (L := fun x s k => spec_SplitByte.l0 k t by_ s.1 (s.2 : Int) x) (fun x s => s.1.length ≤ x ∧ s.2 ≤ x)
    (fun s x => .ok (splitG t by_ s x)) (fun s _ => ?_) (fun x _ hx s hs => ?_) (fun x _ hx s hs s' e => ?_) (by omega) ([], 0) ⟨Nat.le_refl _, Nat.le_refl _⟩
  · rw [foldlM_ok, Nat.sub_zero] at key
    exact key _ (Ev.now _)
  · refine Goes.step ?_
    simp only [spec_SplitByte.l0]
    exact Goes.neg (by omega) (Goes.ok (K := fun s _ => some s.1) s)
  · have cut : Goes (.ok (s.1 ++ [t.extract s.2 x], x + 1)) (fun (s : List ByteArray × Nat) k => spec_SplitByte.l0 k t by_ s.1 (s.2 : Int) ((x + 1 : Nat) : Int))
        (fun k => if 0 ≤ (s.2 : Int) then (if (s.2 : Int) ≤ (x : Int) then (if s.1.length < 8796093022208 then (spec_SplitByte.l0 k t by_ (s.1 ++ [t.extract (s.2 : Int).toNat (x : Int).toNat]) (wrap64 ((x : Int) + 1)) (wrap64 ((x : Int) + 1))) else none) else none) else none) := by
      rw [wrap_id (x := (x : Int) + 1) (by omega) (by omega), Int.toNat_natCast, Int.toNat_natCast]
      exact Goes.pos (by omega) (Goes.pos (by omega) (Goes.pos (by omega) (Goes.ok (K := fun (s : List ByteArray × Nat) k => spec_SplitByte.l0 k t by_ s.1 (s.2 : Int) ((x + 1 : Nat) : Int)) (s.1 ++ [t.extract s.2 x], x + 1))))
    refine Goes.step ?_
    simp only [spec_SplitByte.l0]
    refine Goes.pos (by omega) ?_
    unfold splitG
    by_cases e1 : x = t.size
    · rw [if_pos (.inl e1)]
      exact Goes.pos (by omega) cut
    · refine Goes.neg (by omega) (Goes.pos (by omega) (Goes.pos (by omega) ?_))
      by_cases e2 : bt t (x : Int) = by_
      · rw [if_pos (.inr e2)]
        exact Goes.pos e2 cut
      · rw [if_neg (fun h => h.elim e1 e2)]
        rw [wrap_id (x := (x : Int) + 1) (by omega) (by omega)]
        exact Goes.neg e2 (Goes.ok (K := fun (s : List ByteArray × Nat) k => spec_SplitByte.l0 k t by_ s.1 (s.2 : Int) ((x + 1 : Nat) : Int)) s)
  · cases e
    exact splitG_ok hs
end Go.Proofs.YthhgcdfdjlijjaaDoor.M
namespace Go.Proofs.YthhgcdfdjlijjaaDoor.PX
open Go.RowKit Go.Proofs.YthhgcdfdjlijjaaDoor.G Go.Proofs.YthhgcdfdjlijjaaDoorW.PrintWords Go.Proofs.YthhgcdfdjlijjaaDoorW.PrintLast Go.Proofs.YthhgcdfdjlijjaaDoorW.PrintMore
attribute [local go_sem] max2_int min2_int max_two min_two max_three min_three max_four min_four   -- for this text's walks alone
set_option linter.unusedVariables false
set_option linter.unusedSimpArgs false
/-! ### spec_SignsText: function 14 -/
def spec_SignsText.f (k : Nat) (a0_0 : Int) (a0_1 : ByteArray) : Option (ByteArray) := (spec_AreSigns.f k a0_0 a0_1).bind fun t132 => (if t132 = true then ((spec_FormatInt.f k a0_0).bind fun t133 => (if t133.size + 1 ≤ 9223372036854775807 then (if t133.size + 1 + a0_1.size ≤ 9223372036854775807 then (some ((t133 ++ (⟨#[58]⟩ : ByteArray)) ++ a0_1)) else (none)) else (none))) else (some (⟨#[]⟩ : ByteArray)))
def spec_SignsText.T3 : Bool × List (List Nat × List Nat) := (true, [([], []), ([0], [0]), ([1], [1]), ([2], [2]), ([], []), ([4], [4]), ([3, 5], [3, 5]), ([6, 2, 0, 1, 2, 3, 4, 5, 6], [6])])
def spec_SignsText.B3 : List Nat := [0, 1, 3, 7, 0, 16, 63, 127]
theorem spec_SignsText.tab3 : rtab .any (opsOf Tryd.f14 3) = spec_SignsText.T3 := by kernel_rfl
theorem spec_SignsText.bits3 : waitsOk spec_SignsText.T3.2 spec_SignsText.B3 = true := by kernel_rfl
set_option maxHeartbeats 8000000 in
set_option maxRecDepth 100000 in
theorem spec_SignsText.calls (k : Nat) (a0_0 : Int) (a0_1 : ByteArray) (r : ByteArray) (w : World) (h : spec_SignsText.f k a0_0 a0_1 = some r) :
  Calls Tryd.prog 14 #[.agg #[.int .i64 a0_0, .string a0_1]] w fun e w' => e = .returned (.string r) ∧ Below w.heap.size w w' := by
 have hu28 := Tryd.underlying28
 have HB := Aside0.mk (Below.refl w.heap.size w)
 have H : ((spec_AreSigns.f k a0_0 a0_1).bind fun t132 => (if t132 = true then ((spec_FormatInt.f k a0_0).bind fun t133 => (if t133.size + 1 ≤ 9223372036854775807 then (if t133.size + 1 + a0_1.size ≤ 9223372036854775807 then (some ((t133 ++ (⟨#[58]⟩ : ByteArray)) ++ a0_1)) else (none)) else (none))) else (some (⟨#[]⟩ : ByteArray)))) = some r := h
 clear h
 obtain ⟨t132, A2, H⟩ := zO H
 by_cases c3 : t132 = true
 ·subst c3
  replace H := (if_pos rfl).symm.trans H
  obtain ⟨t133, A4, H⟩ := zO H
  by_cases c5 : t133.size + 1 ≤ 9223372036854775807
  ·rw [if_pos c5] at H
   have c5b0 := eq_true c5
   have c5b1 : decide (t133.size + 1 ≤ 9223372036854775807) = true := decide_eq_true c5
   try have c5b2 : (9223372036854775807 < t133.size + 1) = False := eq_false (Nat.not_lt.2 c5)
   by_cases c6 : t133.size + 1 + a0_1.size ≤ 9223372036854775807
   ·rw [if_pos c6] at H
    have c6b0 := eq_true c6
    have c6b1 : decide (t133.size + 1 + a0_1.size ≤ 9223372036854775807) = true := decide_eq_true c6
    try have c6b2 : (9223372036854775807 < t133.size + 1 + a0_1.size) = False := eq_false (Nat.not_lt.2 c6)
    obtain rfl := Option.some.inj H
    go_enter Tryd.func14, Tryd.ntmps14
    try go_wp2_with (first | ((with_reducible refine gate_dst (N := 1) rfl ?_); refine zBx (N := 1) #[.int .i64 a0_0, .string a0_1] 28 ?_; intro gb131 hg w7 hbox hb; have BK131 := Aside0.mk (hbox); have GW131 := zS hg; have GE131 := zS hg; replace HB := zX hb; clear hb hbox hg; obtain ⟨hcz8_0, hcz8_1, hfz8_0, hfz8_1⟩ := zq2 BK131.out) | ((with_reducible refine gate_callee (f := 37) rfl ?_); refine zD (some 4) Tryd.func37 #[.agg #[.int .i64 a0_0, .string a0_1]] ?_; (with_reducible refine (spec_AreSigns.calls k a0_0 a0_1 true _ A2.out).mono ?_); rintro e w9 ⟨rfl, hb⟩; refine ⟨_, rfl, ?_⟩; replace BK131 := zV BK131.out hb; replace HB := zX1 GE131.out hb; (try clear hb)))
    replace BK131 := Aside0.mk (blk_drew BK131.out)
    replace HB := Aside0.mk (below_drew1 HB.out)
    refine start_ (n := 8) (S := fun w' => w'.cell? ⟨gb131, 0, none⟩ = some (.int .i64 a0_0) ∧ w'.cell? ⟨gb131, 1, none⟩ = some (.string a0_1)) (ds := []) #[false, false, false, false, false, false, false, false] (by kernel_rfl) rfl rfl ⟨(blk_cell BK131.out 0).trans rfl, (blk_cell BK131.out 1).trans rfl⟩ (fun hHeld => ?_); refine with_tabW spec_SignsText.tab3 spec_SignsText.bits3 (fun HT_ HW_ => ?_)
    generalize w9.drew = w10 at BK131 HB hHeld ⊢
    refine zP 0 (some 6) rfl rfl ?_
    refine zP 4 (some 10) rfl rfl ?_
    refine zY2 1 (some 7) rfl rfl hHeld ?_
    refine zY2 5 (some 11) rfl rfl hHeld ?_
    refine zU 2 (some 8) rfl rfl (fun K hK => ?_)
    refine goes_ Tryd.func11 (by kernel_rfl) rfl #[.int .i64 a0_0] (by rfl) rfl rfl zM ?_
    with_reducible refine (spec_FormatInt.calls k a0_0 t133 _ A4.out).mono ?_
    rintro e w11 ⟨rfl, hb⟩
    refine ⟨_, rfl, ?_⟩
    replace BK131 := zV BK131.out hb
    replace HB := zX1 GE131.out hb
    (try clear hb)
    refine hK.out _ _ (zh2 BK131.out) (fun hHeld => ?_)
    clear hK K
    refine zN ?_
    refine zP 3 (some 9) rfl rfl ?_
    refine zP 6 (some 12) rfl rfl ?_
    refine zP 7 (some 2) rfl rfl ?_
    refine done_ (done_of HT_.out (by kernel_rfl)) ?_
    try go_wp2
    go_ret
    exact ⟨zE, zG GE131.out⟩
   rw [if_neg c6] at H
   exact absurd H (by simp)
  rw [if_neg c5] at H
  exact absurd H (by simp)
 replace c3 := Bool.eq_false_iff.mpr c3
 subst c3
 replace H := (if_neg zFf).symm.trans H
 obtain rfl := Option.some.inj H
 go_enter Tryd.func14, Tryd.ntmps14
 go_wp2_with (first | ((with_reducible refine gate_dst (N := 1) rfl ?_); refine zBx (N := 1) #[.int .i64 a0_0, .string a0_1] 28 ?_; intro gb131 hg w12 hbox hb; have BK131 := Aside0.mk (hbox); have GW131 := zS hg; have GE131 := zS hg; replace HB := zX hb; clear hb hbox hg; obtain ⟨hcz13_0, hcz13_1, hfz13_0, hfz13_1⟩ := zq2 BK131.out) | ((with_reducible refine gate_callee (f := 37) rfl ?_); refine zD (some 4) Tryd.func37 #[.agg #[.int .i64 a0_0, .string a0_1]] ?_; (with_reducible refine (spec_AreSigns.calls k a0_0 a0_1 false _ A2.out).mono ?_); rintro e w14 ⟨rfl, hb⟩; refine ⟨_, rfl, ?_⟩; replace BK131 := zV BK131.out hb; replace HB := zX1 GE131.out hb; (try clear hb)))
 go_ret
 exact ⟨zE, zG GE131.out⟩
/-! ### impl_SignsText: function 16 -/
def impl_SignsText.f (k : Nat) (a0_0 : Int) (a0_1 : ByteArray) : Option (ByteArray) := (impl_AreSigns.f k a0_0 a0_1).bind fun t139 => (if t139 = true then ((impl_FormatInt.f a0_0).bind fun t140 => (if t140.size + 1 ≤ 9223372036854775807 then (if t140.size + 1 + a0_1.size ≤ 9223372036854775807 then (some ((t140 ++ (⟨#[58]⟩ : ByteArray)) ++ a0_1)) else (none)) else (none))) else (some (⟨#[]⟩ : ByteArray)))
def impl_SignsText.T3 : Bool × List (List Nat × List Nat) := (true, [([], []), ([0], [0]), ([1], [1]), ([2], [2]), ([], []), ([4], [4]), ([3, 5], [3, 5]), ([6, 2, 0, 1, 2, 3, 4, 5, 6], [6])])
def impl_SignsText.B3 : List Nat := [0, 1, 3, 7, 0, 16, 63, 127]
theorem impl_SignsText.tab3 : rtab .any (opsOf Tryd.f16 3) = impl_SignsText.T3 := by kernel_rfl
theorem impl_SignsText.bits3 : waitsOk impl_SignsText.T3.2 impl_SignsText.B3 = true := by kernel_rfl
theorem zl23_0 {p q p0 : Prop} (g : p) (g0 : p0) (h : p → p0 → q := by intro zg_ z0_; repeat (first | (with_reducible first | exact zg_ | apply below_alloc | apply pw_below_drewN | apply below_drew1 | refine below_set ?_ z0_) | exact zg_)) : q := h g g0
set_option maxHeartbeats 8000000 in
set_option maxRecDepth 100000 in
theorem impl_SignsText.calls (k : Nat) (a0_0 : Int) (a0_1 : ByteArray) (r : ByteArray) (w : World) (h : impl_SignsText.f k a0_0 a0_1 = some r) (hT : T1 w) :
  Calls Tryd.prog 16 #[.agg #[.int .i64 a0_0, .string a0_1]] w fun e w' => e = .returned (.string r) ∧ Below w.heap.size w w' := by
 have HT := Aside0.mk hT
 clear hT
 have hu28 := Tryd.underlying28
 have HB := Aside0.mk (Below.refl w.heap.size w)
 have H : ((impl_AreSigns.f k a0_0 a0_1).bind fun t139 => (if t139 = true then ((impl_FormatInt.f a0_0).bind fun t140 => (if t140.size + 1 ≤ 9223372036854775807 then (if t140.size + 1 + a0_1.size ≤ 9223372036854775807 then (some ((t140 ++ (⟨#[58]⟩ : ByteArray)) ++ a0_1)) else (none)) else (none))) else (some (⟨#[]⟩ : ByteArray)))) = some r := h
 clear h
 obtain ⟨t139, A2, H⟩ := zO H
 by_cases c3 : t139 = true
 ·subst c3
  replace H := (if_pos rfl).symm.trans H
  obtain ⟨t140, A4, H⟩ := zO H
  by_cases c5 : t140.size + 1 ≤ 9223372036854775807
  ·rw [if_pos c5] at H
   have c5b0 := eq_true c5
   have c5b1 : decide (t140.size + 1 ≤ 9223372036854775807) = true := decide_eq_true c5
   try have c5b2 : (9223372036854775807 < t140.size + 1) = False := eq_false (Nat.not_lt.2 c5)
   by_cases c6 : t140.size + 1 + a0_1.size ≤ 9223372036854775807
   ·rw [if_pos c6] at H
    have c6b0 := eq_true c6
    have c6b1 : decide (t140.size + 1 + a0_1.size ≤ 9223372036854775807) = true := decide_eq_true c6
    try have c6b2 : (9223372036854775807 < t140.size + 1 + a0_1.size) = False := eq_false (Nat.not_lt.2 c6)
    obtain rfl := Option.some.inj H
    go_enter Tryd.func16, Tryd.ntmps16
    try go_wp2_with (first | ((with_reducible refine gate_dst (N := 1) rfl ?_); refine zBx (N := 1) #[.int .i64 a0_0, .string a0_1] 28 ?_; intro gb138 hg w7 hbox hb; have BK138 := Aside0.mk (hbox); have GW138 := zS hg; have GE138 := zS hg; replace HB := zX hb; clear hb hbox hg; obtain ⟨hcz8_0, hcz8_1, hfz8_0, hfz8_1⟩ := zq2 BK138.out) | ((with_reducible refine gate_callee (f := 38) rfl ?_); refine zD (some 4) Tryd.func38 #[.agg #[.int .i64 a0_0, .string a0_1]] ?_; (with_reducible refine (impl_AreSigns.calls k a0_0 a0_1 true _ A2.out).mono ?_); rintro e w9 ⟨rfl, hb⟩; refine ⟨_, rfl, ?_⟩; replace BK138 := zV BK138.out hb; replace HB := zX1 GE138.out hb; (try clear hb)))
    replace BK138 := Aside0.mk (blk_drew BK138.out)
    replace HB := Aside0.mk (below_drew1 HB.out)
    refine start_ (n := 8) (S := fun w' => w'.cell? ⟨gb138, 0, none⟩ = some (.int .i64 a0_0) ∧ w'.cell? ⟨gb138, 1, none⟩ = some (.string a0_1)) (ds := []) #[false, false, false, false, false, false, false, false] (by kernel_rfl) rfl rfl ⟨(blk_cell BK138.out 0).trans rfl, (blk_cell BK138.out 1).trans rfl⟩ (fun hHeld => ?_); refine with_tabW impl_SignsText.tab3 impl_SignsText.bits3 (fun HT_ HW_ => ?_)
    generalize w9.drew = w10 at BK138 HB hHeld ⊢
    refine zP 0 (some 6) rfl rfl ?_
    refine zP 4 (some 10) rfl rfl ?_
    refine zY2 1 (some 7) rfl rfl hHeld ?_
    refine zY2 5 (some 11) rfl rfl hHeld ?_
    refine zU 2 (some 8) rfl rfl (fun K hK => ?_)
    refine goes_ Tryd.func12 (by kernel_rfl) rfl #[.int .i64 a0_0] (by rfl) rfl rfl zM ?_
    with_reducible refine (impl_FormatInt.calls a0_0 t140 _ A4.out (HT.out.below ?sideT)).mono ?_
    case sideT => exact (zl23_0 HB.out GE138.out)
    rintro e w11 ⟨rfl, hb⟩
    refine ⟨_, rfl, ?_⟩
    replace BK138 := zV BK138.out hb
    replace HB := zX1 GE138.out hb
    (try clear hb)
    refine hK.out _ _ (zh2 BK138.out) (fun hHeld => ?_)
    clear hK K
    refine zN ?_
    refine zP 3 (some 9) rfl rfl ?_
    refine zP 6 (some 12) rfl rfl ?_
    refine zP 7 (some 2) rfl rfl ?_
    refine done_ (done_of HT_.out (by kernel_rfl)) ?_
    try go_wp2
    go_ret
    exact ⟨zE, zG GE138.out⟩
   rw [if_neg c6] at H
   exact absurd H (by simp)
  rw [if_neg c5] at H
  exact absurd H (by simp)
 replace c3 := Bool.eq_false_iff.mpr c3
 subst c3
 replace H := (if_neg zFf).symm.trans H
 obtain rfl := Option.some.inj H
 go_enter Tryd.func16, Tryd.ntmps16
 go_wp2_with (first | ((with_reducible refine gate_dst (N := 1) rfl ?_); refine zBx (N := 1) #[.int .i64 a0_0, .string a0_1] 28 ?_; intro gb138 hg w12 hbox hb; have BK138 := Aside0.mk (hbox); have GW138 := zS hg; have GE138 := zS hg; replace HB := zX hb; clear hb hbox hg; obtain ⟨hcz13_0, hcz13_1, hfz13_0, hfz13_1⟩ := zq2 BK138.out) | ((with_reducible refine gate_callee (f := 38) rfl ?_); refine zD (some 4) Tryd.func38 #[.agg #[.int .i64 a0_0, .string a0_1]] ?_; (with_reducible refine (impl_AreSigns.calls k a0_0 a0_1 false _ A2.out).mono ?_); rintro e w14 ⟨rfl, hb⟩; refine ⟨_, rfl, ?_⟩; replace BK138 := zV BK138.out hb; replace HB := zX1 GE138.out hb; (try clear hb)))
 go_ret
 exact ⟨zE, zG GE138.out⟩
end Go.Proofs.YthhgcdfdjlijjaaDoor.PX
namespace Go.Proofs.YthhgcdfdjlijjaaDoor.M
open Go.RowKit Go.Proofs.YthhgcdfdjlijjaaDoorW.PrintWords Go.Proofs.YthhgcdfdjlijjaaDoor.PX Go.Proofs.YthhgcdfdjlijjaaDoor.G Go.Proofs.YthhgcdfdjlijjaaDoorW.PrintMore
open Go.Lib (decDigits itoa)
def sgT (n : Int) (t : ByteArray) : ByteArray := if areOk n t = true then (itoaB n ++ (⟨#[58]⟩ : ByteArray)) ++ t else ⟨#[]⟩
theorem itoa_small {n : Int} (h0 : 0 ≤ n) (h1 : n < 10) : (itoaB n).size = 1 := by
  rw [size_list, itoaB_data]
  unfold itoa
  rw [if_neg (by omega), dec_one (by omega)]
  rfl
theorem impl_sgT (n : Int) (t : ByteArray) (hs : t.size ≤ 9223372036854775807) : Ev (fun k => impl_SignsText.f k n t) (sgT n t) := by
  unfold impl_SignsText.f sgT
  refine Ev.bind (impl_are n t hs) ?_
  by_cases h : areOk n t = true
  · obtain ⟨⟨h0, h1⟩, _, _⟩ := (areOk_iff _ _).1 h
    have z := areOk_size h
    have zi := itoa_small (n := n) (by omega) (by omega)
    exact ev_cast (ev_pos h (ev_call (impl_fmt (by omega) (by omega)) (ev_pos (by omega) (ev_pos (by omega) (Ev.now _))))) (if_pos h).symm
  · exact ev_cast (ev_neg h (Ev.now _)) (if_neg h).symm
theorem spec_sgT (n : Int) (t : ByteArray) (hs : t.size ≤ 9223372036854775807) : Ev (fun k => spec_SignsText.f k n t) (sgT n t) := by
  unfold spec_SignsText.f sgT
  refine Ev.bind (spec_are n t hs) ?_
  by_cases h : areOk n t = true
  · obtain ⟨⟨h0, h1⟩, _, _⟩ := (areOk_iff _ _).1 h
    have z := areOk_size h
    have zi := itoa_small (n := n) (by omega) (by omega)
    exact ev_cast (ev_pos h (Ev.bind (spec_fmt (by omega) (by omega)) (ev_pos (by omega) (ev_pos (by omega) (Ev.now _))))) (if_pos h).symm
  · exact ev_cast (ev_neg h (Ev.now _)) (if_neg h).symm
theorem readS_inv {s : ByteArray} {m : Nat} (hm1 : 1 ≤ m) (hm : m ≤ 12) (h : (readS s m).2 = true) : ∃ v : Int, v.natAbs < 10 ^ m ∧ itoaB v = s ∧ readS s m = (v, true) := by
  by_cases g : ∃ v : Int, v.natAbs < 10 ^ m ∧ itoaB v = s
  · obtain ⟨v, hv, rfl⟩ := g
    exact ⟨v, hv, rfl, readS_of hm1 hm hv⟩
  · rw [readS_not fun v hv e => g ⟨v, hv, e⟩] at h
    cases h
theorem splitP_pos (t : ByteArray) (by_ : Int) : 1 ≤ (splitP t by_).length := by
  unfold splitP
  rw [List.range'_concat, List.foldl_append]
  simp only [List.foldl_cons, List.foldl_nil, Nat.mul_one, Nat.one_mul]
  unfold splitG
  rw [if_pos (Or.inl (by omega)), List.length_append, List.length_singleton]
  omega
theorem splitG_le {t : ByteArray} {by_ : Int} {s : List ByteArray × Nat} {i : Nat} (h : ∀ x ∈ s.1, x.size ≤ t.size) : ∀ x ∈ (splitG t by_ s i).1, x.size ≤ t.size := by
  intro x hx
  unfold splitG at hx
  split at hx
  · rw [List.mem_append, List.mem_singleton] at hx
    rcases hx with hx | rfl
    · exact h x hx
    · rw [ByteArray.size_extract]; omega
  · exact h x hx
theorem splitP_le (t : ByteArray) (by_ : Int) : ∀ x ∈ splitP t by_, x.size ≤ t.size := by
  have key : ∀ (l : List Nat) (s : List ByteArray × Nat), (∀ x ∈ s.1, x.size ≤ t.size) → ∀ x ∈ (l.foldl (splitG t by_) s).1, x.size ≤ t.size := by
    intro l
    induction l with
    | nil => intro s h; exact h
    | cons i l ih => intro s h; rw [List.foldl_cons]; exact ih _ (splitG_le h)
  exact key _ ([], 0) (fun x hx => by cases hx)
theorem rdB_get {l : List ByteArray} {i : Nat} (h : i < l.length) : rdOf ByteArray.empty l (i : Int) = l[i] := by
  unfold rdOf
  rw [Int.toNat_natCast, List.getD_eq_getElem?_getD, List.getElem?_eq_getElem h]
  rfl
theorem rdB_le {t : ByteArray} {by_ : Int} {i : Nat} (h : i < (splitP t by_).length) : (rdOf ByteArray.empty (splitP t by_) (i : Int)).size ≤ t.size := by
  rw [rdB_get h]
  exact splitP_le t by_ _ (List.getElem_mem _)
noncomputable def sigP (l : List ByteArray) : Int × ByteArray × Bool :=
  if l.length = 2 ∧ (intA (rdOf ByteArray.empty l 0)).2 = true ∧ areOk (intA (rdOf ByteArray.empty l 0)).1 (rdOf ByteArray.empty l 1) = true then ((intA (rdOf ByteArray.empty l 0)).1, rdOf ByteArray.empty l 1, true) else (0, ⟨#[]⟩, false)
noncomputable def sigA (t : ByteArray) : Int × ByteArray × Bool := sigP (splitP t 58)
theorem spec_sig (t : ByteArray) (ht : t.size ≤ 1048576) : Ev (fun k => spec_ParseSigns.f k t) (sigA t) := by
  unfold spec_ParseSigns.f sigA
  have hp := splitP_pos t 58
  have h0 := rdB_le (t := t) (by_ := 58) (i := 0) hp
  refine Ev.bind (spec_splitB t 58 ht) (ev_pos (by omega) (Ev.bind (spec_int _ (Nat.le_trans h0 ht)) ?_))
  have no : ∀ (l : List ByteArray) (v : Int), Ev (fun k => spec_ParseSigns.j0 k l v true) (0, ⟨#[]⟩, false) := by
    intro l v
    refine ev_step ?_
    simp only [spec_ParseSigns.j0]
    exact ev_pos (by first | rfl | trivial) (Ev.now _)
  by_cases g : (splitP t 58).length = 2
  · have h1 := rdB_le (t := t) (by_ := 58) (i := 1) (by omega)
    refine ev_pos (by omega) ?_
    unfold sigP
    by_cases c : (intA (rdOf ByteArray.empty (splitP t 58) 0)).2 = true
    · rw [show (!(intA (rdOf ByteArray.empty (splitP t 58) 0)).2) = false by rw [c]; rfl]
      refine ev_step ?_
      simp only [spec_ParseSigns.j0]
      refine ev_neg (by simp) (ev_pos (by omega) (Ev.bind (spec_are _ _ (Nat.le_trans h1 (by omega))) ?_))
      by_cases o : areOk (intA (rdOf ByteArray.empty (splitP t 58) 0)).1 (rdOf ByteArray.empty (splitP t 58) 1) = true
      · exact ev_cast (ev_pos o (Ev.now _)) (if_pos ⟨g, c, o⟩).symm
      · exact ev_cast (ev_neg o (Ev.now _)) (if_neg fun e => o e.2.2).symm
    · rw [show (!(intA (rdOf ByteArray.empty (splitP t 58) 0)).2) = true by simpa using c, if_neg fun e => c e.2.1]
      exact no _ _
  · unfold sigP
    rw [if_neg fun e => g e.1]
    exact ev_neg (by omega) (no _ _)
theorem impl_sig (t : ByteArray) (ht : t.size ≤ 1048576) : Ev (fun k => impl_ParseSigns.f k t) (sigA t) := by
  unfold impl_ParseSigns.f sigA
  have hp := splitP_pos t 58
  have h0 := rdB_le (t := t) (by_ := 58) (i := 0) hp
  refine Ev.bind (impl_splitB t 58 ht) (ev_pos (by omega) (ev_call (impl_num _ (Nat.le_trans h0 ht)) ?_))
  have no : ∀ (l : List ByteArray) (v : Int), Ev (fun k => impl_ParseSigns.j0 k l v true) (0, ⟨#[]⟩, false) := by
    intro l v
    refine ev_step ?_
    simp only [impl_ParseSigns.j0]
    exact ev_pos (by first | rfl | trivial) (Ev.now _)
  -- what the two readings have to do with each other
  have rel : ∀ s x : ByteArray, (numA s).2 = true → areOk (numA s).1 x = true → intA s = ((numA s).1, true) := by
    intro s x h1 h2
    unfold numA at h1 h2 ⊢
    by_cases c : (readS s 6).2 = true
    · obtain ⟨v, hv, rfl, e⟩ := readS_inv (by omega) (by omega) c
      have hv' : v.natAbs < 10 ^ 12 := by omega
      unfold intA
      rw [readS_of (by omega) (by omega) hv', e]
      simp only [if_true]
      by_cases g : v < 0
      · rw [e] at h1; simp [g] at h1
      · rw [if_neg g]
    · rw [if_neg c] at h1; cases h1
  have rel2 : ∀ s x : ByteArray, (intA s).2 = true → areOk (intA s).1 x = true → numA s = ((intA s).1, true) := by
    intro s x h1 h2
    obtain ⟨v, hv, rfl, e⟩ := readS_inv (m := 12) (by omega) (by omega) h1
    unfold intA at h2 ⊢
    rw [e] at h2 ⊢
    obtain ⟨⟨g0, g1⟩, _, _⟩ := (areOk_iff _ _).1 h2
    simp only at g0 g1
    unfold numA
    rw [readS_of (by omega) (by omega) (show v.natAbs < 10 ^ 6 by omega)]
    simp only [if_true]
    rw [if_neg (by omega)]
  have none_ : ¬ (numA (rdOf ByteArray.empty (splitP t 58) 0)).2 = true ∨ ¬ (splitP t 58).length = 2 ∨ ¬ areOk (numA (rdOf ByteArray.empty (splitP t 58) 0)).1 (rdOf ByteArray.empty (splitP t 58) 1) = true → sigP (splitP t 58) = (0, ⟨#[]⟩, false) := by
    intro h
    unfold sigP
    rw [if_neg]
    rintro ⟨g, c, o⟩
    have r := rel2 _ _ c o
    rcases h with h | h | h
    · exact h (by rw [r])
    · exact h g
    · exact h (by rw [r]; exact o)
  by_cases c : (numA (rdOf ByteArray.empty (splitP t 58) 0)).2 = true
  · refine ev_pos c ?_
    by_cases g : (splitP t 58).length = 2
    · have h1 := rdB_le (t := t) (by_ := 58) (i := 1) (by omega)
      rw [show (((splitP t 58).length : Int) != 2) = false by rw [g]; rfl]
      refine ev_step ?_
      simp only [impl_ParseSigns.j0]
      refine ev_neg (by simp) (ev_pos (by omega) (Ev.bind (impl_are _ _ (Nat.le_trans h1 (by omega))) ?_))
      by_cases o : areOk (numA (rdOf ByteArray.empty (splitP t 58) 0)).1 (rdOf ByteArray.empty (splitP t 58) 1) = true
      · refine ev_cast (ev_pos o (Ev.now _)) ?_
        have r := rel _ _ c o
        unfold sigP
        rw [r, if_pos ⟨g, rfl, o⟩]
      · exact ev_cast (ev_neg o (Ev.now _)) (none_ (.inr (.inr o))).symm
    · rw [none_ (.inr (.inl g)), show (((splitP t 58).length : Int) != 2) = true by rw [bne_iff_ne]; omega]
      exact no _ _
  · rw [none_ (.inl c)]
    exact ev_neg c (no _ _)
end Go.Proofs.YthhgcdfdjlijjaaDoor.M
