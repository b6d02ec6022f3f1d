/- A part of proofs about signs and points: what some functions answer, and that their calls answer so. No condition. -/
import Derived.Test.YthhgcdfdjlijjaaDoorProg
import Derived.Shelf.Strconv.Itoa3
import Derived.Shelf.Strconv.AtoiAll
import Derived.Shelf.Strings.Cut
import Derived.Shelf.Strings.OnBuilder
import Derived.Lib.SmallJoins
import Derived.Lib.AppendIntMem
import Derived.Test.YthhgcdfdjlijjaaDoorRows
import Derived.ProofKit
import Derived.LaidMore
import Derived.OpenShut
import Derived.Stop.Joined
import Derived.Stop.LaidErr
import Derived.Lib.LaidTab
import Derived.LaidHandle
import Derived.Below
import Derived.Deep.Draws
import Derived.Deep.AppendLies
import Derived.Maps.AppendAt
import Derived.OwnWalk
import Derived.Laws.BytesArg
import Derived.Laws.MakeOwn
import Derived.Laws.OwnMore
import Derived.Deep.OwnRows
import Derived.Tactics
import Derived.Lib.ConvBytes
import Derived.Laws.Slices
import Derived.WalkKit
import Derived.KernelRfl
import Derived.RowKit3
import Derived.Deep.LoopGhost
import Derived.Deep.QuietTactic
import Derived.BigQuiet
import Derived.WideLaws
import Derived.Deep.DeepCutAuto
import Derived.Deep.CutBlock
import Derived.Deep.RegionHeld3
import Derived.Laws.Rows
import Derived.Lib.AppendStr
import Derived.ArgAppend
import Derived.Laws.IdiomCopy
import Derived.OrdersHeld
import Derived.Laws.BitsLemmas
import Derived.RowKit
import Derived.Lib.AtoiAllCases
import Derived.Lib.ItoaNum
import Derived.Test.YthhgcdfdjlijjaaDoorV1
set_option linter.unusedVariables false
set_option linter.unusedSimpArgs false
namespace Go.Proofs
open Go.Shelf
set_option linter.unusedVariables false
def Tryd.lays156_ren : Go.Shelf.Ren := ⟨fun | 156 => 61 | 165 => 72 | 166 => 73 | 169 => 74 | 240 => 85 | 241 => 86 | 276 => 102 | 277 => 103 | n => n, fun | 31 => 53 | 9 => 9 | 3 => 3 | 4 => 4 | 0 => 0 | 20 => 20 | 72 => 93 | 76 => 79 | 70 => 91 | 37 => 41 | 75 => 78 | 127 => 106 | 164 => 120 | 5 => 5 | 80 => 95 | n => n, fun | n => n⟩
theorem Tryd.lays156 : Go.Proofs.Lays.n156 Tryd.prog Tryd.lays156_ren := {
  mixed := by kernel_rfl
  f156 := Tryd.func61.trans (congrArg some (by kernel_rfl))
  f165 := Tryd.func72.trans (congrArg some (by kernel_rfl))
  f166 := Tryd.func73.trans (congrArg some (by kernel_rfl))
  f169 := Tryd.func74.trans (congrArg some (by kernel_rfl))
  f240 := Tryd.func85.trans (congrArg some (by kernel_rfl))
  f241 := Tryd.func86.trans (congrArg some (by kernel_rfl))
  f276 := Tryd.func102.trans (congrArg some (by kernel_rfl))
  f277 := Tryd.func103.trans (congrArg some (by kernel_rfl))
  t0 := Tryd.underlying0
  a0 := Tryd.isAgg0
  z0 := Tryd.sizeOf0
  v0 := Tryd.zeroValue0
  t3 := Tryd.underlying3
  a3 := Tryd.isAgg3
  z3 := Tryd.sizeOf3
  v3 := Tryd.zeroValue3
  t4 := Tryd.underlying4
  a4 := Tryd.isAgg4
  z4 := Tryd.sizeOf4
  v4 := Tryd.zeroValue4
  t9 := Tryd.underlying9
  a9 := Tryd.isAgg9
  z9 := Tryd.sizeOf9
  v9 := Tryd.zeroValue9
  t20 := Tryd.underlying20
  a20 := Tryd.isAgg20
  z20 := Tryd.sizeOf20
  v20 := Tryd.zeroValue20
  t31 := Tryd.underlying53
  a31 := Tryd.isAgg53
  z31 := Tryd.sizeOf53
  v31 := Tryd.zeroValue53
  t37 := Tryd.underlying41
  a37 := Tryd.isAgg41
  z37 := Tryd.sizeOf41
  v37 := Tryd.zeroValue41
  t70 := Tryd.underlying91
  a70 := Tryd.isAgg91
  z70 := Tryd.sizeOf91
  v70 := Tryd.zeroValue91
  t72 := Tryd.underlying93
  a72 := Tryd.isAgg93
  z72 := Tryd.sizeOf93
  v72 := Tryd.zeroValue93
  t75 := Tryd.underlying78
  a75 := Tryd.isAgg78
  z75 := Tryd.sizeOf78
  v75 := Tryd.zeroValue78
  t76 := Tryd.underlying79
  a76 := Tryd.isAgg79
  z76 := Tryd.sizeOf79
  v76 := Tryd.zeroValue79
  t127 := Tryd.underlying106
  a127 := Tryd.isAgg106
  z127 := Tryd.sizeOf106
  v127 := Tryd.zeroValue106
  t164 := Tryd.underlying120
  a164 := Tryd.isAgg120
  z164 := Tryd.sizeOf120
  v164 := Tryd.zeroValue120 }
theorem Tryd.Builder_Extra_156 : Builder.Extra Tryd.prog Tryd.lays156_ren := {
  sizeBuilder := by kernel_rfl
  liesBuilder := by kernel_rfl
  t5 := Tryd.underlying5
  a5 := Tryd.isAgg5
  z5 := Tryd.sizeOf5
  v5 := Tryd.zeroValue5
  infoByte := by kernel_rfl
  cellsByte := by kernel_rfl
  sizeByte := by kernel_rfl
  neB5 := by decide }
open Go.RowKit in
theorem Tryd.strings_Join_none (a : Option Addr) (c : Nat) (sep : ByteArray) (w : World) :
    Calls Tryd.prog 61 #[.slice a 0 c, .string sep] w fun e w' => e = .returned (.string ⟨#[]⟩) ∧ w' = w := Any.strings_Join_none Tryd.lays156 Tryd.Builder_Extra_156 a c sep w
open Go.RowKit in
theorem Tryd.strings_Join (bk o c : Nat) (xs : List ByteArray) (sep : ByteArray) (w : World) (hcells : ∀ (j : Nat) x, xs[j]? = some x → w.cell? ⟨bk, o + j, none⟩ = some (.string x)) (hbk : bk < w.heap.size) (hN : xs.length ≤ 140737488355328) (hcap : xs.length ≤ c) (hlen : (Lib.join (xs.map (·.data.toList)) sep.data.toList).length ≤ 140737488355328) :
    Calls Tryd.prog 61 #[.slice (some ⟨bk, o, none⟩) xs.length c, .string sep] w fun e w' => e = .returned (.string ⟨(Lib.join (xs.map (·.data.toList)) sep.data.toList).toArray⟩) ∧ Below w.heap.size w w' := Any.strings_Join Tryd.lays156 Tryd.Builder_Extra_156 bk o c xs sep w hcells hbk hN hcap hlen
def Tryd.laysM171_ren : Go.Shelf.Ren := ⟨fun | 171 => 36 | 243 => 54 | 246 => 66 | 283 => 79 | 284 => 80 | 285 => 81 | 286 => 82 | 129 => 97 | 317 => 96 | 318 => 98 | 319 => 99 | 320 => 100 | 337 => 109 | 338 => 110 | n => n, fun | 3 => 3 | 9 => 9 | 2 => 2 | 4 => 4 | 171 => 98 | 0 => 0 | 53 => 99 | 37 => 41 | 5 => 5 | 173 => 102 | 212 => 116 | 51 => 117 | 20 => 20 | 213 => 118 | 46 => 113 | 232 => 136 | 233 => 137 | n => n, fun | 17 => 1 | 18 => 4 | 19 => 5 | n => n⟩
theorem Tryd.laysM171 : Go.Proofs.LaysM.n171 Tryd.prog Tryd.laysM171_ren := {
  mixed := by kernel_rfl
  f129 := Tryd.func97.trans (congrArg some (by kernel_rfl))
  f171 := Tryd.func36.trans (congrArg some (by kernel_rfl))
  f243 := Tryd.func54.trans (congrArg some (by kernel_rfl))
  f246 := Tryd.func66.trans (congrArg some (by kernel_rfl))
  f283 := Tryd.func79.trans (congrArg some (by kernel_rfl))
  f284 := Tryd.func80.trans (congrArg some (by kernel_rfl))
  f285 := Tryd.func81.trans (congrArg some (by kernel_rfl))
  f286 := Tryd.func82.trans (congrArg some (by kernel_rfl))
  f317 := Tryd.func96.trans (congrArg some (by kernel_rfl))
  f318 := Tryd.func98.trans (congrArg some (by kernel_rfl))
  f319 := Tryd.func99.trans (congrArg some (by kernel_rfl))
  f320 := Tryd.func100.trans (congrArg some (by kernel_rfl))
  f337 := Tryd.func109.trans (congrArg some (by kernel_rfl))
  f338 := Tryd.func110.trans (congrArg some (by kernel_rfl))
  t0 := Tryd.underlying0
  a0 := Tryd.isAgg0
  z0 := Tryd.sizeOf0
  v0 := Tryd.zeroValue0
  t2 := Tryd.underlying2
  a2 := Tryd.isAgg2
  z2 := Tryd.sizeOf2
  v2 := Tryd.zeroValue2
  t3 := Tryd.underlying3
  a3 := Tryd.isAgg3
  z3 := Tryd.sizeOf3
  v3 := Tryd.zeroValue3
  t4 := Tryd.underlying4
  a4 := Tryd.isAgg4
  z4 := Tryd.sizeOf4
  v4 := Tryd.zeroValue4
  t5 := Tryd.underlying5
  a5 := Tryd.isAgg5
  z5 := Tryd.sizeOf5
  v5 := Tryd.zeroValue5
  t9 := Tryd.underlying9
  a9 := Tryd.isAgg9
  z9 := Tryd.sizeOf9
  v9 := Tryd.zeroValue9
  t20 := Tryd.underlying20
  a20 := Tryd.isAgg20
  z20 := Tryd.sizeOf20
  v20 := Tryd.zeroValue20
  t37 := Tryd.underlying41
  a37 := Tryd.isAgg41
  z37 := Tryd.sizeOf41
  v37 := Tryd.zeroValue41
  t46 := Tryd.underlying113
  a46 := Tryd.isAgg113
  z46 := Tryd.sizeOf113
  v46 := Tryd.zeroValue113
  t51 := Tryd.underlying117
  a51 := Tryd.isAgg117
  z51 := Tryd.sizeOf117
  v51 := Tryd.zeroValue117
  t53 := Tryd.underlying99
  a53 := Tryd.isAgg99
  z53 := Tryd.sizeOf99
  v53 := Tryd.zeroValue99
  t171 := Tryd.underlying98
  a171 := Tryd.isAgg98
  z171 := Tryd.sizeOf98
  v171 := Tryd.zeroValue98
  t173 := Tryd.underlying102
  a173 := Tryd.isAgg102
  z173 := Tryd.sizeOf102
  v173 := Tryd.zeroValue102
  t212 := Tryd.underlying116
  a212 := Tryd.isAgg116
  z212 := Tryd.sizeOf116
  v212 := Tryd.zeroValue116
  t213 := Tryd.underlying118
  a213 := Tryd.isAgg118
  z213 := Tryd.sizeOf118
  t232 := Tryd.underlying136
  a232 := Tryd.isAgg136
  z232 := Tryd.sizeOf136
  v232 := Tryd.zeroValue136
  t233 := Tryd.underlying137
  a233 := Tryd.isAgg137
  z233 := Tryd.sizeOf137
  v233 := Tryd.zeroValue137
  g17 := by kernel_rfl
  g18 := by kernel_rfl
  g19 := by kernel_rfl
  i0 := by kernel_rfl
  i2 := by kernel_rfl
  i3 := by kernel_rfl
  i4 := by kernel_rfl
  i5 := by kernel_rfl
  i9 := by kernel_rfl
  i20 := by kernel_rfl
  i37 := by kernel_rfl
  i46 := by kernel_rfl
  i51 := by kernel_rfl
  i53 := by kernel_rfl
  i171 := by kernel_rfl
  i173 := by kernel_rfl
  i212 := by kernel_rfl
  i232 := by kernel_rfl
  i233 := by kernel_rfl
  m17 := by kernel_rfl
  m18 := by kernel_rfl
  m19 := by kernel_rfl }
open Go.RowKit Go.Sort Go.Lib in
theorem Tryd.strconv_Itoa (n : Int) (h0 : -9223372036854775808 ≤ n) (h1 : n ≤ 9223372036854775807) (w : World) (htab : Lib.TabIs Tryd.prog w "internal/strconv.uint64pow10" .u64 Lib.pow10Tab) :
    Calls Tryd.prog 36 #[.int .i64 n] w fun e w' => e = .returned (.string ⟨(Lib.itoa n).toArray⟩) ∧ ∃ k os, w' = grow (w.drewN k) os := Any.strconv_Itoa Tryd.laysM171 n h0 h1 w htab
def Tryd.laysC172_ren : Go.Shelf.Ren := ⟨fun | 172 => 62 | 244 => 75 | 245 => 76 | 247 => 87 | 279 => 88 | 280 => 89 | 281 => 90 | 282 => 91 | 287 => 104 | 316 => 105 | 171 => 36 | 205 => 106 | 321 => 111 | 322 => 112 | 243 => 54 | 246 => 66 | 283 => 79 | 284 => 80 | 285 => 81 | 286 => 82 | 129 => 97 | 317 => 96 | 318 => 98 | 319 => 99 | 320 => 100 | 337 => 109 | 338 => 110 | n => n, fun | 9 => 9 | 3 => 3 | 75 => 78 | 76 => 79 | 4 => 4 | 5 => 5 | 167 => 107 | 37 => 41 | 0 => 0 | 85 => 108 | 2 => 2 | 168 => 110 | 53 => 99 | 175 => 123 | 46 => 113 | 210 => 127 | 127 => 106 | 145 => 135 | 143 => 133 | 21 => 21 | 171 => 98 | 173 => 102 | 212 => 116 | 51 => 117 | 20 => 20 | 213 => 118 | 232 => 136 | 233 => 137 | 80 => 95 | n => n, fun | 15 => 2 | 16 => 3 | 17 => 1 | 18 => 4 | 19 => 5 | n => n⟩
theorem Tryd.laysC172 : Go.Proofs.LaysC.n172 Tryd.prog Tryd.laysC172_ren := {
  mixed := by kernel_rfl
  f129 := Tryd.func97.trans (congrArg some (by kernel_rfl))
  f171 := Tryd.func36.trans (congrArg some (by kernel_rfl))
  f172 := Tryd.func62.trans (congrArg some (by kernel_rfl))
  f205 := Tryd.func106.trans (congrArg some (by kernel_rfl))
  f243 := Tryd.func54.trans (congrArg some (by kernel_rfl))
  f244 := Tryd.func75.trans (congrArg some (by kernel_rfl))
  f245 := Tryd.func76.trans (congrArg some (by kernel_rfl))
  f246 := Tryd.func66.trans (congrArg some (by kernel_rfl))
  f247 := Tryd.func87.trans (congrArg some (by kernel_rfl))
  f279 := Tryd.func88.trans (congrArg some (by kernel_rfl))
  f280 := Tryd.func89.trans (congrArg some (by kernel_rfl))
  f281 := Tryd.func90.trans (congrArg some (by kernel_rfl))
  f282 := Tryd.func91.trans (congrArg some (by kernel_rfl))
  f283 := Tryd.func79.trans (congrArg some (by kernel_rfl))
  f284 := Tryd.func80.trans (congrArg some (by kernel_rfl))
  f285 := Tryd.func81.trans (congrArg some (by kernel_rfl))
  f286 := Tryd.func82.trans (congrArg some (by kernel_rfl))
  f287 := Tryd.func104.trans (congrArg some (by kernel_rfl))
  f316 := Tryd.func105.trans (congrArg some (by kernel_rfl))
  f317 := Tryd.func96.trans (congrArg some (by kernel_rfl))
  f318 := Tryd.func98.trans (congrArg some (by kernel_rfl))
  f319 := Tryd.func99.trans (congrArg some (by kernel_rfl))
  f320 := Tryd.func100.trans (congrArg some (by kernel_rfl))
  f321 := Tryd.func111.trans (congrArg some (by kernel_rfl))
  f322 := Tryd.func112.trans (congrArg some (by kernel_rfl))
  f337 := Tryd.func109.trans (congrArg some (by kernel_rfl))
  f338 := Tryd.func110.trans (congrArg some (by kernel_rfl))
  t0 := Tryd.underlying0
  a0 := Tryd.isAgg0
  z0 := Tryd.sizeOf0
  v0 := Tryd.zeroValue0
  t2 := Tryd.underlying2
  a2 := Tryd.isAgg2
  z2 := Tryd.sizeOf2
  v2 := Tryd.zeroValue2
  t3 := Tryd.underlying3
  a3 := Tryd.isAgg3
  z3 := Tryd.sizeOf3
  v3 := Tryd.zeroValue3
  t4 := Tryd.underlying4
  a4 := Tryd.isAgg4
  z4 := Tryd.sizeOf4
  v4 := Tryd.zeroValue4
  t5 := Tryd.underlying5
  a5 := Tryd.isAgg5
  z5 := Tryd.sizeOf5
  v5 := Tryd.zeroValue5
  t9 := Tryd.underlying9
  a9 := Tryd.isAgg9
  z9 := Tryd.sizeOf9
  v9 := Tryd.zeroValue9
  t20 := Tryd.underlying20
  a20 := Tryd.isAgg20
  z20 := Tryd.sizeOf20
  v20 := Tryd.zeroValue20
  t21 := Tryd.underlying21
  a21 := Tryd.isAgg21
  z21 := Tryd.sizeOf21
  v21 := Tryd.zeroValue21
  t37 := Tryd.underlying41
  a37 := Tryd.isAgg41
  z37 := Tryd.sizeOf41
  v37 := Tryd.zeroValue41
  t46 := Tryd.underlying113
  a46 := Tryd.isAgg113
  z46 := Tryd.sizeOf113
  v46 := Tryd.zeroValue113
  t51 := Tryd.underlying117
  a51 := Tryd.isAgg117
  z51 := Tryd.sizeOf117
  v51 := Tryd.zeroValue117
  t53 := Tryd.underlying99
  a53 := Tryd.isAgg99
  z53 := Tryd.sizeOf99
  v53 := Tryd.zeroValue99
  t75 := Tryd.underlying78
  a75 := Tryd.isAgg78
  z75 := Tryd.sizeOf78
  v75 := Tryd.zeroValue78
  t76 := Tryd.underlying79
  a76 := Tryd.isAgg79
  z76 := Tryd.sizeOf79
  v76 := Tryd.zeroValue79
  t85 := Tryd.underlying108
  a85 := Tryd.isAgg108
  z85 := Tryd.sizeOf108
  v85 := Tryd.zeroValue108
  t127 := Tryd.underlying106
  a127 := Tryd.isAgg106
  z127 := Tryd.sizeOf106
  v127 := Tryd.zeroValue106
  t143 := Tryd.underlying133
  a143 := Tryd.isAgg133
  z143 := Tryd.sizeOf133
  v143 := Tryd.zeroValue133
  t145 := Tryd.underlying135
  a145 := Tryd.isAgg135
  z145 := Tryd.sizeOf135
  v145 := Tryd.zeroValue135
  t167 := Tryd.underlying107
  a167 := Tryd.isAgg107
  z167 := Tryd.sizeOf107
  v167 := Tryd.zeroValue107
  t168 := Tryd.underlying110
  a168 := Tryd.isAgg110
  z168 := Tryd.sizeOf110
  v168 := Tryd.zeroValue110
  t171 := Tryd.underlying98
  a171 := Tryd.isAgg98
  z171 := Tryd.sizeOf98
  v171 := Tryd.zeroValue98
  t173 := Tryd.underlying102
  a173 := Tryd.isAgg102
  z173 := Tryd.sizeOf102
  v173 := Tryd.zeroValue102
  t175 := Tryd.underlying123
  a175 := Tryd.isAgg123
  z175 := Tryd.sizeOf123
  v175 := Tryd.zeroValue123
  t210 := Tryd.underlying127
  a210 := Tryd.isAgg127
  z210 := Tryd.sizeOf127
  v210 := Tryd.zeroValue127
  t212 := Tryd.underlying116
  a212 := Tryd.isAgg116
  z212 := Tryd.sizeOf116
  v212 := Tryd.zeroValue116
  t213 := Tryd.underlying118
  a213 := Tryd.isAgg118
  z213 := Tryd.sizeOf118
  t232 := Tryd.underlying136
  a232 := Tryd.isAgg136
  z232 := Tryd.sizeOf136
  v232 := Tryd.zeroValue136
  t233 := Tryd.underlying137
  a233 := Tryd.isAgg137
  z233 := Tryd.sizeOf137
  v233 := Tryd.zeroValue137
  g15 := by kernel_rfl
  g16 := by kernel_rfl
  g17 := by kernel_rfl
  g18 := by kernel_rfl
  g19 := by kernel_rfl
  t80 := Tryd.underlying95
  a80 := Tryd.isAgg95
  z80 := Tryd.sizeOf95
  v80 := Tryd.zeroValue95
  i0 := by kernel_rfl
  i2 := by kernel_rfl
  i3 := by kernel_rfl
  i4 := by kernel_rfl
  i5 := by kernel_rfl
  i9 := by kernel_rfl
  i20 := by kernel_rfl
  i21 := by kernel_rfl
  i37 := by kernel_rfl
  i46 := by kernel_rfl
  i51 := by kernel_rfl
  i53 := by kernel_rfl
  i75 := by kernel_rfl
  i76 := by kernel_rfl
  i80 := by kernel_rfl
  i85 := by kernel_rfl
  i127 := by kernel_rfl
  i143 := by kernel_rfl
  i145 := by kernel_rfl
  i167 := by kernel_rfl
  i168 := by kernel_rfl
  i171 := by kernel_rfl
  i173 := by kernel_rfl
  i175 := by kernel_rfl
  i210 := by kernel_rfl
  i212 := by kernel_rfl
  i232 := by kernel_rfl
  i233 := by kernel_rfl
  m15 := by kernel_rfl
  m16 := by kernel_rfl
  m17 := by kernel_rfl
  m18 := by kernel_rfl
  m19 := by kernel_rfl
  c0 := by kernel_rfl
  c2 := by kernel_rfl
  c3 := by kernel_rfl
  c4 := by kernel_rfl
  c5 := by kernel_rfl
  c9 := by kernel_rfl
  c20 := by kernel_rfl
  c21 := by kernel_rfl
  c37 := by kernel_rfl
  c46 := by kernel_rfl
  c51 := by kernel_rfl
  c53 := by kernel_rfl
  c75 := by kernel_rfl
  c76 := by kernel_rfl
  c80 := by kernel_rfl
  c85 := by kernel_rfl
  c127 := by kernel_rfl
  c143 := by kernel_rfl
  c145 := by kernel_rfl
  c167 := by kernel_rfl
  c168 := by kernel_rfl
  c171 := by kernel_rfl
  c173 := by kernel_rfl
  c175 := by kernel_rfl
  c210 := by kernel_rfl
  c212 := by kernel_rfl
  c213 := by kernel_rfl
  c232 := by kernel_rfl
  c233 := by kernel_rfl }
open Go.RowKit in
theorem Tryd.strconv_Atoi_ok (s : ByteArray) (hmax : s.size ≤ 9223372036854775806) (v : Int) (h : Lib.atoiAll s.data.toList = .ok v) (w : World) :
    Calls Tryd.prog 62 #[.string s] w fun e w' => e = .returned (.tuple #[.int .i64 v, .nilIface]) ∧ (w' = w ∨ ∃ t, w' = Lib.bytesWorld w 5 t) := Any.strconv_Atoi_ok Tryd.laysC172 s hmax v h w
def Tryd.lays145_ren : Go.Shelf.Ren := ⟨fun | 145 => 53 | 220 => 65 | 219 => 78 | 217 => 92 | 225 => 93 | 224 => 94 | 267 => 95 | 266 => 107 | 314 => 108 | n => n, fun | 9 => 9 | 4 => 4 | 59 => 68 | 3 => 3 | 5 => 5 | 46 => 113 | 146 => 129 | 51 => 117 | n => n, fun | 1 => 0 | n => n⟩
theorem Tryd.lays145 : Go.Proofs.Lays.n145 Tryd.prog Tryd.lays145_ren := {
  mixed := by kernel_rfl
  f145 := Tryd.func53.trans (congrArg some (by kernel_rfl))
  f217 := Tryd.func92.trans (congrArg some (by kernel_rfl))
  f219 := Tryd.func78.trans (congrArg some (by kernel_rfl))
  f220 := Tryd.func65.trans (congrArg some (by kernel_rfl))
  f224 := Tryd.func94.trans (congrArg some (by kernel_rfl))
  f225 := Tryd.func93.trans (congrArg some (by kernel_rfl))
  f266 := Tryd.func107.trans (congrArg some (by kernel_rfl))
  f267 := Tryd.func95.trans (congrArg some (by kernel_rfl))
  f314 := Tryd.func108.trans (congrArg some (by kernel_rfl))
  t3 := Tryd.underlying3
  a3 := Tryd.isAgg3
  z3 := Tryd.sizeOf3
  v3 := Tryd.zeroValue3
  t4 := Tryd.underlying4
  a4 := Tryd.isAgg4
  z4 := Tryd.sizeOf4
  v4 := Tryd.zeroValue4
  t5 := Tryd.underlying5
  a5 := Tryd.isAgg5
  z5 := Tryd.sizeOf5
  v5 := Tryd.zeroValue5
  t9 := Tryd.underlying9
  a9 := Tryd.isAgg9
  z9 := Tryd.sizeOf9
  v9 := Tryd.zeroValue9
  t46 := Tryd.underlying113
  a46 := Tryd.isAgg113
  z46 := Tryd.sizeOf113
  v46 := Tryd.zeroValue113
  t51 := Tryd.underlying117
  a51 := Tryd.isAgg117
  z51 := Tryd.sizeOf117
  v51 := Tryd.zeroValue117
  t59 := Tryd.underlying68
  a59 := Tryd.isAgg68
  z59 := Tryd.sizeOf68
  v59 := Tryd.zeroValue68
  t146 := Tryd.underlying129
  a146 := Tryd.isAgg129
  z146 := Tryd.sizeOf129
  v146 := Tryd.zeroValue129
  g1 := by kernel_rfl }
open Go.RowKit Go.Lib in
theorem Tryd.strings_Cut (s sep : ByteArray) (m : Int) (w : World) (hs : s.size < 4294967281) (hm : w.cell? ⟨0, 0, none⟩ = some (.int .i64 m)) :
    Calls Tryd.prog 53 #[.string s, .string sep] w fun e w' => e = .returned (.tuple #[.string ⟨(Lib.cut s.data.toList sep.data.toList).1.toArray⟩, .string ⟨(Lib.cut s.data.toList sep.data.toList).2.1.toArray⟩, .bool (Lib.cut s.data.toList sep.data.toList).2.2]) ∧ ∃ n, w' = w.drewN n := Any.strings_Cut Tryd.lays145 s sep m w hs hm
end Go.Proofs
namespace Go.Proofs.YthhgcdfdjlijjaaDoor.G
open Go.RowKit Go.Proofs.YthhgcdfdjlijjaaDoorW.PrintWords Go.Proofs.YthhgcdfdjlijjaaDoorW.PrintLast Go.Proofs.YthhgcdfdjlijjaaDoorW.PrintMore
set_option linter.unusedVariables false
set_option linter.unusedSimpArgs false
noncomputable def gOf (n : String) : Nat := (Tryd.prog.globalNamed n).getD 0
def T1 (w : World) : Prop := Lib.TabIs Tryd.prog w "internal/strconv.uint64pow10" .u64 Lib.pow10Tab
def T2 (w : World) : Prop := T1 w ∧ (∃ ev, w.cell? ⟨gOf "strconv.ErrSyntax", 0, none⟩ = some ev ∧ (ev = .nilIface ∨ ∃ te pe, ev = .iface te pe)) ∧ (∃ ev, w.cell? ⟨gOf "strconv.ErrRange", 0, none⟩ = some ev ∧ (ev = .nilIface ∨ ∃ te pe, ev = .iface te pe))
def T3 (w : World) : Prop := T2 w ∧ ∃ m, w.cell? ⟨gOf "internal/bytealg.MaxLen", 0, none⟩ = some (.int .i64 m)
theorem T1.below {w w' : World} (h : T1 w) (hb : Below w.heap.size w w') : T1 w' := Go.Joins.tab_stays (g := gOf "internal/strconv.uint64pow10") (by kernel_rfl) h hb (Nat.le_refl _)
theorem cell_stays {w w' : World} {g : Nat} {v : Value} (h : w.cell? ⟨g, 0, none⟩ = some v) (hb : Below w.heap.size w w') : w'.cell? ⟨g, 0, none⟩ = some v := (hb.cell (World.block_lt_of_cell? w _ h)).trans h
theorem T2.below {w w' : World} (h : T2 w) (hb : Below w.heap.size w w') : T2 w' := by
 obtain ⟨h1, ⟨e, he, h2⟩, ⟨e', he', h3⟩⟩ := h
 exact ⟨h1.below hb, ⟨e, cell_stays he hb, h2⟩, ⟨e', cell_stays he' hb, h3⟩⟩
theorem T3.below {w w' : World} (h : T3 w) (hb : Below w.heap.size w w') : T3 w' := by
 obtain ⟨h1, m, hm⟩ := h
 exact ⟨h1.below hb, m, cell_stays hm hb⟩
theorem T2.to1 {w : World} (h : T2 w) : T1 w := h.1
theorem T3.to1 {w : World} (h : T3 w) : T1 w := h.1.1
def itoaB (n : Int) : ByteArray := ⟨(Lib.itoa n).toArray⟩
theorem itoa_calls {n : Int} (h0 : -9223372036854775808 ≤ n) (h1 : n ≤ 9223372036854775807) {w : World} (hT : T1 w) : Calls Tryd.prog 36 #[.int .i64 n] w fun e w' => e = .returned (.string (itoaB n)) ∧ Below w.heap.size w w' :=
 (Tryd.strconv_Itoa n h0 h1 w hT).mono fun e w' ⟨he, k, os, hw⟩ => ⟨he, hw ▸ Lib.below_grow _ w (Nat.le_refl _) k os⟩
def impl_FormatInt.f (n : Int) : Option ByteArray := if -9223372036854775808 ≤ n ∧ n ≤ 9223372036854775807 then some (itoaB n) else none
theorem impl_FormatInt.calls (a0 : Int) (r : ByteArray) (w : World) (h : impl_FormatInt.f a0 = some r) (hT : T1 w) :
  Calls Tryd.prog 12 #[.int .i64 a0] w fun e w' => e = .returned (.string r) ∧ Below w.heap.size w w' := by
 unfold impl_FormatInt.f at h
 by_cases hs : -9223372036854775808 ≤ a0 ∧ a0 ≤ 9223372036854775807
 ·rw [if_pos hs] at h
  obtain rfl := Option.some.inj h
  clear h
  go_enter Tryd.func12, Tryd.ntmps12
  go_wp2_with (go_at_call 36; refine (itoa_calls hs.1 hs.2 hT).mono ?_; rintro e w1 ⟨rfl, hb1⟩; have HB1 := Aside0.mk hb1; clear hb1)
  go_ret
  exact ⟨rfl, HB1.out⟩
 rw [if_neg hs] at h
 cases h
def impl_whole.f (s : ByteArray) (least most : Int) : Option (Int × Bool) :=
 if s.size ≤ 281474976710656 then
  match Lib.atoiAll s.data.toList with
  | .ok v => if v < least then some (0, false) else if v > most then some (0, false) else if (itoaB v).toList = s.toList then some (v, true) else some (0, false)
  | _ => some (0, false)
 else none
theorem bytes_below' {w w' : World} {t : TypeId} {s : ByteArray} (h : w' = w ∨ ∃ t', w' = Lib.bytesWorld w t t') : Below w.heap.size w w' := by
 rcases h with rfl | ⟨s, rfl⟩
 ·exact Below.refl _ _
 exact bytes_below (Below.refl _ _) (Nat.le_refl _) _ _
theorem atoi_err {s : ByteArray} (hs : s.size ≤ 281474976710656) (h : ∀ v, Lib.atoiAll s.data.toList ≠ .ok v) {w : World} (hT : T2 w) :
  Calls Tryd.prog 62 #[.string s] w fun e w' => ∃ v t p, e = .returned (.tuple #[.int .i64 v, .iface t p]) ∧ Below w.heap.size w w' := by
 obtain ⟨hT1, ⟨e1, he1, k1⟩, ⟨e2, he2, k2⟩⟩ := hT
 cases ha : Lib.atoiAll s.data.toList
 ·exact absurd ha (h _)
 ·exact (Any.strconv_Atoi_syntax Tryd.laysC172 s hs ha e1 w he1 k1).mono fun e w' ⟨N, he, _, _, hb⟩ => ⟨_, _, _, he, hb⟩
 exact (Any.strconv_Atoi_range Tryd.laysC172 s hs ha e2 w he2 k2).mono fun e w' ⟨N, he, _, _, hb⟩ => ⟨_, _, _, he, hb⟩
theorem impl_whole.calls (a0 : ByteArray) (a1 : Int) (a2 : Int) (r1 : Int) (r2 : Bool) (w : World) (h : impl_whole.f a0 a1 a2 = some (r1, r2)) (hT : T2 w) :
  Calls Tryd.prog 46 #[.string a0, .int .i64 a1, .int .i64 a2] w fun e w' => e = .returned (.tuple #[.int .i64 r1, .bool r2]) ∧ Below w.heap.size w w' := by
 unfold impl_whole.f at h
 by_cases hs : a0.size ≤ 281474976710656
 ·rw [if_pos hs] at h
  by_cases ha' : ∀ v, Lib.atoiAll a0.data.toList ≠ .ok v
  ·have A := atoi_err hs ha' hT
   have h' : some ((0 : Int), false) = some (r1, r2) := by
    revert h
    cases ha : Lib.atoiAll a0.data.toList
    ·exact absurd ha (ha' _)
    ·exact id
    ·exact id
   simp only [Option.some.injEq, Prod.mk.injEq] at h'
   obtain ⟨rfl, rfl⟩ := h'
   clear h ha'
   go_enter Tryd.func46, Tryd.ntmps46
   go_wp2_with (go_at_call 62; refine A.mono ?_; rintro e w1 ⟨v, t, p, rfl, hb1⟩; have HB1 := Aside0.mk hb1; clear hb1)
   go_ret2
   exact ⟨rfl, HB1.out⟩
  obtain ⟨v, ha⟩ : ∃ v, Lib.atoiAll a0.data.toList = .ok v := Classical.byContradiction fun hn => ha' fun v hv => hn ⟨v, hv⟩
  clear ha'
  have hT1 := hT.to1
  rw [ha] at h
  simp only at h
  have vb : -9223372036854775808 ≤ v ∧ v ≤ 9223372036854775807 := Lib.atoiAll_bounds ha
  have A := (Tryd.strconv_Atoi_ok a0 (by omega) v ha w)
  by_cases c1 : v < a1
  ·rw [if_pos c1] at h
   have c1b : decide (v < a1) = true := decide_eq_true c1
   simp only [Option.some.injEq, Prod.mk.injEq] at h
   obtain ⟨rfl, rfl⟩ := h
   go_enter Tryd.func46, Tryd.ntmps46
   go_wp2_with (go_at_call 62; refine A.mono ?_; rintro e w1 ⟨rfl, hb1⟩; have HB1 := Aside0.mk (bytes_below' (s := a0) hb1); clear hb1)
   go_ret2
   exact ⟨rfl, HB1.out⟩
  rw [if_neg c1] at h
  have c1b : decide (v < a1) = false := decide_eq_false c1
  by_cases c2 : v > a2
  ·rw [if_pos c2] at h
   have c2b : decide (a2 < v) = true := decide_eq_true c2
   simp only [Option.some.injEq, Prod.mk.injEq] at h
   obtain ⟨rfl, rfl⟩ := h
   go_enter Tryd.func46, Tryd.ntmps46
   go_wp2_with (go_at_call 62; refine A.mono ?_; rintro e w1 ⟨rfl, hb1⟩; have HB1 := Aside0.mk (bytes_below' (s := a0) hb1); clear hb1)
   go_ret2
   exact ⟨rfl, HB1.out⟩
  rw [if_neg c2] at h
  have c2b : decide (a2 < v) = false := decide_eq_false c2
  by_cases c3 : (itoaB v).toList = a0.toList
  ·rw [if_pos c3] at h
   have c3b0 : ((itoaB v).toList == a0.toList) = true := beq_iff_eq.mpr c3
   have c3b1 : ((itoaB v).toList != a0.toList) = false := bne_eq_false_iff_eq.mpr c3
   simp only [Option.some.injEq, Prod.mk.injEq] at h
   obtain ⟨rfl, rfl⟩ := h
   go_enter Tryd.func46, Tryd.ntmps46
   go_wp2_with (first | (go_at_call 62; refine A.mono ?_; rintro e w1 ⟨rfl, hb1⟩; have HB1 := Aside0.mk (bytes_below' (s := a0) hb1); clear hb1) | (go_at_call 36; refine (itoa_calls vb.1 vb.2 (hT1.below HB1.out)).mono ?_; rintro e w2 ⟨rfl, hb2⟩; have HB2 := Aside0.mk (below_step HB1.out hb2); clear hb2))
   go_ret2
   exact ⟨rfl, HB2.out⟩
  rw [if_neg c3] at h
  have c3b0 : ((itoaB v).toList == a0.toList) = false := beq_eq_false_iff_ne.mpr c3
  have c3b1 : ((itoaB v).toList != a0.toList) = true := bne_iff_ne.mpr c3
  simp only [Option.some.injEq, Prod.mk.injEq] at h
  obtain ⟨rfl, rfl⟩ := h
  go_enter Tryd.func46, Tryd.ntmps46
  go_wp2_with (first | (go_at_call 62; refine A.mono ?_; rintro e w1 ⟨rfl, hb1⟩; have HB1 := Aside0.mk (bytes_below' (s := a0) hb1); clear hb1) | (go_at_call 36; refine (itoa_calls vb.1 vb.2 (hT1.below HB1.out)).mono ?_; rintro e w2 ⟨rfl, hb2⟩; have HB2 := Aside0.mk (below_step HB1.out hb2); clear hb2))
  go_ret2
  exact ⟨rfl, HB2.out⟩
 rw [if_neg hs] at h
 cases h
def strings_Cut.f (s t : ByteArray) : Option (ByteArray × ByteArray × Bool) :=
 if s.size < 4294967281 then some (⟨(Lib.cut s.data.toList t.data.toList).1.toArray⟩, ⟨(Lib.cut s.data.toList t.data.toList).2.1.toArray⟩, (Lib.cut s.data.toList t.data.toList).2.2) else none
theorem strings_Cut.calls (a0 : ByteArray) (a1 : ByteArray) (r1 : ByteArray) (r2 : ByteArray) (r3 : Bool) (w : World) (h : strings_Cut.f a0 a1 = some (r1, r2, r3)) (hT : T3 w) :
  Calls Tryd.prog 53 #[.string a0, .string a1] w fun e w' => e = .returned (.tuple #[.string r1, .string r2, .bool r3]) ∧ Below w.heap.size w w' := by
 unfold strings_Cut.f at h
 by_cases hs : a0.size < 4294967281
 ·rw [if_pos hs] at h
  simp only [Option.some.injEq, Prod.mk.injEq] at h
  obtain ⟨rfl, rfl, rfl⟩ := h
  obtain ⟨_, m, hm⟩ := hT
  refine (Tryd.strings_Cut a0 a1 m w hs hm).mono fun e w' ⟨he, k, hw⟩ => ⟨he, ?_⟩
  subst hw
  exact Lib.below_grow _ w (Nat.le_refl _) k #[]
 rw [if_neg hs] at h
 cases h
end Go.Proofs.YthhgcdfdjlijjaaDoor.G
namespace Go.Proofs.YthhgcdfdjlijjaaDoor.G
open Go.RowKit
set_option linter.unusedVariables false
def l3 : List (String × DataW Unit) := [("math/bits.deBruijn32tab", Rows.laid_math_bits_deBruijn32tab), ("math/bits.deBruijn64tab", Rows.laid_math_bits_deBruijn64tab), ("internal/strconv.uint64pow10", Rows.laid_internal_strconv_uint64pow10)]
def l5 : List (String × DataW Unit) := [("math/bits.deBruijn32tab", Rows.laid_math_bits_deBruijn32tab), ("math/bits.deBruijn64tab", Rows.laid_math_bits_deBruijn64tab), ("internal/strconv.uint64pow10", Rows.laid_internal_strconv_uint64pow10), ("strconv.ErrRange", Rows.laid_strconv_ErrRange), ("strconv.ErrSyntax", Rows.laid_strconv_ErrSyntax)]
noncomputable def tabT : Nat := ((Tryd.prog.globals[gOf "internal/strconv.uint64pow10"]?).map (·.type)).getD 0
theorem tab_of {r : List (String × DataW Unit)} {W : World} (h : laidMet Tryd.prog (("internal/strconv.uint64pow10", Rows.laid_internal_strconv_uint64pow10) :: r) W) : T1 W :=
  Lib.tabIs_of_head (g := gOf "internal/strconv.uint64pow10") (t := tabT) (e := 99) (n := 20) (by kernel_rfl) (by kernel_rfl) (by kernel_rfl) (by kernel_rfl) (by kernel_rfl) (by kernel_rfl) h
theorem star : "*" ++ "errors.errorString" = "*errors.errorString" := by decide
theorem rowE (u : TypeId) (h : Tryd.prog.typeName? 3 u = some "*errors.errorString") : u = 133 :=
  typeName_ptr_named (nm := "errors.errorString") (by rw [star]; kernel_rfl) (by kernel_rfl) (by decide) u (by rw [star]; exact h)
theorem err_of {n : String} {text : List UInt8} {r : List (String × DataW Unit)} {W : World} (hg : Tryd.prog.globalNamed n = some (gOf n)) (ht : (Tryd.prog.globals[gOf n]?).map (·.type) = some 78)
    (h : laidMet Tryd.prog ((n, .iface "*errors.errorString" (.ptr (.agg [.lit (.string text)]))) :: r) W) : ∃ ev, W.cell? ⟨gOf n, 0, none⟩ = some ev ∧ (ev = .nilIface ∨ ∃ te pe, ev = .iface te pe) := by
  obtain ⟨a, s, hv, _⟩ := laid_sentinel h hg ht Tryd.underlying78 rowE Tryd.underlying133 Tryd.underlying135 rfl rfl Tryd.underlying9 (by kernel_rfl) (by kernel_rfl)
  exact ⟨_, by simpa using World.var?_cell hg hv 0, .inr ⟨_, _, rfl⟩⟩
theorem laid3_T1 {W : World} (h : laidMetH Tryd.prog l3 W) : T1 W := by
  rw [MakeChecks.laidMetH_plain _ _ _ (by kernel_rfl)] at h
  exact tab_of h.tail.tail
theorem laid5_T1 {W : World} (h : laidMetH Tryd.prog l5 W) : T1 W := by
  rw [MakeChecks.laidMetH_plain _ _ _ (by kernel_rfl)] at h
  exact tab_of h.tail.tail
theorem laid5_T2 {W : World} (h : laidMetH Tryd.prog l5 W) : T2 W := by
  refine ⟨laid5_T1 h, ?_, ?_⟩
  · rw [MakeChecks.laidMetH_plain _ _ _ (by kernel_rfl)] at h
    exact err_of (by kernel_rfl) (by kernel_rfl) h.tail.tail.tail.tail
  · rw [MakeChecks.laidMetH_plain _ _ _ (by kernel_rfl)] at h
    exact err_of (by kernel_rfl) (by kernel_rfl) h.tail.tail.tail
set_option maxRecDepth 100000 in
theorem met3 (os : Os) (args : Array Value) : laidMetH Tryd.prog l3 ((World.doorLaid Tryd.prog 24 os).forCall (fun _ _ => 0) ⟨#[], args, []⟩).memory :=
  laidMetH_of_parts3 (fuel := 8) (laidMet_of_run' 8 (by kernel_rfl) (by kernel_rfl)) (by kernel_rfl) (by kernel_rfl)
set_option maxRecDepth 100000 in
theorem met5 (os : Os) (args : Array Value) : laidMetH Tryd.prog l5 ((World.doorLaid Tryd.prog 62 os).forCall (fun _ _ => 0) ⟨#[], args, []⟩).memory :=
  laidMetH_of_parts3 (fuel := 8) (laidMet_of_run' 8 (by kernel_rfl) (by kernel_rfl)) (by kernel_rfl) (by kernel_rfl)
end Go.Proofs.YthhgcdfdjlijjaaDoor.G
namespace Go.Proofs.YthhgcdfdjlijjaaDoor.PX
open Go.RowKit Go.Proofs.YthhgcdfdjlijjaaDoor.G Go.Proofs.YthhgcdfdjlijjaaDoorW.PrintWords Go.Proofs.YthhgcdfdjlijjaaDoorW.PrintLast Go.Proofs.YthhgcdfdjlijjaaDoorW.PrintMore
attribute [local go_sem] max2_int min2_int max_two min_two max_three min_three max_four min_four   -- for this text's walks alone
set_option linter.unusedVariables false
set_option linter.unusedSimpArgs false
def errW : Option Int → Value
 | none => .nilIface
 | some c => .iface 107 (.int .i64 c)
theorem errW_none : errW none = .nilIface := rfl
theorem errW_some (c : Int) : errW (some c) = .iface 107 (.int .i64 c) := rfl
theorem info5 : (Tryd.prog.info? 5).map (fun i => (i.zero, i.size, i.bytes)) = some (some (.int .u8 0), 1, 1) := by kernel_rfl
theorem info9 : (Tryd.prog.info? 9).map (fun i => (i.zero, i.size, i.bytes)) = some (some (.string ⟨#[]⟩), 1, 16) := by kernel_rfl
theorem info55 : (Tryd.prog.info? 55).map (fun i => (i.zero, i.size, i.bytes)) = some (some (.agg #[(.int .i64 0), (.int .i64 0)]), 2, 16) := by kernel_rfl
theorem info76 : (Tryd.prog.info? 76).map (fun i => (i.zero, i.size, i.bytes)) = some (some (.agg #[(.int .i64 0), (.int .i64 0), (.int .i64 0)]), 3, 24) := by kernel_rfl
/-! #### struct type 58 -/
structure S58 where
 f0 : Int
 f1 : Int
def z58 : S58 := ⟨(0 : Int), (0 : Int)⟩
def k58 : Kd S58 := Kd.iso (Kd.pair (Kd.int .i64) (Kd.int .i64)) (fun x : S58 => (x.f0, x.f1))
theorem k58_open {w : World} {x : S58} {cs : List Value} (h : k58.K w x cs) : cs = [.int .i64 x.f0, .int .i64 x.f1] := by
 obtain ⟨_, _, rfl, rfl, rfl⟩ := h
 exact rfl
theorem k58_mk (w : World) (x : S58)  : k58.K w x [.int .i64 x.f0, .int .i64 x.f1] := ⟨[.int .i64 x.f0], [.int .i64 x.f1], rfl, rfl, rfl⟩
def rd_T58 (xs : List S58) (i : Int) : S58 := xs.getD i.toNat z58
theorem at_T58 {w : World} {A : Option Addr} {n : Nat} {xs : List S58} (h : Kd.C k58 w A n xs) (i : Int) (h0 : 0 ≤ i) (h1 : i < n) : ∃ ad , A = some ad ∧ w.cell? (ad.add (i.toNat * 2)) = some (.int .i64 (rd_T58 xs i).f0) ∧ w.cell? ⟨(ad.add (i.toNat * 2)).block, (ad.add (i.toNat * 2)).off + 1, none⟩ = some (.int .i64 (rd_T58 xs i).f1) := by
 obtain ⟨ad, c, e, _, hK, hc0⟩ := Kd.C_get h z58 i h0 h1
 have hc : ∀ j u, c[j]? = some u → w.cell? (ad.add (i.toNat * 2 + j)) = some u := hc0
 obtain rfl := k58_open hK
 exact ⟨ad, e, hc 0 _ rfl, by rw [← add_field _ _ 1 (by omega)]; exact hc 1 _ rfl⟩
/-! #### struct type 55 -/
structure S55 where
 f0 : Int
 f1 : Int
def z55 : S55 := ⟨(0 : Int), (0 : Int)⟩
def k55 : Kd S55 := Kd.iso (Kd.pair (Kd.int .i64) (Kd.int .i64)) (fun x : S55 => (x.f0, x.f1))
theorem k55_open {w : World} {x : S55} {cs : List Value} (h : k55.K w x cs) : cs = [.int .i64 x.f0, .int .i64 x.f1] := by
 obtain ⟨_, _, rfl, rfl, rfl⟩ := h
 exact rfl
theorem k55_openM {w : World} {base : Nat} {ok : Nat → Prop} {x : S55} {cs : List Value} (h : k55.M w base ok x cs) : cs = [.int .i64 x.f0, .int .i64 x.f1] := by
 obtain ⟨_, _, rfl, rfl, rfl⟩ := h
 exact rfl
theorem k55_mkM (w : World) (base : Nat) (ok : Nat → Prop) (x : S55)  : k55.M w base ok x [.int .i64 x.f0, .int .i64 x.f1] := ⟨[.int .i64 x.f0], [.int .i64 x.f1], rfl, rfl, rfl⟩
def rd_T55 (xs : List S55) (i : Int) : S55 := xs.getD i.toNat z55
theorem at_T55 {w : World} {A : Option Addr} {n : Nat} {xs : List S55} (h : Kd.C k55 w A n xs) (i : Int) (h0 : 0 ≤ i) (h1 : i < n) : ∃ ad , A = some ad ∧ w.cell? (ad.add (i.toNat * 2)) = some (.int .i64 (rd_T55 xs i).f0) ∧ w.cell? ⟨(ad.add (i.toNat * 2)).block, (ad.add (i.toNat * 2)).off + 1, none⟩ = some (.int .i64 (rd_T55 xs i).f1) := by
 obtain ⟨ad, c, e, _, hK, hc0⟩ := Kd.C_get h z55 i h0 h1
 have hc : ∀ j u, c[j]? = some u → w.cell? (ad.add (i.toNat * 2 + j)) = some u := hc0
 obtain rfl := k55_open hK
 exact ⟨ad, e, hc 0 _ rfl, by rw [← add_field _ _ 1 (by omega)]; exact hc 1 _ rfl⟩
/-! #### struct type 76 -/
structure S76 where
 f0 : Int
 f1 : Int
 f2 : Int
def z76 : S76 := ⟨(0 : Int), (0 : Int), (0 : Int)⟩
def k76 : Kd S76 := Kd.iso (Kd.pair (Kd.int .i64) (Kd.pair (Kd.int .i64) (Kd.int .i64))) (fun x : S76 => (x.f0, x.f1, x.f2))
theorem k76_open {w : World} {x : S76} {cs : List Value} (h : k76.K w x cs) : cs = [.int .i64 x.f0, .int .i64 x.f1, .int .i64 x.f2] := by
 obtain ⟨_, _, rfl, rfl, ⟨_, _, rfl, rfl, rfl⟩⟩ := h
 exact rfl
theorem k76_mkM (w : World) (base : Nat) (ok : Nat → Prop) (x : S76)  : k76.M w base ok x [.int .i64 x.f0, .int .i64 x.f1, .int .i64 x.f2] := ⟨[.int .i64 x.f0], [.int .i64 x.f1, .int .i64 x.f2], rfl, rfl, ⟨[.int .i64 x.f1], [.int .i64 x.f2], rfl, rfl, rfl⟩⟩
def rd_T76 (xs : List S76) (i : Int) : S76 := xs.getD i.toNat z76
theorem at_T76 {w : World} {A : Option Addr} {n : Nat} {xs : List S76} (h : Kd.C k76 w A n xs) (i : Int) (h0 : 0 ≤ i) (h1 : i < n) : ∃ ad , A = some ad ∧ w.cell? (ad.add (i.toNat * 3)) = some (.int .i64 (rd_T76 xs i).f0) ∧ w.cell? ⟨(ad.add (i.toNat * 3)).block, (ad.add (i.toNat * 3)).off + 1, none⟩ = some (.int .i64 (rd_T76 xs i).f1) ∧ w.cell? ⟨(ad.add (i.toNat * 3)).block, (ad.add (i.toNat * 3)).off + 2, none⟩ = some (.int .i64 (rd_T76 xs i).f2) := by
 obtain ⟨ad, c, e, _, hK, hc0⟩ := Kd.C_get h z76 i h0 h1
 have hc : ∀ j u, c[j]? = some u → w.cell? (ad.add (i.toNat * 3 + j)) = some u := hc0
 obtain rfl := k76_open hK
 exact ⟨ad, e, hc 0 _ rfl, by rw [← add_field _ _ 1 (by omega)]; exact hc 1 _ rfl, by rw [← add_field _ _ 2 (by omega)]; exact hc 2 _ rfl⟩
/-! ### spec_FormatInt: function 11 -/
def spec_FormatInt.l0 : Nat → Int → Bool → ByteArray → Option (ByteArray)
 | 0, _, _, _ => none
 | k + 1, x0, x3, x4 => if x0 = 0 then (if x3 = true then (if 1 + x4.size ≤ 9223372036854775807 then (some ((⟨#[45]⟩ : ByteArray) ++ x4)) else (none)) else (some x4)) else (if (Int.tmod x0 10) < 0 then ((some (([(wrap64 (48 + (wrap64 (-(Int.tmod x0 10))))) % 256] : List Int) : List Int)).bind fun y101 => (if (strOfNums y101).size + x4.size ≤ 9223372036854775807 then (spec_FormatInt.l0 k (wrap64 (Int.tdiv x0 10)) x3 ((strOfNums y101) ++ x4)) else (none))) else ((some (([(wrap64 (48 + (Int.tmod x0 10))) % 256] : List Int) : List Int)).bind fun y104 => (if (strOfNums y104).size + x4.size ≤ 9223372036854775807 then (spec_FormatInt.l0 k (wrap64 (Int.tdiv x0 10)) x3 ((strOfNums y104) ++ x4)) else (none))))
def spec_FormatInt.f (k : Nat) (a0 : Int) : Option (ByteArray) := if a0 = 0 then (some (⟨#[48]⟩ : ByteArray)) else (spec_FormatInt.l0 k a0 (decide (a0 < 0)) (⟨#[]⟩ : ByteArray))
set_option maxHeartbeats 8000000 in
set_option maxRecDepth 100000 in
theorem spec_FormatInt.calls (k : Nat) (a0 : Int) (r : ByteArray) (w : World) (h : spec_FormatInt.f k a0 = some r) :
  Calls Tryd.prog 11 #[.int .i64 a0] w fun e w' => e = .returned (.string r) ∧ Below w.heap.size w w' := by
 have HB := Aside0.mk (Below.refl w.heap.size w)
 have H : (if a0 = 0 then (some (⟨#[48]⟩ : ByteArray)) else (spec_FormatInt.l0 k a0 (decide (a0 < 0)) (⟨#[]⟩ : ByteArray))) = some r := h
 clear h
 by_cases c2 : a0 = 0
 ·rw [if_pos c2] at H
  have c2b0 : (a0 == 0) = true := beq_iff_eq.mpr c2
  have c2b1 : (a0 != 0) = false := bne_eq_false_iff_eq.mpr c2
  clear c2
  obtain rfl := Option.some.inj H
  go_enter Tryd.func11, Tryd.ntmps11
  go_wp2
  go_ret
  exact ⟨zE, zB⟩
 rw [if_neg c2] at H
 have c2b0 : (a0 == 0) = false := beq_eq_false_iff_ne.mpr c2
 have c2b1 : (a0 != 0) = true := bne_iff_ne.mpr c2
 have H' := Aside0.mk H; clear H
 go_enter Tryd.func11, Tryd.ntmps11
 go_wp2
 go_loopg [0, 4] k (fun kq v0 v4 w' => ∃ (x0_1 : Int) (x4_1 : ByteArray), v0 = .int .i64 x0_1 ∧ v4 = .string x4_1 ∧ Aside0 (spec_FormatInt.l0 kq x0_1 (decide (a0 < 0)) x4_1 = some r) ∧ Aside0 (kq ≤ k) ∧ Aside0 (Below w.heap.size w w'))
 case atStart => exact ⟨(a0), ((⟨#[]⟩ : ByteArray)), zF, zF, H', ⟨Nat.le_refl _⟩, ⟨zB⟩⟩
 case round =>
 clear H'
 try clear c2
 try clear c2b0
 try clear c2b1
 obtain ⟨x0_1, x4_1, rfl, rfl, HA, HK1, HB⟩ := hrel
 cases gk with
 | zero => exact absurd HA.out (by simp [spec_FormatInt.l0])
 | succ k1 =>
 have H := HA.out
 clear HA
 simp only [spec_FormatInt.l0] at H
 by_cases c3 : x0_1 = 0
 ·rw [if_pos c3] at H
  have c3b0 : (x0_1 == 0) = true := beq_iff_eq.mpr c3
  have c3b1 : (x0_1 != 0) = false := bne_eq_false_iff_eq.mpr c3
  clear c3
  by_cases c4 : (decide (a0 < 0)) = true
  ·rw [if_pos c4] at H
   have c4b0 : (decide (a0 < 0)) = true := c4
   clear c4
   by_cases c5 : 1 + x4_1.size ≤ 9223372036854775807
   ·rw [if_pos c5] at H
    have c5b0 := eq_true c5
    have c5b1 : decide (1 + x4_1.size ≤ 9223372036854775807) = true := decide_eq_true c5
    try have c5b2 : (9223372036854775807 < 1 + x4_1.size) = False := eq_false (Nat.not_lt.2 c5)
    obtain rfl := Option.some.inj H
    go_wp2
    all_goals first | (exfalso; have hdd := of_decide_eq_true c4b0; omega; done) | skip
    go_ret
    exact ⟨zE, zB⟩
   rw [if_neg c5] at H
   exact absurd H (by simp)
  rw [if_neg c4] at H
  have c4b0 : (decide (a0 < 0)) = false := by simpa using c4
  clear c4
  obtain rfl := Option.some.inj H
  go_wp2
  all_goals first | (exfalso; have hdd := of_decide_eq_false c4b0; omega; done) | skip
  go_ret
  exact ⟨zE, zB⟩
 rw [if_neg c3] at H
 have c3b0 : (x0_1 == 0) = false := beq_eq_false_iff_ne.mpr c3
 have c3b1 : (x0_1 != 0) = true := bne_iff_ne.mpr c3
 by_cases c6 : (Int.tmod x0_1 10) < 0
 ·rw [if_pos c6] at H
  have c6b0 : decide ((Int.tmod x0_1 10) < 0) = true := decide_eq_true c6
  clear c6
  obtain ⟨y101, hy101⟩ : ∃ y_ : List Int, y_ = (([(wrap64 (48 + (wrap64 (-(Int.tmod x0_1 10))))) % 256] : List Int)) := ⟨_, rfl⟩
  replace H : (if (strOfNums y101).size + x4_1.size ≤ 9223372036854775807 then (spec_FormatInt.l0 k1 (wrap64 (Int.tdiv x0_1 10)) (decide (a0 < 0)) ((strOfNums y101) ++ x4_1)) else (none)) = some r := by first | (rw [hy101]; with_reducible exact H) | (have H2_ := (Option.bind_some _ _).symm.trans H; rw [hy101]; with_reducible exact H2_) | (have H2_ := (Option.bind_some _ _).symm.trans H; with_reducible exact H2_) | with_reducible exact H | (rw [hy101]; exact H) | exact H
  have Ny101 := Aside0.mk hy101
  clear hy101
  by_cases c7 : (strOfNums y101).size + x4_1.size ≤ 9223372036854775807
  ·rw [if_pos c7] at H
   have c7b0 := eq_true c7
   have c7b1 : decide ((strOfNums y101).size + x4_1.size ≤ 9223372036854775807) = true := decide_eq_true c7
   try have c7b2 : (9223372036854775807 < (strOfNums y101).size + x4_1.size) = False := eq_false (Nat.not_lt.2 c7)
   have H' := Aside0.mk H; clear H
   go_wp2_with (first | ((with_reducible refine gate_dst (N := 21) rfl ?_); refine Kd.R_lit (Kd.int .u8) _ 5 ?hg (N := 21) ?hd (xs := ([(wrap64 (48 + (wrap64 (-(Int.tmod x0_1 10))))) % 256] : List Int)) (inner := [.int .u8 ((wrap64 (48 + (wrap64 (-(Int.tmod x0_1 10))))) % 256)]) (ok := fun _ => True) (okp := fun _ => True) ?hr ?hp (fun _ hk => hk) trivial (Below.refl _ _) (Nat.le_refl _) (by simp) ?_; (case hd => rfl); (case hg => rfl); (case hr => first | (go_simp; done) | (go_simp; rfl)); (case hp => exact (Reps.one (show Kd.M (Kd.int .u8) _ _ _ ((wrap64 (48 + (wrap64 (-(Int.tmod x0_1 10))))) % 256) [.int .u8 ((wrap64 (48 + (wrap64 (-(Int.tmod x0_1 10))))) % 256)] from rfl) (Reps.none _ _))); intro v102 w8 ho9 hb hg_ hnew_; clear hg_ hnew_; (first | rw [← Ny101.out] at ho9 | (simp only [Int.reduceToNat] at ho9; rw [← Ny101.out] at ho9)); have HO103 := Aside0.mk (Kd.R_lower ho9 (below_size zB)); replace HB := zX hb; clear hb ho9; have hcv10 := own_string (P := Tryd.prog) Tryd.underlying41 Tryd.underlying5 Tryd.underlying9 (Kd.own_of_R HO103.out)))
   go_roundg k1
   case measure => have := HK1.out; omega
   case rel => exact ⟨(wrap64 (Int.tdiv x0_1 10)), ((strOfNums y101) ++ x4_1), zF, zF, H', ⟨by have := HK1.out; omega⟩, ⟨zB⟩⟩
  rw [if_neg c7] at H
  exact absurd H (by simp)
 rw [if_neg c6] at H
 have c6b0 : decide ((Int.tmod x0_1 10) < 0) = false := decide_eq_false c6
 clear c6
 obtain ⟨y104, hy104⟩ : ∃ y_ : List Int, y_ = (([(wrap64 (48 + (Int.tmod x0_1 10))) % 256] : List Int)) := ⟨_, rfl⟩
 replace H : (if (strOfNums y104).size + x4_1.size ≤ 9223372036854775807 then (spec_FormatInt.l0 k1 (wrap64 (Int.tdiv x0_1 10)) (decide (a0 < 0)) ((strOfNums y104) ++ x4_1)) else (none)) = some r := by first | (rw [hy104]; with_reducible exact H) | (have H2_ := (Option.bind_some _ _).symm.trans H; rw [hy104]; with_reducible exact H2_) | (have H2_ := (Option.bind_some _ _).symm.trans H; with_reducible exact H2_) | with_reducible exact H | (rw [hy104]; exact H) | exact H
 have Ny104 := Aside0.mk hy104
 clear hy104
 by_cases c11 : (strOfNums y104).size + x4_1.size ≤ 9223372036854775807
 ·rw [if_pos c11] at H
  have c11b0 := eq_true c11
  have c11b1 : decide ((strOfNums y104).size + x4_1.size ≤ 9223372036854775807) = true := decide_eq_true c11
  try have c11b2 : (9223372036854775807 < (strOfNums y104).size + x4_1.size) = False := eq_false (Nat.not_lt.2 c11)
  have H' := Aside0.mk H; clear H
  go_wp2_with (first | ((with_reducible refine gate_dst (N := 21) rfl ?_); refine Kd.R_lit (Kd.int .u8) _ 5 ?hg (N := 21) ?hd (xs := ([(wrap64 (48 + (Int.tmod x0_1 10))) % 256] : List Int)) (inner := [.int .u8 ((wrap64 (48 + (Int.tmod x0_1 10))) % 256)]) (ok := fun _ => True) (okp := fun _ => True) ?hr ?hp (fun _ hk => hk) trivial (Below.refl _ _) (Nat.le_refl _) (by simp) ?_; (case hd => rfl); (case hg => rfl); (case hr => first | (go_simp; done) | (go_simp; rfl)); (case hp => exact (Reps.one (show Kd.M (Kd.int .u8) _ _ _ ((wrap64 (48 + (Int.tmod x0_1 10))) % 256) [.int .u8 ((wrap64 (48 + (Int.tmod x0_1 10))) % 256)] from rfl) (Reps.none _ _))); intro v105 w12 ho13 hb hg_ hnew_; clear hg_ hnew_; (first | rw [← Ny104.out] at ho13 | (simp only [Int.reduceToNat] at ho13; rw [← Ny104.out] at ho13)); have HO106 := Aside0.mk (Kd.R_lower ho13 (below_size zB)); replace HB := zX hb; clear hb ho13; have hcv14 := own_string (P := Tryd.prog) Tryd.underlying41 Tryd.underlying5 Tryd.underlying9 (Kd.own_of_R HO106.out)))
  go_roundg k1
  case measure => have := HK1.out; omega
  case rel => exact ⟨(wrap64 (Int.tdiv x0_1 10)), ((strOfNums y104) ++ x4_1), zF, zF, H', ⟨by have := HK1.out; omega⟩, ⟨zB⟩⟩
 rw [if_neg c11] at H
 exact absurd H (by simp)
end Go.Proofs.YthhgcdfdjlijjaaDoor.PX
namespace Go.Proofs.YthhgcdfdjlijjaaDoor.M
open Go.RowKit Go.Proofs.YthhgcdfdjlijjaaDoorW.PrintWords
section
variable {α β : Type} {r : α} {r' : β}
theorem ev_pos {c : Prop} [Decidable c] {a b : Nat → Option α} (h : c) (k : Ev a r) : Ev (fun n => if c then a n else b n) r := Ev.congr (fun _ => if_pos h) k
theorem ev_neg {c : Prop} [Decidable c] {a b : Nat → Option α} (h : ¬ c) (k : Ev b r) : Ev (fun n => if c then a n else b n) r := Ev.congr (fun _ => if_neg h) k
theorem ev_call {x : Option α} {a : α} {f : Nat → α → Option β} (h : x = some a) (k : Ev (fun n => f n a) r') : Ev (fun n => x.bind (f n)) r' := Ev.congr (fun n => by rw [h]; rfl) k
theorem ev_cast {g : Nat → Option α} {a b : α} (h : Ev g a) (e : a = b) : Ev g b := e ▸ h
theorem ev_step {g : Nat → Option α} (k : Ev (fun n => g (n + 1)) r) : Ev g r := Ev.step (fun _ => rfl) k
end
theorem wrap_id {x : Int} (h0 : -9223372036854775808 ≤ x) (h1 : x ≤ 9223372036854775807) : wrap64 x = x := by unfold wrap64; omega
theorem size_list (t : ByteArray) : t.size = t.data.toList.length := rfl
theorem bt_nat {t : ByteArray} {i : Nat} (h : i < t.data.toList.length) : bt t (i : Int) = ((t.data.toList[i]).toNat : Int) := by
  have h' : i < t.size := h
  unfold bt
  simp only [Int.toNat_natCast, h', dite_true]
  rfl
def isSg (c : UInt8) : Bool := c = 43 || c = 45
def cntW (n : Int) : Int := wrap64 (Int.tdiv (wrap64 ((wrap64 (n * (wrap64 (n - 1)))) * (wrap64 (n - 2)))) 6)
def areOk (n : Int) (t : ByteArray) : Bool := decide (3 ≤ n) && decide (n ≤ 7) && decide ((t.size : Int) = cntW n) && t.data.toList.all isSg
theorem u8_43 (c : UInt8) : ((c.toNat : Int) = 43) ↔ c = 43 := by
  constructor
  · intro h; apply UInt8.toNat_inj.1; show c.toNat = 43; omega
  · rintro rfl; rfl
theorem u8_45 (c : UInt8) : ((c.toNat : Int) = 45) ↔ c = 45 := by
  constructor
  · intro h; apply UInt8.toNat_inj.1; show c.toNat = 45; omega
  · rintro rfl; rfl
theorem areOk_iff (n : Int) (t : ByteArray) : areOk n t = true ↔ (3 ≤ n ∧ n ≤ 7) ∧ (t.size : Int) = cntW n ∧ ∀ c ∈ t.data.toList, c = 43 ∨ c = 45 := by
  simp only [areOk, Bool.and_eq_true, decide_eq_true_eq, List.all_eq_true, isSg, Bool.or_eq_true, and_assoc]
end Go.Proofs.YthhgcdfdjlijjaaDoor.M
namespace Go.Proofs.YthhgcdfdjlijjaaDoor.M
open Go.RowKit Go.Proofs.YthhgcdfdjlijjaaDoorW.PrintWords Go.Proofs.YthhgcdfdjlijjaaDoor.PX Go.Proofs.YthhgcdfdjlijjaaDoor.G Go.Proofs.YthhgcdfdjlijjaaDoorW.PrintMore
open Go.Lib (decDigits itoa parseUint10 parseMag atoiAll)
theorem dec_one {u : Nat} (h : u < 10) : decDigits u = [UInt8.ofNat (48 + u)] := by rw [decDigits, dif_pos h]
theorem dec_step {u : Nat} (h : ¬ u < 10) : decDigits u = decDigits (u / 10) ++ [UInt8.ofNat (48 + u % 10)] := by rw [decDigits, dif_neg h]
theorem dig_nat {d : Nat} (h : d < 10) : (UInt8.ofNat (48 + d)).toNat = 48 + d := by
  rw [UInt8.toNat_ofNat']
  exact Nat.mod_eq_of_lt (by omega)
theorem dec_len (d : Nat) : ∀ u, u < 10 ^ (d + 1) → (decDigits u).length ≤ d + 1 := by
  induction d with
  | zero => intro u h; rw [dec_one (by simpa using h)]; exact Nat.le_refl _
  | succ d ih =>
    intro u h
    by_cases g : u < 10
    · rw [dec_one g, List.length_singleton]; omega
    · have := ih (u / 10) (by rw [Nat.pow_succ] at h; omega)
      rw [dec_step g, List.length_append, List.length_singleton]; omega
theorem dec_pos (u : Nat) : 1 ≤ (decDigits u).length := by
  by_cases g : u < 10
  · rw [dec_one g]; exact Nat.le_refl _
  · rw [dec_step g, List.length_append, List.length_singleton]; omega
theorem dec_dig (d : Nat) : ∀ u, u < 10 ^ (d + 1) → ∀ c ∈ decDigits u, 48 ≤ c.toNat ∧ c.toNat ≤ 57 := by
  induction d with
  | zero =>
    intro u h c hc
    have h : u < 10 := by simpa using h
    rw [dec_one h, List.mem_singleton] at hc
    rw [hc, dig_nat h]
    omega
  | succ d ih =>
    intro u h c hc
    by_cases g : u < 10
    · rw [dec_one g, List.mem_singleton] at hc
      rw [hc, dig_nat g]
      omega
    · rw [dec_step g, List.mem_append, List.mem_singleton] at hc
      rcases hc with hc | hc
      · exact ih (u / 10) (by rw [Nat.pow_succ] at h; omega) c hc
      · rw [hc, dig_nat (Nat.mod_lt _ (by omega))]
        have := Nat.mod_lt u (show 0 < 10 by omega)
        omega
/-! ### the library's reading -/
theorem parse_app (l r : List UInt8) : ∀ acc a, parseUint10 acc l = .ok a → parseUint10 acc (l ++ r) = parseUint10 a r := by
  induction l with
  | nil => intro acc a h; simp only [parseUint10] at h; cases h; rfl
  | cons c l ih =>
    intro acc a h
    simp only [parseUint10, List.cons_append] at h ⊢
    split at h
    · rename_i h1
      rw [if_pos h1]
      split at h
      · cases h
      · rename_i h2
        rw [if_neg h2]
        split at h
        · cases h
        · rename_i h3
          rw [if_neg h3]
          exact ih _ _ h
    · cases h
theorem parse_dec (d : Nat) : ∀ u, u < 10 ^ (d + 1) → u < 18446744073709551616 → parseUint10 0 (decDigits u) = .ok u := by
  have one : ∀ a x : Nat, x < 10 → a < 1844674407370955162 → a * 10 + x < 18446744073709551616 → parseUint10 a [UInt8.ofNat (48 + x)] = .ok (a * 10 + x) := by
    intro a x hx h1 h2
    simp only [parseUint10, dig_nat hx]
    rw [if_pos (by omega), if_neg (by omega), if_neg (by omega)]
    congr 1
    omega
  induction d with
  | zero =>
    intro u h _
    have h : u < 10 := by simpa using h
    rw [dec_one h, one 0 u h (by omega) (by omega), Nat.zero_mul, Nat.zero_add]
  | succ d ih =>
    intro u h h2
    by_cases g : u < 10
    · rw [dec_one g, one 0 u g (by omega) (by omega), Nat.zero_mul, Nat.zero_add]
    · rw [dec_step g, parse_app _ _ _ _ (ih (u / 10) (by rw [Nat.pow_succ] at h; omega) (by omega)), one (u / 10) (u % 10) (Nat.mod_lt _ (by omega)) (by omega) (by omega)]
      congr 1
      omega
theorem dec_ne (u : Nat) : decDigits u ≠ [] := fun h => by have := dec_pos u; rw [h] at this; exact absurd this (by decide)
theorem big20 {u : Nat} (h : u < 18446744073709551616) : u < 10 ^ (19 + 1) := by omega
theorem mag_dec {u : Nat} (h : u < 18446744073709551616) : parseMag (decDigits u) = .ok u := by
  unfold parseMag
  rw [if_neg (dec_ne u)]
  exact parse_dec 19 u (big20 h) h
theorem dec_head {u : Nat} (h : u < 18446744073709551616) : ∃ c r, decDigits u = c :: r ∧ 48 ≤ c.toNat ∧ c.toNat ≤ 57 := by
  cases e : decDigits u with
  | nil => exact absurd e (dec_ne u)
  | cons c r =>
    have := dec_dig 19 u (big20 h) c (by rw [e]; exact List.mem_cons_self)
    exact ⟨c, r, rfl, this⟩
theorem atoi_itoa {n : Int} (h0 : -9223372036854775808 ≤ n) (h1 : n ≤ 9223372036854775807) : atoiAll (itoa n) = .ok n := by
  unfold itoa
  by_cases g : n < 0
  · rw [if_pos g, Lib.atoiAll_minus, mag_dec (by omega)]
    unfold Lib.signed
    simp only
    rw [if_neg (by omega)]
    congr 1
    omega
  · rw [if_neg g]
    obtain ⟨c, r, e, c1, c2⟩ := dec_head (u := n.toNat) (by omega)
    have hm := mag_dec (u := n.toNat) (by omega)
    rw [e] at hm ⊢
    rw [Lib.atoiAll_plain c r (by omega) (by omega), hm]
    unfold Lib.signless
    simp only
    rw [if_neg (by omega)]
    congr 1
    omega
theorem itoaB_data (n : Int) : (itoaB n).data.toList = itoa n := rfl
theorem itoaB_inj {m n : Int} (hm : -9223372036854775808 ≤ m ∧ m ≤ 9223372036854775807) (hn : -9223372036854775808 ≤ n ∧ n ≤ 9223372036854775807) (h : itoaB m = itoaB n) : m = n := by
  have e1 := atoi_itoa hm.1 hm.2
  have e2 := atoi_itoa hn.1 hn.2
  rw [← itoaB_data, h, itoaB_data, e2] at e1
  injection e1 with e1
  exact e1.symm
/-! ### the reference's text -/
theorem app_list (a b : List UInt8) : (⟨a.toArray⟩ : ByteArray) ++ ⟨b.toArray⟩ = ⟨(a ++ b).toArray⟩ := by
  apply ByteArray.ext
  simp
theorem fmt_loop (neg : Bool) (d : Nat) : ∀ (x : Int) (l : List UInt8), x.natAbs < 10 ^ d → l.length + d ≤ 1000 → -9223372036854775808 ≤ x → x ≤ 9223372036854775807 →
    Ev (fun k => spec_FormatInt.l0 k x neg ⟨l.toArray⟩) ⟨((if neg = true then [45] else []) ++ ((if x = 0 then [] else decDigits x.natAbs) ++ l)).toArray⟩ := by
  have exit : ∀ (l : List UInt8), l.length ≤ 1000 → Ev (fun k => spec_FormatInt.l0 k 0 neg ⟨l.toArray⟩) ⟨((if neg = true then [45] else []) ++ ((if (0 : Int) = 0 then [] else decDigits (0 : Int).natAbs) ++ l)).toArray⟩ := by
    intro l hl
    refine ev_step ?_
    simp only [spec_FormatInt.l0]
    refine ev_pos (by first | rfl | trivial) ?_
    cases neg with
    | true =>
      refine ev_pos (by first | rfl | trivial) (ev_pos ?_ (ev_cast (Ev.now _) ?_))
      · show 1 + l.length ≤ _
        omega
      · exact app_list [45] l
    | false => exact ev_neg (by simp) (Ev.now _)
  induction d with
  | zero =>
    intro x l hx hl _ _
    have : x = 0 := by simp at hx; exact hx
    subst this
    exact exit l (by omega)
  | succ d ih =>
    intro x l hx hl h0 h1
    by_cases g : x = 0
    · subst g
      exact exit l (by omega)
    · have ml := Nat.mod_lt x.natAbs (show 0 < 10 by omega)
      have td : (Int.tdiv x 10).natAbs = x.natAbs / 10 := by
        rcases Int.natAbs_eq x with e | e
        · rw [e]; exact Int.natAbs_natCast _
        · rw [e, Int.neg_tdiv, Int.natAbs_neg, Int.natAbs_neg]; exact Int.natAbs_natCast _
      have tm : Int.tmod x 10 = if x < 0 then -((x.natAbs % 10 : Nat) : Int) else ((x.natAbs % 10 : Nat) : Int) := by
        rcases Int.natAbs_eq x with e | e
        · rw [if_neg (by omega)]
          conv => lhs; rw [e]
          rfl
        · rw [if_pos (by omega)]
          conv => lhs; rw [e, Int.neg_tmod]
          rfl
      have tz : Int.tdiv x 10 = 0 ↔ x.natAbs < 10 := by omega
      have tb : -9223372036854775808 ≤ Int.tdiv x 10 ∧ Int.tdiv x 10 ≤ 9223372036854775807 := by
        have : x.natAbs ≤ 9223372036854775808 := by omega
        omega
      have nx := ih (Int.tdiv x 10) (UInt8.ofNat (48 + x.natAbs % 10) :: l) (by rw [td]; rw [Nat.pow_succ] at hx; omega) (by rw [List.length_cons]; omega) tb.1 tb.2
      have fin : ((if neg = true then [45] else []) ++ ((if Int.tdiv x 10 = 0 then [] else decDigits (Int.tdiv x 10).natAbs) ++ UInt8.ofNat (48 + x.natAbs % 10) :: l) : List UInt8) = (if neg = true then [45] else []) ++ ((if x = 0 then [] else decDigits x.natAbs) ++ l) := by
        rw [if_neg g, td]
        by_cases s : x.natAbs < 10
        · rw [if_pos (tz.2 s), dec_one s, Nat.mod_eq_of_lt s]
          rfl
        · rw [if_neg (fun e => s (tz.1 e)), dec_step s, List.append_assoc]
          rfl
      rw [fin] at nx
      have go : ∀ y : Int, y = 48 + ((x.natAbs % 10 : Nat) : Int) → Ev (fun k => (some (([y % 256] : List Int) : List Int)).bind fun y101 => (if (strOfNums y101).size + (⟨l.toArray⟩ : ByteArray).size ≤ 9223372036854775807 then (spec_FormatInt.l0 k (wrap64 (Int.tdiv x 10)) neg ((strOfNums y101) ++ ⟨l.toArray⟩)) else (none)))
          ⟨((if neg = true then [45] else []) ++ ((if x = 0 then [] else decDigits x.natAbs) ++ l)).toArray⟩ := by
        intro y hy
        have e : y % 256 = ((48 + x.natAbs % 10 : Nat) : Int) := by omega
        rw [e]
        refine ev_call rfl (ev_pos ?_ ?_)
        · show 1 + l.length ≤ _
          omega
        · rw [wrap_id tb.1 tb.2]
          have e2 : strOfNums [((48 + x.natAbs % 10 : Nat) : Int)] ++ (⟨l.toArray⟩ : ByteArray) = ⟨(UInt8.ofNat (48 + x.natAbs % 10) :: l).toArray⟩ := app_list [UInt8.ofNat (48 + x.natAbs % 10)] l
          rw [e2]
          exact nx
      refine ev_step ?_
      simp only [spec_FormatInt.l0]
      refine ev_neg g ?_
      by_cases s : Int.tmod x 10 < 0
      · refine ev_pos s (go _ ?_)
        rw [tm] at s ⊢
        split at s
        · rename_i s'
          rw [if_pos s', wrap_id (x := -(-((x.natAbs % 10 : Nat) : Int))) (by omega) (by omega), wrap_id (by omega) (by omega)]
          omega
        · omega
      · refine ev_neg s (go _ ?_)
        rw [tm] at s ⊢
        split at s
        · rename_i s'
          rw [if_pos s', wrap_id (by omega) (by omega)]
          omega
        · rename_i s'
          rw [if_neg s', wrap_id (by omega) (by omega)]
theorem spec_fmt {n : Int} (h0 : -9223372036854775808 ≤ n) (h1 : n ≤ 9223372036854775807) : Ev (fun k => spec_FormatInt.f k n) (itoaB n) := by
  unfold spec_FormatInt.f
  by_cases g : n = 0
  · subst g
    exact ev_pos rfl (ev_cast (Ev.now _) (show (⟨#[48]⟩ : ByteArray) = ⟨(decDigits 0).toArray⟩ by rw [dec_one (by decide)]; rfl))
  · refine ev_neg g (ev_cast (fmt_loop (decide (n < 0)) 19 n [] (by omega) (by decide) h0 h1) ?_)
    unfold itoaB itoa
    rw [if_neg g, List.append_nil]
    by_cases s : n < 0
    · rw [decide_eq_true s, if_pos rfl, if_pos s]
      rfl
    · rw [decide_eq_false s, if_neg (by simp), if_neg s, show n.natAbs = n.toNat by omega]
      rfl
theorem impl_fmt {n : Int} (h0 : -9223372036854775808 ≤ n) (h1 : n ≤ 9223372036854775807) : impl_FormatInt.f n = some (itoaB n) := if_pos ⟨h0, h1⟩
end Go.Proofs.YthhgcdfdjlijjaaDoor.M
