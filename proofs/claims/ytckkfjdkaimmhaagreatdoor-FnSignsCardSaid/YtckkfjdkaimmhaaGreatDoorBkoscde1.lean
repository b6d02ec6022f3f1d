/- A part of proofs about signs and points: what some functions answer, and that their calls answer so. No condition. -/
import Derived.Test.YtckkfjdkaimmhaaGreatDoorProg
import Derived.Below
import Derived.Deep.Draws
import Derived.Deep.AppendLies
import Derived.Maps.AppendAt
import Derived.OwnWalk
import Derived.Laws.BytesArg
import Derived.Laws.MakeOwn
import Derived.Laws.OwnMore
import Derived.Deep.OwnRows
import Derived.Tactics
import Derived.Lib.ConvBytes
import Derived.Laws.Slices
import Derived.WalkKit
import Derived.KernelRfl
import Derived.RowKit3
import Derived.Deep.LoopGhost
import Derived.Deep.QuietTactic
import Derived.BigQuiet
import Derived.WideLaws
import Derived.Deep.DeepCutAuto
import Derived.Deep.CutBlock
import Derived.Deep.RegionHeld3
import Derived.Laws.Rows
import Derived.Lib.AppendStr
import Derived.ArgAppend
import Derived.Laws.IdiomCopy
import Derived.OrdersHeld
import Derived.Laws.BitsLemmas
import Derived.RowKit
import Derived.Laws.Tables
import Derived.Shelf.Strconv.Itoa3
import Derived.Shelf.Strconv.AtoiAll
import Derived.Shelf.Strings.Cut
import Derived.Shelf.Strings.OnBuilder
import Derived.Lib.SmallJoins
import Derived.Lib.AppendIntMem
import Derived.Test.YtckkfjdkaimmhaaGreatDoorRows
import Derived.ProofKit
import Derived.LaidMore
import Derived.OpenShut
import Derived.Stop.Joined
import Derived.Stop.LaidErr
import Derived.Lib.LaidTab
import Derived.LaidHandle
import Derived.Laws.IdiomStrings
import Derived.LoopTactic
import Derived.RegionTactic
import Derived.Outline
import Derived.Test.YtckkfjdkaimmhaaGreatDoorV1
set_option linter.unusedVariables false
set_option linter.unusedSimpArgs false
namespace Go.Proofs.YtckkfjdkaimmhaaGreatDoor.G
open Go.RowKit Go.Proofs.YtckkfjdkaimmhaaGreatDoorW.PrintWords
theorem jJa (A : Option Addr) (n n' c c' : Nat) : (Value.slice A n c).ownBlock = (Value.slice A n' c').ownBlock := by cases A <;> rfl
@[reducible] def jKf : Value → Value
 | .slice A _ _ => .pointer A
 | v => v
def rd3 (l : List Int) (i j k : Int) : Int := rd l (1 + i * 49 + j * 7 + k)
def jAp (n : Int) : Array Value := (nums .i64 (n :: List.replicate 343 (0 : Int))).toArray
set_option maxRecDepth 100000 in
theorem jAf (n : Int) : Tryz.prog.built 74 [(0, .int .i64 n)] = some (jAp n) := by kernel_rfl
section
variable {P : Program} {ops : Array Oper} {rest : List Oper} {o : Oper} {a : Act} {Q : Exit → Act → World → Prop}
theorem Vu {W : World} {T s : Nat} {n : Int} (hgd : o.guard = none) (ho : o.op = .build T #[(0, .tmp s)]) (hx : a.eval (.tmp s) = .int .i64 n)
  (hT : ∀ n : Int, P.built T [(0, .int .i64 n)] = some (jAp n)) (h : wpList P ops Q rest (a.put o.dst (.agg (jAp n))) W) : wpList P ops Q (o :: rest) a W := by
 refine wpList_plain hgd fun K hK => ?_
 have e : P.built T (#[((0 : Nat), Operand.tmp s)].map fun (x : Nat × Operand) => (x.1, a.eval x.2)).toList = some (jAp n) := by
  simp only [List.map_toArray, List.map_cons, List.map_nil, hx]; exact hT n
 refine wp_build T _ ho (by rw [e]; rfl) ?_
 rw [e]
 exact hK _ _ h
theorem jKm {w : World} {g : Nat} {n : Int} {T base : Nat} (h : w.heap[g]? = some (.cells (jAp n) T (0, 0))) (hb : base ≤ g) :
  Kd.R (Kd.int .i64) T w base (fun _ => True) (.slice (some ⟨g, 0, none⟩) (n :: List.replicate 343 (0 : Int)).length 344) (n :: List.replicate 343 (0 : Int)) := by
 have hl : (n :: List.replicate 343 (0 : Int)).length = 344 := by rw [List.length_cons, List.length_replicate]
 refine Kd.R_of_own (enc := Value.int .i64) (h1 := fun _ => rfl) ?_ (fun _ _ => trivial)
 generalize hx : (n :: List.replicate 343 (0 : Int)) = xs at hl
 have hc : jAp n = (nums .i64 xs).toArray := by rw [← hx]; rfl
 rw [hc] at h
 refine ⟨by rw [Nat.mul_one]; exact List.length_map .., .inr ⟨g, 344, (nums .i64 xs).toArray, rfl, hb, h, by omega, by decide, by rw [List.size_toArray, nums_length, hl], ?_⟩⟩
 rw [List.toList_toArray, Nat.mul_one]
 exact List.take_of_length_le (by rw [nums_length]; exact Nat.le_refl _)
theorem Kn {W : World} {n : Int} {T N : Nat} (hgd : o.guard = none) (_hd : o.dst = some N)
  (hrun : (execOp a.eval o).run P W = .ok (.value (.pointer (some ⟨W.heap.size, 0, none⟩))) (W.alloc (.cells (jAp n) T (0, 0)))) (base : Nat) (hb : base ≤ W.heap.size)
  (h : ∀ v w1, Kd.R (Kd.int .i64) T w1 base (fun _ => True) v (n :: List.replicate 343 (0 : Int)) → Below W.heap.size W w1 → wpList P ops Q rest (a.put o.dst (jKf v)) w1) : wpList P ops Q (o :: rest) a W :=
 Kd.event_run hgd hrun (h _ _ (jKm (jEm W _) hb) (Qv (Below.refl _ _) _))
end
end Go.Proofs.YtckkfjdkaimmhaaGreatDoor.G
namespace Go.Proofs
open Go.Shelf
set_option linter.unusedVariables false
open Go.RowKit in
open Go.RowKit in
def Tryz.laysM171_ren : Go.Shelf.Ren := ⟨fun | 171 => 108 | 243 => 118 | 246 => 136 | 283 => 153 | 284 => 154 | 285 => 155 | 286 => 156 | 129 => 130 | 317 => 165 | 318 => 166 | 319 => 167 | 320 => 168 | 337 => 171 | 338 => 172 | n => n, fun | 3 => 3 | 9 => 9 | 2 => 2 | 4 => 4 | 171 => 162 | 0 => 0 | 53 => 140 | 37 => 22 | 5 => 5 | 173 => 164 | 212 => 179 | 51 => 138 | 20 => 20 | 213 => 180 | 46 => 121 | 232 => 186 | 233 => 187 | n => n, fun | 17 => 3 | 18 => 4 | 19 => 5 | n => n⟩
theorem Tryz.laysM171 : Go.Proofs.LaysM.n171 Tryz.prog Tryz.laysM171_ren := {
 mixed := by kernel_rfl
 f129 := Tryz.func130.trans (congrArg some (by kernel_rfl))
 f171 := Tryz.func108.trans (congrArg some (by kernel_rfl))
 f243 := Tryz.func118.trans (congrArg some (by kernel_rfl))
 f246 := Tryz.func136.trans (congrArg some (by kernel_rfl))
 f283 := Tryz.func153.trans (congrArg some (by kernel_rfl))
 f284 := Tryz.func154.trans (congrArg some (by kernel_rfl))
 f285 := Tryz.func155.trans (congrArg some (by kernel_rfl))
 f286 := Tryz.func156.trans (congrArg some (by kernel_rfl))
 f317 := Tryz.func165.trans (congrArg some (by kernel_rfl))
 f318 := Tryz.func166.trans (congrArg some (by kernel_rfl))
 f319 := Tryz.func167.trans (congrArg some (by kernel_rfl))
 f320 := Tryz.func168.trans (congrArg some (by kernel_rfl))
 f337 := Tryz.func171.trans (congrArg some (by kernel_rfl))
 f338 := Tryz.func172.trans (congrArg some (by kernel_rfl))
 t0 := Tryz.underlying0
 a0 := Tryz.isAgg0
 z0 := Tryz.sizeOf0
 v0 := Tryz.zeroValue0
 t2 := Tryz.underlying2
 a2 := Tryz.isAgg2
 z2 := Tryz.sizeOf2
 v2 := Tryz.zeroValue2
 t3 := Tryz.underlying3
 a3 := Tryz.isAgg3
 z3 := Tryz.sizeOf3
 v3 := Tryz.zeroValue3
 t4 := Tryz.underlying4
 a4 := Tryz.isAgg4
 z4 := Tryz.sizeOf4
 v4 := Tryz.zeroValue4
 t5 := Tryz.underlying5
 a5 := Tryz.isAgg5
 z5 := Tryz.sizeOf5
 v5 := Tryz.zeroValue5
 t9 := Tryz.underlying9
 a9 := Tryz.isAgg9
 z9 := Tryz.sizeOf9
 v9 := Tryz.zeroValue9
 t20 := Tryz.underlying20
 a20 := Tryz.isAgg20
 z20 := Tryz.sizeOf20
 v20 := Tryz.zeroValue20
 t37 := Tryz.underlying22
 a37 := Tryz.isAgg22
 z37 := Tryz.sizeOf22
 v37 := Tryz.zeroValue22
 t46 := Tryz.underlying121
 a46 := Tryz.isAgg121
 z46 := Tryz.sizeOf121
 v46 := Tryz.zeroValue121
 t51 := Tryz.underlying138
 a51 := Tryz.isAgg138
 z51 := Tryz.sizeOf138
 v51 := Tryz.zeroValue138
 t53 := Tryz.underlying140
 a53 := Tryz.isAgg140
 z53 := Tryz.sizeOf140
 v53 := Tryz.zeroValue140
 t171 := Tryz.underlying162
 a171 := Tryz.isAgg162
 z171 := Tryz.sizeOf162
 v171 := Tryz.zeroValue162
 t173 := Tryz.underlying164
 a173 := Tryz.isAgg164
 z173 := Tryz.sizeOf164
 v173 := Tryz.zeroValue164
 t212 := Tryz.underlying179
 a212 := Tryz.isAgg179
 z212 := Tryz.sizeOf179
 v212 := Tryz.zeroValue179
 t213 := Tryz.underlying180
 a213 := Tryz.isAgg180
 z213 := Tryz.sizeOf180
 t232 := Tryz.underlying186
 a232 := Tryz.isAgg186
 z232 := Tryz.sizeOf186
 v232 := Tryz.zeroValue186
 t233 := Tryz.underlying187
 a233 := Tryz.isAgg187
 z233 := Tryz.sizeOf187
 v233 := Tryz.zeroValue187
 g17 := by kernel_rfl
 g18 := by kernel_rfl
 g19 := by kernel_rfl
 i0 := by kernel_rfl
 i2 := by kernel_rfl
 i3 := by kernel_rfl
 i4 := by kernel_rfl
 i5 := by kernel_rfl
 i9 := by kernel_rfl
 i20 := by kernel_rfl
 i37 := by kernel_rfl
 i46 := by kernel_rfl
 i51 := by kernel_rfl
 i53 := by kernel_rfl
 i171 := by kernel_rfl
 i173 := by kernel_rfl
 i212 := by kernel_rfl
 i232 := by kernel_rfl
 i233 := by kernel_rfl
 m17 := by kernel_rfl
 m18 := by kernel_rfl
 m19 := by kernel_rfl }
open Go.RowKit Go.Sort Go.Lib in
theorem Tryz.strconv_Itoa (n : Int) (h0 : -9223372036854775808 ≤ n) (h1 : n ≤ 9223372036854775807) (w : World) (htab : Lib.TabIs Tryz.prog w "internal/strconv.uint64pow10" .u64 Lib.pow10Tab) :
  Calls Tryz.prog 108 #[.int .i64 n] w fun e w' => e = .returned (.string ⟨(Lib.itoa n).toArray⟩) ∧ ∃ k os, w' = grow (w.drewN k) os := Any.strconv_Itoa Tryz.laysM171 n h0 h1 w htab
def Tryz.laysC172_ren : Go.Shelf.Ren := ⟨fun | 172 => 117 | 244 => 134 | 245 => 135 | 247 => 148 | 279 => 149 | 280 => 150 | 281 => 151 | 282 => 152 | 287 => 162 | 316 => 163 | 171 => 108 | 205 => 164 | 321 => 169 | 322 => 170 | 243 => 118 | 246 => 136 | 283 => 153 | 284 => 154 | 285 => 155 | 286 => 156 | 129 => 130 | 317 => 165 | 318 => 166 | 319 => 167 | 320 => 168 | 337 => 171 | 338 => 172 | n => n, fun | 9 => 9 | 3 => 3 | 75 => 125 | 76 => 126 | 4 => 4 | 5 => 5 | 167 => 156 | 37 => 22 | 0 => 0 | 85 => 157 | 2 => 2 | 168 => 159 | 53 => 140 | 175 => 174 | 46 => 121 | 210 => 177 | 127 => 155 | 145 => 185 | 143 => 183 | 21 => 21 | 171 => 162 | 173 => 164 | 212 => 179 | 51 => 138 | 20 => 20 | 213 => 180 | 232 => 186 | 233 => 187 | 80 => 145 | n => n, fun | 15 => 1 | 16 => 2 | 17 => 3 | 18 => 4 | 19 => 5 | n => n⟩
theorem Tryz.laysC172 : Go.Proofs.LaysC.n172 Tryz.prog Tryz.laysC172_ren := {
 mixed := by kernel_rfl
 f129 := Tryz.func130.trans (congrArg some (by kernel_rfl))
 f171 := Tryz.func108.trans (congrArg some (by kernel_rfl))
 f172 := Tryz.func117.trans (congrArg some (by kernel_rfl))
 f205 := Tryz.func164.trans (congrArg some (by kernel_rfl))
 f243 := Tryz.func118.trans (congrArg some (by kernel_rfl))
 f244 := Tryz.func134.trans (congrArg some (by kernel_rfl))
 f245 := Tryz.func135.trans (congrArg some (by kernel_rfl))
 f246 := Tryz.func136.trans (congrArg some (by kernel_rfl))
 f247 := Tryz.func148.trans (congrArg some (by kernel_rfl))
 f279 := Tryz.func149.trans (congrArg some (by kernel_rfl))
 f280 := Tryz.func150.trans (congrArg some (by kernel_rfl))
 f281 := Tryz.func151.trans (congrArg some (by kernel_rfl))
 f282 := Tryz.func152.trans (congrArg some (by kernel_rfl))
 f283 := Tryz.func153.trans (congrArg some (by kernel_rfl))
 f284 := Tryz.func154.trans (congrArg some (by kernel_rfl))
 f285 := Tryz.func155.trans (congrArg some (by kernel_rfl))
 f286 := Tryz.func156.trans (congrArg some (by kernel_rfl))
 f287 := Tryz.func162.trans (congrArg some (by kernel_rfl))
 f316 := Tryz.func163.trans (congrArg some (by kernel_rfl))
 f317 := Tryz.func165.trans (congrArg some (by kernel_rfl))
 f318 := Tryz.func166.trans (congrArg some (by kernel_rfl))
 f319 := Tryz.func167.trans (congrArg some (by kernel_rfl))
 f320 := Tryz.func168.trans (congrArg some (by kernel_rfl))
 f321 := Tryz.func169.trans (congrArg some (by kernel_rfl))
 f322 := Tryz.func170.trans (congrArg some (by kernel_rfl))
 f337 := Tryz.func171.trans (congrArg some (by kernel_rfl))
 f338 := Tryz.func172.trans (congrArg some (by kernel_rfl))
 t0 := Tryz.underlying0
 a0 := Tryz.isAgg0
 z0 := Tryz.sizeOf0
 v0 := Tryz.zeroValue0
 t2 := Tryz.underlying2
 a2 := Tryz.isAgg2
 z2 := Tryz.sizeOf2
 v2 := Tryz.zeroValue2
 t3 := Tryz.underlying3
 a3 := Tryz.isAgg3
 z3 := Tryz.sizeOf3
 v3 := Tryz.zeroValue3
 t4 := Tryz.underlying4
 a4 := Tryz.isAgg4
 z4 := Tryz.sizeOf4
 v4 := Tryz.zeroValue4
 t5 := Tryz.underlying5
 a5 := Tryz.isAgg5
 z5 := Tryz.sizeOf5
 v5 := Tryz.zeroValue5
 t9 := Tryz.underlying9
 a9 := Tryz.isAgg9
 z9 := Tryz.sizeOf9
 v9 := Tryz.zeroValue9
 t20 := Tryz.underlying20
 a20 := Tryz.isAgg20
 z20 := Tryz.sizeOf20
 v20 := Tryz.zeroValue20
 t21 := Tryz.underlying21
 a21 := Tryz.isAgg21
 z21 := Tryz.sizeOf21
 v21 := Tryz.zeroValue21
 t37 := Tryz.underlying22
 a37 := Tryz.isAgg22
 z37 := Tryz.sizeOf22
 v37 := Tryz.zeroValue22
 t46 := Tryz.underlying121
 a46 := Tryz.isAgg121
 z46 := Tryz.sizeOf121
 v46 := Tryz.zeroValue121
 t51 := Tryz.underlying138
 a51 := Tryz.isAgg138
 z51 := Tryz.sizeOf138
 v51 := Tryz.zeroValue138
 t53 := Tryz.underlying140
 a53 := Tryz.isAgg140
 z53 := Tryz.sizeOf140
 v53 := Tryz.zeroValue140
 t75 := Tryz.underlying125
 a75 := Tryz.isAgg125
 z75 := Tryz.sizeOf125
 v75 := Tryz.zeroValue125
 t76 := Tryz.underlying126
 a76 := Tryz.isAgg126
 z76 := Tryz.sizeOf126
 v76 := Tryz.zeroValue126
 t85 := Tryz.underlying157
 a85 := Tryz.isAgg157
 z85 := Tryz.sizeOf157
 v85 := Tryz.zeroValue157
 t127 := Tryz.underlying155
 a127 := Tryz.isAgg155
 z127 := Tryz.sizeOf155
 v127 := Tryz.zeroValue155
 t143 := Tryz.underlying183
 a143 := Tryz.isAgg183
 z143 := Tryz.sizeOf183
 v143 := Tryz.zeroValue183
 t145 := Tryz.underlying185
 a145 := Tryz.isAgg185
 z145 := Tryz.sizeOf185
 v145 := Tryz.zeroValue185
 t167 := Tryz.underlying156
 a167 := Tryz.isAgg156
 z167 := Tryz.sizeOf156
 v167 := Tryz.zeroValue156
 t168 := Tryz.underlying159
 a168 := Tryz.isAgg159
 z168 := Tryz.sizeOf159
 v168 := Tryz.zeroValue159
 t171 := Tryz.underlying162
 a171 := Tryz.isAgg162
 z171 := Tryz.sizeOf162
 v171 := Tryz.zeroValue162
 t173 := Tryz.underlying164
 a173 := Tryz.isAgg164
 z173 := Tryz.sizeOf164
 v173 := Tryz.zeroValue164
 t175 := Tryz.underlying174
 a175 := Tryz.isAgg174
 z175 := Tryz.sizeOf174
 v175 := Tryz.zeroValue174
 t210 := Tryz.underlying177
 a210 := Tryz.isAgg177
 z210 := Tryz.sizeOf177
 v210 := Tryz.zeroValue177
 t212 := Tryz.underlying179
 a212 := Tryz.isAgg179
 z212 := Tryz.sizeOf179
 v212 := Tryz.zeroValue179
 t213 := Tryz.underlying180
 a213 := Tryz.isAgg180
 z213 := Tryz.sizeOf180
 t232 := Tryz.underlying186
 a232 := Tryz.isAgg186
 z232 := Tryz.sizeOf186
 v232 := Tryz.zeroValue186
 t233 := Tryz.underlying187
 a233 := Tryz.isAgg187
 z233 := Tryz.sizeOf187
 v233 := Tryz.zeroValue187
 g15 := by kernel_rfl
 g16 := by kernel_rfl
 g17 := by kernel_rfl
 g18 := by kernel_rfl
 g19 := by kernel_rfl
 t80 := Tryz.underlying145
 a80 := Tryz.isAgg145
 z80 := Tryz.sizeOf145
 v80 := Tryz.zeroValue145
 i0 := by kernel_rfl
 i2 := by kernel_rfl
 i3 := by kernel_rfl
 i4 := by kernel_rfl
 i5 := by kernel_rfl
 i9 := by kernel_rfl
 i20 := by kernel_rfl
 i21 := by kernel_rfl
 i37 := by kernel_rfl
 i46 := by kernel_rfl
 i51 := by kernel_rfl
 i53 := by kernel_rfl
 i75 := by kernel_rfl
 i76 := by kernel_rfl
 i80 := by kernel_rfl
 i85 := by kernel_rfl
 i127 := by kernel_rfl
 i143 := by kernel_rfl
 i145 := by kernel_rfl
 i167 := by kernel_rfl
 i168 := by kernel_rfl
 i171 := by kernel_rfl
 i173 := by kernel_rfl
 i175 := by kernel_rfl
 i210 := by kernel_rfl
 i212 := by kernel_rfl
 i232 := by kernel_rfl
 i233 := by kernel_rfl
 m15 := by kernel_rfl
 m16 := by kernel_rfl
 m17 := by kernel_rfl
 m18 := by kernel_rfl
 m19 := by kernel_rfl
 c0 := by kernel_rfl
 c2 := by kernel_rfl
 c3 := by kernel_rfl
 c4 := by kernel_rfl
 c5 := by kernel_rfl
 c9 := by kernel_rfl
 c20 := by kernel_rfl
 c21 := by kernel_rfl
 c37 := by kernel_rfl
 c46 := by kernel_rfl
 c51 := by kernel_rfl
 c53 := by kernel_rfl
 c75 := by kernel_rfl
 c76 := by kernel_rfl
 c80 := by kernel_rfl
 c85 := by kernel_rfl
 c127 := by kernel_rfl
 c143 := by kernel_rfl
 c145 := by kernel_rfl
 c167 := by kernel_rfl
 c168 := by kernel_rfl
 c171 := by kernel_rfl
 c173 := by kernel_rfl
 c175 := by kernel_rfl
 c210 := by kernel_rfl
 c212 := by kernel_rfl
 c213 := by kernel_rfl
 c232 := by kernel_rfl
 c233 := by kernel_rfl }
open Go.RowKit in
theorem Tryz.strconv_Atoi_ok (s : ByteArray) (hmax : s.size ≤ 9223372036854775806) (v : Int) (h : Lib.atoiAll s.data.toList = .ok v) (w : World) :
  Calls Tryz.prog 117 #[.string s] w fun e w' => e = .returned (.tuple #[.int .i64 v, .nilIface]) ∧ (w' = w ∨ ∃ t, w' = Lib.bytesWorld w 5 t) := Any.strconv_Atoi_ok Tryz.laysC172 s hmax v h w
def Tryz.lays145_ren : Go.Shelf.Ren := ⟨fun | 145 => 86 | 220 => 111 | 219 => 120 | 217 => 137 | 225 => 138 | 224 => 139 | 267 => 140 | 266 => 157 | 314 => 158 | n => n, fun | 9 => 9 | 4 => 4 | 59 => 99 | 3 => 3 | 5 => 5 | 46 => 121 | 146 => 166 | 51 => 138 | n => n, fun | 1 => 0 | n => n⟩
theorem Tryz.lays145 : Go.Proofs.Lays.n145 Tryz.prog Tryz.lays145_ren := {
 mixed := by kernel_rfl
 f145 := Tryz.func86.trans (congrArg some (by kernel_rfl))
 f217 := Tryz.func137.trans (congrArg some (by kernel_rfl))
 f219 := Tryz.func120.trans (congrArg some (by kernel_rfl))
 f220 := Tryz.func111.trans (congrArg some (by kernel_rfl))
 f224 := Tryz.func139.trans (congrArg some (by kernel_rfl))
 f225 := Tryz.func138.trans (congrArg some (by kernel_rfl))
 f266 := Tryz.func157.trans (congrArg some (by kernel_rfl))
 f267 := Tryz.func140.trans (congrArg some (by kernel_rfl))
 f314 := Tryz.func158.trans (congrArg some (by kernel_rfl))
 t3 := Tryz.underlying3
 a3 := Tryz.isAgg3
 z3 := Tryz.sizeOf3
 v3 := Tryz.zeroValue3
 t4 := Tryz.underlying4
 a4 := Tryz.isAgg4
 z4 := Tryz.sizeOf4
 v4 := Tryz.zeroValue4
 t5 := Tryz.underlying5
 a5 := Tryz.isAgg5
 z5 := Tryz.sizeOf5
 v5 := Tryz.zeroValue5
 t9 := Tryz.underlying9
 a9 := Tryz.isAgg9
 z9 := Tryz.sizeOf9
 v9 := Tryz.zeroValue9
 t46 := Tryz.underlying121
 a46 := Tryz.isAgg121
 z46 := Tryz.sizeOf121
 v46 := Tryz.zeroValue121
 t51 := Tryz.underlying138
 a51 := Tryz.isAgg138
 z51 := Tryz.sizeOf138
 v51 := Tryz.zeroValue138
 t59 := Tryz.underlying99
 a59 := Tryz.isAgg99
 z59 := Tryz.sizeOf99
 v59 := Tryz.zeroValue99
 t146 := Tryz.underlying166
 a146 := Tryz.isAgg166
 z146 := Tryz.sizeOf166
 v146 := Tryz.zeroValue166
 g1 := by kernel_rfl }
open Go.RowKit Go.Lib in
theorem Tryz.strings_Cut (s sep : ByteArray) (m : Int) (w : World) (hs : s.size < 4294967281) (hm : w.cell? ⟨0, 0, none⟩ = some (.int .i64 m)) :
  Calls Tryz.prog 86 #[.string s, .string sep] w fun e w' => e = .returned (.tuple #[.string ⟨(Lib.cut s.data.toList sep.data.toList).1.toArray⟩, .string ⟨(Lib.cut s.data.toList sep.data.toList).2.1.toArray⟩, .bool (Lib.cut s.data.toList sep.data.toList).2.2]) ∧ ∃ n, w' = w.drewN n := Any.strings_Cut Tryz.lays145 s sep m w hs hm
end Go.Proofs
namespace Go.Proofs.YtckkfjdkaimmhaaGreatDoor.G
open Go.RowKit Go.Proofs.YtckkfjdkaimmhaaGreatDoorW.PrintWords Go.Proofs.YtckkfjdkaimmhaaGreatDoorW.PrintLast Go.Proofs.YtckkfjdkaimmhaaGreatDoorW.PrintMore
set_option linter.unusedVariables false
set_option linter.unusedSimpArgs false
def jIh (l : List ByteArray) (s : ByteArray) : ByteArray := ⟨(Lib.join (l.map (·.data.toList)) s.data.toList).toArray⟩
end Go.Proofs.YtckkfjdkaimmhaaGreatDoor.G
namespace Go.Proofs.YtckkfjdkaimmhaaGreatDoor.G
open Go.RowKit Go.Proofs.YtckkfjdkaimmhaaGreatDoorW.PrintWords Go.Proofs.YtckkfjdkaimmhaaGreatDoorW.PrintLast Go.Proofs.YtckkfjdkaimmhaaGreatDoorW.PrintMore
set_option linter.unusedVariables false
set_option linter.unusedSimpArgs false
noncomputable def gOf (n : String) : Nat := (Tryz.prog.globalNamed n).getD 0
def T1 (w : World) : Prop := Lib.TabIs Tryz.prog w "internal/strconv.uint64pow10" .u64 Lib.pow10Tab
def T2 (w : World) : Prop := T1 w ∧ (∃ ev, w.cell? ⟨gOf "strconv.ErrSyntax", 0, none⟩ = some ev ∧ (ev = .nilIface ∨ ∃ te pe, ev = .iface te pe)) ∧ (∃ ev, w.cell? ⟨gOf "strconv.ErrRange", 0, none⟩ = some ev ∧ (ev = .nilIface ∨ ∃ te pe, ev = .iface te pe))
def T3 (w : World) : Prop := T2 w ∧ ∃ m, w.cell? ⟨gOf "internal/bytealg.MaxLen", 0, none⟩ = some (.int .i64 m)
theorem T1.below {w w' : World} (h : T1 w) (hb : Below w.heap.size w w') : T1 w' := Go.Joins.tab_stays (g := gOf "internal/strconv.uint64pow10") (by kernel_rfl) h hb (Nat.le_refl _)
theorem Wo {w w' : World} {g : Nat} {v : Value} (h : w.cell? ⟨g, 0, none⟩ = some v) (hb : Below w.heap.size w w') : w'.cell? ⟨g, 0, none⟩ = some v := (hb.cell (World.block_lt_of_cell? w _ h)).trans h
theorem T2.below {w w' : World} (h : T2 w) (hb : Below w.heap.size w w') : T2 w' := by
 obtain ⟨h1, ⟨e, he, h2⟩, ⟨e', he', h3⟩⟩ := h
 exact ⟨h1.below hb, ⟨e, Wo he hb, h2⟩, ⟨e', Wo he' hb, h3⟩⟩
theorem T3.below {w w' : World} (h : T3 w) (hb : Below w.heap.size w w') : T3 w' := by
 obtain ⟨h1, m, hm⟩ := h
 exact ⟨h1.below hb, m, Wo hm hb⟩
theorem T2.to1 {w : World} (h : T2 w) : T1 w := h.1
theorem T3.to1 {w : World} (h : T3 w) : T1 w := h.1.1
def Xu (n : Int) : ByteArray := ⟨(Lib.itoa n).toArray⟩
theorem Ws {n : Int} (h0 : -9223372036854775808 ≤ n) (h1 : n ≤ 9223372036854775807) {w : World} (hT : T1 w) : Calls Tryz.prog 108 #[.int .i64 n] w fun e w' => e = .returned (.string (Xu n)) ∧ Below w.heap.size w w' :=
 (Tryz.strconv_Itoa n h0 h1 w hT).mono fun e w' ⟨he, k, os, hw⟩ => ⟨he, hw ▸ Lib.below_grow _ w (Nat.le_refl _) k os⟩
def Yf.f (n : Int) : Option ByteArray := if -9223372036854775808 ≤ n ∧ n ≤ 9223372036854775807 then some (Xu n) else none
theorem Yf.calls (a0 : Int) (r : ByteArray) (w : World) (h : Yf.f a0 = some r) (hT : T1 w) :
  Calls Tryz.prog 79 #[.int .i64 a0] w fun e w' => e = .returned (.string r) ∧ Below w.heap.size w w' := by
 unfold Yf.f at h
 by_cases hs : -9223372036854775808 ≤ a0 ∧ a0 ≤ 9223372036854775807
 ·rw [if_pos hs] at h
  obtain rfl := Option.some.inj h
  clear h
  go_enter Tryz.func79, Tryz.ntmps79
  go_wp2_with (go_at_call 108; refine (Ws hs.1 hs.2 hT).mono ?_; rintro e w1 ⟨rfl, hb1⟩; have HB1 := Qa.mk hb1; clear hb1)
  go_ret
  exact ⟨rfl, HB1.out⟩
 rw [if_neg hs] at h
 cases h
def Yo.f (s : ByteArray) (least most : Int) : Option (Int × Bool) :=
 if s.size ≤ 281474976710656 then
  match Lib.atoiAll s.data.toList with
  | .ok v => if v < least then some (0, false) else if v > most then some (0, false) else if (Xu v).toList = s.toList then some (v, true) else some (0, false)
  | _ => some (0, false)
 else none
theorem Vz {w w' : World} {t : TypeId} {s : ByteArray} (h : w' = w ∨ ∃ t', w' = Lib.bytesWorld w t t') : Below w.heap.size w w' := by
 rcases h with rfl | ⟨s, rfl⟩
 ·exact Below.refl _ _
 exact jEi (Below.refl _ _) (Nat.le_refl _) _ _
theorem jJd {s : ByteArray} (hs : s.size ≤ 281474976710656) (h : ∀ v, Lib.atoiAll s.data.toList ≠ .ok v) {w : World} (hT : T2 w) :
  Calls Tryz.prog 117 #[.string s] w fun e w' => ∃ v t p, e = .returned (.tuple #[.int .i64 v, .iface t p]) ∧ Below w.heap.size w w' := by
 obtain ⟨hT1, ⟨e1, he1, k1⟩, ⟨e2, he2, k2⟩⟩ := hT
 cases ha : Lib.atoiAll s.data.toList
 ·exact absurd ha (h _)
 ·exact (Any.strconv_Atoi_syntax Tryz.laysC172 s hs ha e1 w he1 k1).mono fun e w' ⟨N, he, _, _, hb⟩ => ⟨_, _, _, he, hb⟩
 exact (Any.strconv_Atoi_range Tryz.laysC172 s hs ha e2 w he2 k2).mono fun e w' ⟨N, he, _, _, hb⟩ => ⟨_, _, _, he, hb⟩
theorem Yo.calls (a0 : ByteArray) (a1 : Int) (a2 : Int) (r1 : Int) (r2 : Bool) (w : World) (h : Yo.f a0 a1 a2 = some (r1, r2)) (hT : T2 w) :
  Calls Tryz.prog 105 #[.string a0, .int .i64 a1, .int .i64 a2] w fun e w' => e = .returned (.tuple #[.int .i64 r1, .bool r2]) ∧ Below w.heap.size w w' := by
 unfold Yo.f at h
 by_cases hs : a0.size ≤ 281474976710656
 ·rw [if_pos hs] at h
  by_cases ha' : ∀ v, Lib.atoiAll a0.data.toList ≠ .ok v
  ·have A := jJd hs ha' hT
   have h' : some ((0 : Int), false) = some (r1, r2) := by
    revert h
    cases ha : Lib.atoiAll a0.data.toList
    ·exact absurd ha (ha' _)
    ·exact id
    ·exact id
   simp only [Option.some.injEq, Prod.mk.injEq] at h'
   obtain ⟨rfl, rfl⟩ := h'
   clear h ha'
   go_enter Tryz.func105, Tryz.ntmps105
   go_wp2_with (go_at_call 117; refine A.mono ?_; rintro e w1 ⟨v, t, p, rfl, hb1⟩; have HB1 := Qa.mk hb1; clear hb1)
   go_ret2
   exact ⟨rfl, HB1.out⟩
  obtain ⟨v, ha⟩ : ∃ v, Lib.atoiAll a0.data.toList = .ok v := Classical.byContradiction fun hn => ha' fun v hv => hn ⟨v, hv⟩
  clear ha'
  have hT1 := hT.to1
  rw [ha] at h
  simp only at h
  have vb : -9223372036854775808 ≤ v ∧ v ≤ 9223372036854775807 := Lib.atoiAll_bounds ha
  have A := (Tryz.strconv_Atoi_ok a0 (by omega) v ha w)
  by_cases c1 : v < a1
  ·rw [if_pos c1] at h
   have aD : decide (v < a1) = true := decide_eq_true c1
   simp only [Option.some.injEq, Prod.mk.injEq] at h
   obtain ⟨rfl, rfl⟩ := h
   go_enter Tryz.func105, Tryz.ntmps105
   go_wp2_with (go_at_call 117; refine A.mono ?_; rintro e w1 ⟨rfl, hb1⟩; have HB1 := Qa.mk (Vz (s := a0) hb1); clear hb1)
   go_ret2
   exact ⟨rfl, HB1.out⟩
  rw [if_neg c1] at h
  have aD : decide (v < a1) = false := decide_eq_false c1
  by_cases c2 : v > a2
  ·rw [if_pos c2] at h
   have aG : decide (a2 < v) = true := decide_eq_true c2
   simp only [Option.some.injEq, Prod.mk.injEq] at h
   obtain ⟨rfl, rfl⟩ := h
   go_enter Tryz.func105, Tryz.ntmps105
   go_wp2_with (go_at_call 117; refine A.mono ?_; rintro e w1 ⟨rfl, hb1⟩; have HB1 := Qa.mk (Vz (s := a0) hb1); clear hb1)
   go_ret2
   exact ⟨rfl, HB1.out⟩
  rw [if_neg c2] at h
  have aG : decide (a2 < v) = false := decide_eq_false c2
  by_cases c3 : (Xu v).toList = a0.toList
  ·rw [if_pos c3] at h
   have aA := beq_iff_eq.mpr c3
   have aC := bne_eq_false_iff_eq.mpr c3
   simp only [Option.some.injEq, Prod.mk.injEq] at h
   obtain ⟨rfl, rfl⟩ := h
   go_enter Tryz.func105, Tryz.ntmps105
   go_wp2_with (first | (go_at_call 117; refine A.mono ?_; rintro e w1 ⟨rfl, hb1⟩; have HB1 := Qa.mk (Vz (s := a0) hb1); clear hb1) | (go_at_call 108; refine (Ws vb.1 vb.2 (hT1.below HB1.out)).mono ?_; rintro e w2 ⟨rfl, hb2⟩; have HB2 := Qa.mk (Qg HB1.out hb2); clear hb2))
   go_ret2
   exact ⟨rfl, HB2.out⟩
  rw [if_neg c3] at h
  have aA := beq_eq_false_iff_ne.mpr c3
  have aC := bne_iff_ne.mpr c3
  simp only [Option.some.injEq, Prod.mk.injEq] at h
  obtain ⟨rfl, rfl⟩ := h
  go_enter Tryz.func105, Tryz.ntmps105
  go_wp2_with (first | (go_at_call 117; refine A.mono ?_; rintro e w1 ⟨rfl, hb1⟩; have HB1 := Qa.mk (Vz (s := a0) hb1); clear hb1) | (go_at_call 108; refine (Ws vb.1 vb.2 (hT1.below HB1.out)).mono ?_; rintro e w2 ⟨rfl, hb2⟩; have HB2 := Qa.mk (Qg HB1.out hb2); clear hb2))
  go_ret2
  exact ⟨rfl, HB2.out⟩
 rw [if_neg hs] at h
 cases h
def strings_Cut.f (s t : ByteArray) : Option (ByteArray × ByteArray × Bool) :=
 if s.size < 4294967281 then some (⟨(Lib.cut s.data.toList t.data.toList).1.toArray⟩, ⟨(Lib.cut s.data.toList t.data.toList).2.1.toArray⟩, (Lib.cut s.data.toList t.data.toList).2.2) else none
theorem strings_Cut.calls (a0 : ByteArray) (a1 : ByteArray) (r1 : ByteArray) (r2 : ByteArray) (r3 : Bool) (w : World) (h : strings_Cut.f a0 a1 = some (r1, r2, r3)) (hT : T3 w) :
  Calls Tryz.prog 86 #[.string a0, .string a1] w fun e w' => e = .returned (.tuple #[.string r1, .string r2, .bool r3]) ∧ Below w.heap.size w w' := by
 unfold strings_Cut.f at h
 by_cases hs : a0.size < 4294967281
 ·rw [if_pos hs] at h
  simp only [Option.some.injEq, Prod.mk.injEq] at h
  obtain ⟨rfl, rfl, rfl⟩ := h
  obtain ⟨_, m, hm⟩ := hT
  refine (Tryz.strings_Cut a0 a1 m w hs hm).mono fun e w' ⟨he, k, hw⟩ => ⟨he, ?_⟩
  subst hw
  exact Lib.below_grow _ w (Nat.le_refl _) k #[]
 rw [if_neg hs] at h
 cases h
end Go.Proofs.YtckkfjdkaimmhaaGreatDoor.G
namespace Go.Proofs.YtckkfjdkaimmhaaGreatDoor.G
open Go.RowKit
set_option linter.unusedVariables false
def l5 : List (String × DataW Unit) := [("math/bits.deBruijn32tab", Rows.laid_math_bits_deBruijn32tab), ("math/bits.deBruijn64tab", Rows.laid_math_bits_deBruijn64tab), ("internal/strconv.uint64pow10", Rows.laid_internal_strconv_uint64pow10), ("strconv.ErrRange", Rows.laid_strconv_ErrRange), ("strconv.ErrSyntax", Rows.laid_strconv_ErrSyntax)]
noncomputable def jNu : Nat := ((Tryz.prog.globals[gOf "internal/strconv.uint64pow10"]?).map (·.type)).getD 0
theorem jLu {r : List (String × DataW Unit)} {W : World} (h : laidMet Tryz.prog (("internal/strconv.uint64pow10", Rows.laid_internal_strconv_uint64pow10) :: r) W) : T1 W :=
 Lib.tabIs_of_head (g := gOf "internal/strconv.uint64pow10") (t := jNu) (e := 140) (n := 20) (by kernel_rfl) (by kernel_rfl) (by kernel_rfl) (by kernel_rfl) (by kernel_rfl) (by kernel_rfl) h
theorem star : "*" ++ "errors.errorString" = "*errors.errorString" := by decide
theorem jNt (u : TypeId) (h : Tryz.prog.typeName? 3 u = some "*errors.errorString") : u = 183 :=
 typeName_ptr_named (nm := "errors.errorString") (by rw [star]; kernel_rfl) (by kernel_rfl) (by decide) u (by rw [star]; exact h)
theorem jJ0 {n : String} {text : List UInt8} {r : List (String × DataW Unit)} {W : World} (hg : Tryz.prog.globalNamed n = some (gOf n)) (ht : (Tryz.prog.globals[gOf n]?).map (·.type) = some 125)
  (h : laidMet Tryz.prog ((n, .iface "*errors.errorString" (.ptr (.agg [.lit (.string text)]))) :: r) W) : ∃ ev, W.cell? ⟨gOf n, 0, none⟩ = some ev ∧ (ev = .nilIface ∨ ∃ te pe, ev = .iface te pe) := by
 obtain ⟨a, s, hv, _⟩ := laid_sentinel h hg ht Tryz.underlying125 jNt Tryz.underlying183 Tryz.underlying185 rfl rfl Tryz.underlying9 (by kernel_rfl) (by kernel_rfl)
 exact ⟨_, by simpa using World.var?_cell hg hv 0, .inr ⟨_, _, rfl⟩⟩
theorem jIl {W : World} (h : laidMetH Tryz.prog l5 W) : T1 W := by
 rw [MakeChecks.laidMetH_plain _ _ _ (by kernel_rfl)] at h
 exact jLu h.tail.tail
theorem jIt {W : World} (h : laidMetH Tryz.prog l5 W) : T2 W := by
 refine ⟨jIl h, ?_, ?_⟩
 ·rw [MakeChecks.laidMetH_plain _ _ _ (by kernel_rfl)] at h
  exact jJ0 (by kernel_rfl) (by kernel_rfl) h.tail.tail.tail.tail
 ·rw [MakeChecks.laidMetH_plain _ _ _ (by kernel_rfl)] at h
  exact jJ0 (by kernel_rfl) (by kernel_rfl) h.tail.tail.tail
set_option maxRecDepth 100000 in
theorem jNv (os : Os) (args : Array Value) : laidMetH Tryz.prog l5 ((World.doorLaid Tryz.prog 62 os).forCall (fun _ _ => 0) ⟨#[], args, []⟩).memory :=
 laidMetH_of_parts3 (fuel := 8) (laidMet_of_run' 8 (by kernel_rfl) (by kernel_rfl)) (by kernel_rfl) (by kernel_rfl)
end Go.Proofs.YtckkfjdkaimmhaaGreatDoor.G
namespace Go.Proofs.YtckkfjdkaimmhaaGreatDoor.PX
open Go.RowKit Go.Proofs.YtckkfjdkaimmhaaGreatDoor.G Go.Proofs.YtckkfjdkaimmhaaGreatDoorW.PrintWords Go.Proofs.YtckkfjdkaimmhaaGreatDoorW.PrintLast Go.Proofs.YtckkfjdkaimmhaaGreatDoorW.PrintMore
attribute [local go_sem] max2_int min2_int Yv Yx Xm Xl X9 Yb   -- for this text's walks alone
set_option linter.unusedVariables false
set_option linter.unusedSimpArgs false
def jNp : Option Int → Value
 | none => .nilIface
 | some c => .iface 156 (.int .i64 c)
theorem jC4 : jNp none = .nilIface := rfl
theorem jCz (c : Int) : jNp (some c) = .iface 156 (.int .i64 c) := rfl
theorem info3 : (Tryz.prog.info? 3).map (fun i => (i.zero, i.size, i.bytes)) = some (some (.int .i64 0), 1, 8) := by kernel_rfl
theorem jNe : (Tryz.prog.info? 4).map (fun i => (i.zero, i.size, i.bytes)) = some (some (.bool false), 1, 1) := by kernel_rfl
theorem info5 : (Tryz.prog.info? 5).map (fun i => (i.zero, i.size, i.bytes)) = some (some (.int .u8 0), 1, 1) := by kernel_rfl
theorem jIi : (Tryz.prog.info? 9).map (fun i => (i.zero, i.size, i.bytes)) = some (some (.string ⟨#[]⟩), 1, 16) := by kernel_rfl
theorem jJu : (Tryz.prog.info? 48).map (fun i => (i.zero, i.size, i.bytes)) = some (some (.agg #[(.int .i64 0), (.int .i64 0)]), 2, 16) := by kernel_rfl
theorem jKz : (Tryz.prog.info? 77).map (fun i => (i.zero, i.size, i.bytes)) = some (some (.agg #[(.int .i64 0), (.int .i64 0), (.int .i64 0)]), 3, 24) := by kernel_rfl
structure S48 where
 f0 : Int
 f1 : Int
def z48 : S48 := ⟨(0 : Int), (0 : Int)⟩
def k48 : Kd S48 := Kd.iso (Kd.pair (Kd.int .i64) (Kd.int .i64)) (fun x : S48 => (x.f0, x.f1))
theorem jJe {w : World} {x : S48} {cs : List Value} (h : k48.K w x cs) : cs = [.int .i64 x.f0, .int .i64 x.f1] := by
 obtain ⟨_, _, rfl, rfl, rfl⟩ := h
 exact rfl
theorem jCw {w : World} {base : Nat} {ok : Nat → Prop} {x : S48} {cs : List Value} (h : k48.M w base ok x cs) : cs = [.int .i64 x.f0, .int .i64 x.f1] := by
 obtain ⟨_, _, rfl, rfl, rfl⟩ := h
 exact rfl
theorem Vh (w : World) (base : Nat) (ok : Nat → Prop) (x : S48)  : k48.M w base ok x [.int .i64 x.f0, .int .i64 x.f1] := ⟨[.int .i64 x.f0], [.int .i64 x.f1], rfl, rfl, rfl⟩
def Qp (xs : List S48) (i : Int) : S48 := xs.getD i.toNat z48
theorem Xz {w : World} {A : Option Addr} {n : Nat} {xs : List S48} (h : Kd.C k48 w A n xs) (i : Int) (h0 : 0 ≤ i) (h1 : i < n) : ∃ ad , A = some ad ∧ w.cell? (ad.add (i.toNat * 2)) = some (.int .i64 (Qp xs i).f0) ∧ w.cell? ⟨(ad.add (i.toNat * 2)).block, (ad.add (i.toNat * 2)).off + 1, none⟩ = some (.int .i64 (Qp xs i).f1) := by
 obtain ⟨ad, c, e, _, hK, hc0⟩ := Kd.C_get h z48 i h0 h1
 have hc : ∀ j u, c[j]? = some u → w.cell? (ad.add (i.toNat * 2 + j)) = some u := hc0
 obtain rfl := jJe hK
 exact ⟨ad, e, hc 0 _ rfl, by rw [← jBb _ _ 1 (by omega)]; exact hc 1 _ rfl⟩
structure S77 where
 f0 : Int
 f1 : Int
 f2 : Int
def z77 : S77 := ⟨(0 : Int), (0 : Int), (0 : Int)⟩
def k77 : Kd S77 := Kd.iso (Kd.pair (Kd.int .i64) (Kd.pair (Kd.int .i64) (Kd.int .i64))) (fun x : S77 => (x.f0, x.f1, x.f2))
theorem jIc {w : World} {x : S77} {cs : List Value} (h : k77.K w x cs) : cs = [.int .i64 x.f0, .int .i64 x.f1, .int .i64 x.f2] := by
 obtain ⟨_, _, rfl, rfl, ⟨_, _, rfl, rfl, rfl⟩⟩ := h
 exact rfl
theorem jKh (w : World) (base : Nat) (ok : Nat → Prop) (x : S77)  : k77.M w base ok x [.int .i64 x.f0, .int .i64 x.f1, .int .i64 x.f2] := ⟨[.int .i64 x.f0], [.int .i64 x.f1, .int .i64 x.f2], rfl, rfl, ⟨[.int .i64 x.f1], [.int .i64 x.f2], rfl, rfl, rfl⟩⟩
def Qb (xs : List S77) (i : Int) : S77 := xs.getD i.toNat z77
theorem Ky {w : World} {A : Option Addr} {n : Nat} {xs : List S77} (h : Kd.C k77 w A n xs) (i : Int) (h0 : 0 ≤ i) (h1 : i < n) : ∃ ad , A = some ad ∧ w.cell? (ad.add (i.toNat * 3)) = some (.int .i64 (Qb xs i).f0) ∧ w.cell? ⟨(ad.add (i.toNat * 3)).block, (ad.add (i.toNat * 3)).off + 1, none⟩ = some (.int .i64 (Qb xs i).f1) ∧ w.cell? ⟨(ad.add (i.toNat * 3)).block, (ad.add (i.toNat * 3)).off + 2, none⟩ = some (.int .i64 (Qb xs i).f2) := by
 obtain ⟨ad, c, e, _, hK, hc0⟩ := Kd.C_get h z77 i h0 h1
 have hc : ∀ j u, c[j]? = some u → w.cell? (ad.add (i.toNat * 3 + j)) = some u := hc0
 obtain rfl := jIc hK
 exact ⟨ad, e, hc 0 _ rfl, by rw [← jBb _ _ 1 (by omega)]; exact hc 1 _ rfl, by rw [← jBb _ _ 2 (by omega)]; exact hc 2 _ rfl⟩
end Go.Proofs.YtckkfjdkaimmhaaGreatDoor.PX
namespace Go.Proofs.YtckkfjdkaimmhaaGreatDoor.G
open Go.RowKit Go.Proofs.YtckkfjdkaimmhaaGreatDoorW.PrintWords Go.Proofs.YtckkfjdkaimmhaaGreatDoorW.PrintLast Go.Proofs.YtckkfjdkaimmhaaGreatDoorW.PrintMore Go.Proofs.YtckkfjdkaimmhaaGreatDoor.PX
set_option linter.unusedVariables false
set_option linter.unusedSimpArgs false
def jEx (x most : Int) : Bool := decide (x < wrap64 (-most)) || decide (most < x)
set_option maxHeartbeats 8000000 in
set_option maxRecDepth 100000 in
theorem jHf (most : Int) (B : Nat) (w : World) (x y : Int) (hB : B < w.heap.size) (hc : w.cell? ⟨B, 0, none⟩ = some (.int .i64 most)) :
  Calls Tryz.prog 110 #[.agg #[.int .i64 x, .int .i64 y], .pointer (some ⟨B, 0, none⟩)] w fun e w' => e = .returned (.bool (jEx x most || jEx y most)) ∧ Below w.heap.size w w' := by
 have hu := Tryz.underlying48
 have hne : B ≠ w.heap.size := by omega
 go_enter Tryz.func110, Tryz.ntmps110
 go_wp2
 all_goals (go_ret; exact ⟨by unfold jEx; simp_all; try omega, (Below.refl _ w).alloc (Nat.le_refl _) _⟩)
def Vn (most : Int) (l : List S48) : Nat → Int → Int
 | 0, _ => -1
 | d + 1, i => if (jEx (Qp l i).f0 most || jEx (Qp l i).f1 most) = true then i else Vn most l d (i + 1)
set_option maxHeartbeats 8000000 in
set_option maxRecDepth 100000 in
theorem jFm (most : Int) (B : Nat) (w : World) (A : Option Addr) (c : Nat) (l : List S48) (hB : B < w.heap.size) (hc : w.cell? ⟨B, 0, none⟩ = some (.int .i64 most)) (hr : Kd.C k48 w A l.length l) (hl : l.length ≤ c) :
  Calls Tryz.prog 119 #[.slice A l.length c, .func (.func 110) #[] #[.pointer (some ⟨B, 0, none⟩)]] w fun e w' => e = .returned (.int .i64 (Vn most l l.length 0)) ∧ Below w.heap.size w w' := by
 have hu := Tryz.underlying48
 go_enter Tryz.func119, Tryz.ntmps119
 go_wp2
 have HR := Qa.mk hr
 have HC := Qa.mk hc
 have HB0 := Qa.mk (Below.refl w.heap.size w)
 clear hr hc
 go_loopg [8] (l.length + 1) (fun kq v8 w' => ∃ (i : Nat), v8 = .int .i64 (i : Int) ∧ Qa (i + kq = l.length + 1) ∧ Qa (1 ≤ kq) ∧ Qa (Vn most l (l.length - i) (i : Int) = Vn most l l.length 0) ∧ Qa (Below w.heap.size w w'))
 case atStart => exact ⟨0, rfl, ⟨by omega⟩, ⟨by omega⟩, ⟨rfl⟩, HB0⟩
 case round =>
 obtain ⟨i, rfl, HI, HK, HN, HB⟩ := hrel
 cases gk with
 | zero => exact absurd HK.out (by omega)
 | succ k1 =>
 by_cases g : i < l.length
 ·have g' : decide ((i : Int) < (l.length : Int)) = true := decide_eq_true (by omega)
  obtain ⟨ad, e, hx0, hx1⟩ := Xz (Kd.C_below HR.out HB.out) (i : Int) (by omega) (by omega)
  cases e
  have hcw : wr.cell? ⟨B, 0, none⟩ = some (.int .i64 most) := (HB.out.cell (p := ⟨B, 0, none⟩) hB).trans HC.out
  simp only [Int.toNat_natCast] at hx0 hx1
  have hBw : B < wr.heap.size := Nat.lt_of_lt_of_le hB HB.out.size
  have hp := jHf most B wr (Qp l (i : Int)).f0 (Qp l (i : Int)).f1 hBw hcw
  have hd : l.length - i = (l.length - (i + 1)) + 1 := by omega
  have HN' := HN.out
  rw [hd, Vn] at HN'
  cases hq : (jEx (Qp l (i : Int)).f0 most || jEx (Qp l (i : Int)).f1 most) with
  | true =>
   rw [hq] at hp
   rw [hq, if_pos rfl] at HN'
   have aA := Qa.mk HN'
   clear HN'
   go_wp2_with (go_at_call 110; refine hp.mono ?_; rintro e w1 ⟨rfl, hb1⟩; have HB1 := Qa.mk (HB.out.trans (hb1.mono HB.out.size)))
   go_ret
   exact ⟨by rw [← aA.out]; rfl, HB1.out⟩
  | false =>
  rw [hq] at hp
  rw [hq, if_neg (by decide)] at HN'
  have aA := Qa.mk HN'
  clear HN'
  go_wp2_with (go_at_call 110; refine hp.mono ?_; rintro e w1 ⟨rfl, hb1⟩; have HB1 := Qa.mk (HB.out.trans (hb1.mono HB.out.size)))
  have wrap_i : wrap64 ((i : Int) + 1) = ((i + 1 : Nat) : Int) := by
   have hx := HR.out.2.1
   unfold wrap64
   omega
  go_roundg k1
  case measure => exact Nat.lt_succ_self _
  case rel => exact ⟨i + 1, by rw [wrap_i], ⟨by have := HI.out; omega⟩, ⟨by have := HI.out; omega⟩, aA, HB1⟩
 have g' : decide ((i : Int) < (l.length : Int)) = false := decide_eq_false (by omega)
 have g2 : decide (i < l.length) = false := decide_eq_false g
 have g3 : l.length ≤ i := by omega
 go_wp2
 go_ret
 have e : l.length - i = 0 := by omega
 have HN' := HN.out
 rw [e] at HN'
 exact ⟨by rw [← HN']; rfl, HB.out⟩
set_option maxHeartbeats 8000000 in
set_option maxRecDepth 100000 in
theorem jCg (most : Int) (B : Nat) (w : World) (A : Option Addr) (c : Nat) (l : List S48) (hB : B < w.heap.size) (hc : w.cell? ⟨B, 0, none⟩ = some (.int .i64 most)) (hr : Kd.C k48 w A l.length l) (hl : l.length ≤ c) :
  Calls Tryz.prog 109 #[.slice A l.length c, .func (.func 110) #[] #[.pointer (some ⟨B, 0, none⟩)]] w fun e w' => e = .returned (.bool (decide (0 ≤ Vn most l l.length 0))) ∧ Below w.heap.size w w' := by
 have hi := jFm most B w A c l hB hc hr hl
 generalize Vn most l l.length 0 = v at hi ⊢
 go_enter Tryz.func109, Tryz.ntmps109
 go_wp2_with (go_at_call 119; refine hi.mono ?_; rintro e w1 ⟨rfl, hb1⟩; have HB1 := Qa.mk hb1; clear hb1)
 go_ret
 exact ⟨by first | rfl | simp, HB1.out⟩
def Xi.f (most : Int) (l : List S48) : Option Bool := some (!decide (0 ≤ Vn most l l.length 0))
set_option maxHeartbeats 8000000 in
set_option maxRecDepth 100000 in
theorem Xi.calls (a0 : Int) (A1 : Option Addr) (c1 : Nat) (l1 : List S48) (r : Bool) (w : World) (hr1 : Kd.C k48 w A1 l1.length l1) (hc1 : l1.length ≤ c1) (h : Xi.f a0 l1 = some r) :
  Calls Tryz.prog 81 #[.int .i64 a0, .slice A1 l1.length c1] w fun e w' => e = .returned (.bool r) ∧ Below w.heap.size w w' := by
 obtain rfl := Option.some.inj h
 clear h
 have hcon := fun W h1 h2 h3 => jCg a0 w.heap.size W A1 c1 l1 h1 h2 h3 hc1
 generalize Vn a0 l1 l1.length 0 = v at hcon ⊢
 have HR := Qa.mk hr1
 have HC := Qa.mk hcon
 clear hr1 hcon
 go_enter Tryz.func81, Tryz.ntmps81
 go_wp2_with (go_at_call 109; refine (HC.out _ ?h1 ?h2 ?h3).mono ?_; (case h1 => simp); (case h2 => simp); (case h3 => exact Kd.C_below HR.out ((Below.refl _ w).alloc (Nat.le_refl _) _)); rintro e w1 ⟨rfl, hb1⟩; have HB1 := Qa.mk (((Below.refl w.heap.size w).alloc (Nat.le_refl _) _).trans (hb1.mono (by simp))); clear hb1)
 go_ret
 exact ⟨by first | rfl | simp, HB1.out⟩
end Go.Proofs.YtckkfjdkaimmhaaGreatDoor.G
namespace Go.Proofs.YtckkfjdkaimmhaaGreatDoor.G
open Go.RowKit Go.Proofs.YtckkfjdkaimmhaaGreatDoorW.PrintWords Go.Proofs.YtckkfjdkaimmhaaGreatDoorW.PrintLast Go.Proofs.YtckkfjdkaimmhaaGreatDoorW.PrintMore
set_option linter.unusedVariables false
set_option linter.unusedSimpArgs false
def jD2 (c : UInt8) : UInt8 := if c = 43 then 45 else if c = 45 then 43 else c
def jCn (l : List UInt8) : List UInt8 := l.map jD2
def Yc.f (t : ByteArray) : Option ByteArray := if t.size ≤ 1000 then some ⟨(jCn t.data.toList).toArray⟩ else none
def Y2 (l : List UInt8) (m i : Nat) : List Value := ((jCn (l.take i) ++ l.drop i).map fun c => Value.int .u8 (c.toNat : Int)) ++ List.replicate m (.int .u8 0)
theorem jCa (l : List UInt8) (m i : Nat) (h : i ≤ l.length) : (Y2 l m i).length = l.length + m := by
 simp [Y2, jCn]; omega
theorem Wn (l : List UInt8) (m i : Nat) (h : i < l.length) :
  Y2 l m i = ((jCn (l.take i)).map fun c => Value.int .u8 (c.toNat : Int)) ++ (Value.int .u8 (l[i].toNat : Int) :: ((l.drop (i + 1)).map (fun c => Value.int .u8 (c.toNat : Int)) ++ List.replicate m (.int .u8 0))) := by
 unfold Y2
 rw [List.drop_eq_getElem_cons h]
 simp only [List.map_append, List.map_cons, List.append_assoc, List.cons_append]
theorem jA0 (l : List UInt8) (m i : Nat) (h : i < l.length) :
  Y2 l m (i + 1) = ((jCn (l.take i)).map fun c => Value.int .u8 (c.toNat : Int)) ++ (Value.int .u8 ((jD2 l[i]).toNat : Int) :: ((l.drop (i + 1)).map (fun c => Value.int .u8 (c.toNat : Int)) ++ List.replicate m (.int .u8 0))) := by
 unfold Y2 jCn
 rw [List.take_succ_eq_append_getElem h]
 simp only [List.map_append, List.map_cons, List.map_nil, List.append_assoc, List.cons_append, List.nil_append]
theorem Ul (l : List UInt8) (i : Nat) (h : i < l.length) : ((jCn (l.take i)).map fun c => Value.int .u8 (c.toNat : Int)).length = i := by
 simp [jCn]; omega
theorem jFy (l : List UInt8) (m i : Nat) (h : i < l.length) : (Y2 l m i)[i]? = some (.int .u8 (l[i].toNat : Int)) := by
 rw [Wn l m i h, List.getElem?_append_right (by rw [Ul l i h]; exact Nat.le_refl _), Ul l i h, Nat.sub_self]
 rfl
theorem jFv (l : List UInt8) (m i : Nat) (h : i < l.length) : (Y2 l m i).set i (.int .u8 ((jD2 l[i]).toNat : Int)) = Y2 l m (i + 1) := by
 rw [Wn l m i h, jA0 l m i h, List.set_append_right _ _ (by rw [Ul l i h]; exact Nat.le_refl _), Ul l i h, Nat.sub_self]
 rfl
theorem jD5 (l : List UInt8) (m i : Nat) (h : i < l.length) (hb : jD2 l[i] = l[i]) : Y2 l m i = Y2 l m (i + 1) := by
 rw [Wn l m i h, jA0 l m i h, hb]
theorem jF2 (l : List UInt8) (m j : Nat) (h : j < (jCn l).length) : (Y2 l m l.length)[j]? = some (.int .u8 ((jCn l)[j].toNat : Int)) := by
 unfold Y2
 rw [List.take_length, List.drop_length, List.append_nil, List.getElem?_append_left (by simpa using h), List.getElem?_map, List.getElem?_eq_getElem h]
 rfl
def jFl (l : List UInt8) (m i T : Nat) : Obj := .cells (Y2 l m i).toArray T (l.length + m, l.length + m + 1)
theorem jDm {w : World} {g T m i j : Nat} {l : List UInt8} (h : w.heap[g]? = some (jFl l m i T)) : w.cell? ⟨g, j, none⟩ = (Y2 l m i)[j]? := by
 unfold World.cell?
 simp only [h, jFl]
 simp
theorem jEg {w : World} {g T m i j : Nat} {l : List UInt8} (h : w.heap[g]? = some (jFl l m i T)) (hj : j < l.length) : w.frozen? ⟨g, j, none⟩ = false := by
 unfold World.frozen?
 simp only [h, jFl]
 simp; omega
theorem jI4 {w : World} {g T m i : Nat} {l : List UInt8} (h : w.heap[g]? = some (jFl l m i T)) (hj : i < l.length) {b : UInt8} (hb : jD2 l[i] = b) : (w.setCell ⟨g, i, none⟩ (.int .u8 (b.toNat : Int))).heap[g]? = some (jFl l m (i + 1) T) := by
 subst hb
 simp only [World.setCell, Array.getElem?_modify, h, jFl]
 simp [← jFv l m i hj]
theorem jIk (w : World) (l : List UInt8) (src dst e : Nat) (hs : Tryz.prog.underlying src = some .string) (hd : Tryz.prog.underlying dst = some (.slice e)) (he : Tryz.prog.underlying e = some (.int .u8)) :
  ∃ c, (convert src dst (.string ⟨⟨l⟩⟩)).run Tryz.prog w = .ok (.slice (some ⟨w.heap.size, 0, none⟩) l.length c) (w.drew.alloc (jFl l (c - l.length) 0 e)) := by
 refine ⟨grownCap w l.length 0 e, ?_⟩
 have h := run_bytes_of_string w src dst e ⟨⟨l⟩⟩ hs hd he
 have e1 : bytesRow ⟨⟨l⟩⟩ (grownCap w l.length 0 e) = (Y2 l (grownCap w l.length 0 e - l.length) 0).toArray := by
  apply Array.toList_inj.1
  simp [bytesRow, Y2, jCn, ByteArray.size]
 have e2 : (ByteArray.mk ⟨l⟩).size = l.length := rfl
 rw [e2, e1] at h
 rw [h]
 unfold jFl
 simp [jCa]
set_option maxHeartbeats 2000000 in
set_option maxRecDepth 100000 in
theorem Yc.calls (a0 : ByteArray) (r : ByteArray) (w : World) (h : Yc.f a0 = some r) :
  Calls Tryz.prog 60 #[.string a0] w fun e w' => e = .returned (.string r) ∧ Below w.heap.size w w' := by
 unfold Yc.f at h
 by_cases hs : a0.size ≤ 1000
 ·rw [if_pos hs] at h
  obtain rfl := Option.some.inj h
  clear h
  obtain ⟨⟨l⟩⟩ := a0
  have hl : l.length ≤ 1000 := hs
  clear hs
  have hu := Tryz.underlying22
  obtain ⟨c, hconv⟩ := jIk w l 9 22 5 Tryz.underlying9 Tryz.underlying22 Tryz.underlying5
  have HB0 := Qa.mk (Below.refl w.heap.size w)
  go_enter Tryz.func60, Tryz.ntmps60
  go_wp2
  clear hconv
  go_loopg [10] l.length (fun kq v10 w' => ∃ i : Nat, v10 = .int .i64 i ∧ Qa (i + kq = l.length) ∧ Qa (w'.heap[w.heap.size]? = some (jFl l (c - l.length) i 5)) ∧ Qa (Below w.heap.size w w'))
  case atStart => exact ⟨0, rfl, ⟨by omega⟩, ⟨jEm _ _⟩, ⟨Qv (Un HB0.out) _⟩⟩
  case round =>
  obtain ⟨i, rfl, hi, hO, HB⟩ := hrel
  by_cases hlt : i < l.length
  ·obtain ⟨k1, rfl⟩ : ∃ k1, gk = k1 + 1 := ⟨gk - 1, by have := hi.out; omega⟩
   have hcell := jDm (j := i) hO.out
   rw [jFy l _ i hlt] at hcell
   have hfr := jEg hO.out hlt
   have hg : Qa (w.heap.size ≤ w.heap.size) := ⟨Nat.le_refl _⟩
   have hbb : Qa (∀ b, jD2 l[i] = b → (wr.setCell ⟨w.heap.size, i, none⟩ (.int .u8 (b.toNat : Int))).heap[w.heap.size]? = some (jFl l (c - l.length) (i + 1) 5)) := ⟨fun b hb => jI4 hO.out hlt hb⟩
   have hsame : Qa (jD2 l[i] = l[i] → Y2 l (c - l.length) i = Y2 l (c - l.length) (i + 1)) := ⟨jD5 l _ i hlt⟩
   generalize l[i] = b at hcell hbb hsame
   by_cases h43 : b = 43
   ·subst h43
    have hcell : wr.cell? ⟨w.heap.size, i, none⟩ = some (.int .u8 43) := hcell
    have hst := Qa.mk (show (wr.setCell ⟨w.heap.size, i, none⟩ (.int .u8 45)).heap[w.heap.size]? = _ from hbb.out 45 rfl)
    clear hbb hsame
    go_wp2
    go_roundg k1
    case measure => omega
    case rel => exact ⟨i + 1, by go_num, ⟨by have := hi.out; omega⟩, hst, ⟨Qf HB.out hg.out⟩⟩
   by_cases h45 : b = 45
   ·subst h45
    have hcell : wr.cell? ⟨w.heap.size, i, none⟩ = some (.int .u8 45) := hcell
    have hst := Qa.mk (show (wr.setCell ⟨w.heap.size, i, none⟩ (.int .u8 43)).heap[w.heap.size]? = _ from hbb.out 43 rfl)
    clear hbb hsame h43
    go_wp2
    go_roundg k1
    case measure => omega
    case rel => exact ⟨i + 1, by go_num, ⟨by have := hi.out; omega⟩, hst, ⟨Qf HB.out hg.out⟩⟩
   have hn1 : ((b.toNat : Int) == 43) = false := by
    apply beq_eq_false_iff_ne.2; intro e; apply h43; apply UInt8.toNat_inj.1; show b.toNat = 43; omega
   have hn2 : ((b.toNat : Int) == 45) = false := by
    apply beq_eq_false_iff_ne.2; intro e; apply h45; apply UInt8.toNat_inj.1; show b.toNat = 45; omega
   have hst : Qa (wr.heap[w.heap.size]? = some (jFl l (c - l.length) (i + 1) 5)) := ⟨by
    have e := hsame.out (by unfold jD2; rw [if_neg h43, if_neg h45])
    have := hO.out
    unfold jFl at this ⊢
    rw [← e]; exact this⟩
   clear hbb hsame h43 h45
   go_wp2
   go_roundg k1
   case measure => omega
   case rel => exact ⟨i + 1, by go_num, ⟨by have := hi.out; omega⟩, hst, HB⟩
  have hil : i = l.length := by have := hi.out; omega
  have hback : (convert 22 9 (.slice (some ⟨w.heap.size, 0, none⟩) l.length c)).run Tryz.prog wr = .ok (.string ⟨(jCn l).toArray⟩) wr := by
   have hlen : (jCn l).length = l.length := by simp [jCn]
   have := run_convert_bytes_back wr 22 9 5 ⟨w.heap.size, 0, none⟩ c (jCn l) Tryz.underlying22 Tryz.underlying5 Tryz.underlying9 (fun j hj => by
    rw [add_plain, jDm (j := j) hO.out, hil]
    exact jF2 l _ j hj)
   rw [hlen] at this
   exact this
  have hilt : decide ((i : Int) < (l.length : Int)) = false := decide_eq_false (by omega)
  clear hil
  go_wp2
  go_ret
  exact ⟨rfl, HB.out⟩
 rw [if_neg hs] at h
 cases h
end Go.Proofs.YtckkfjdkaimmhaaGreatDoor.G
namespace Go.Proofs.YtckkfjdkaimmhaaGreatDoor.G
open Go.RowKit Go.Proofs.YtckkfjdkaimmhaaGreatDoorW.PrintWords Go.Proofs.YtckkfjdkaimmhaaGreatDoorW.PrintLast Go.Proofs.YtckkfjdkaimmhaaGreatDoorW.PrintMore
set_option linter.unusedVariables false
set_option linter.unusedSimpArgs false
def ix3 (i j k : Nat) : Nat := 1 + i * 49 + j * 7 + k
def jHq (l : List Int) (i j k : Nat) (s : Int) : List Int := (((((l.set (ix3 i j k) s).set (ix3 j k i) s).set (ix3 k i j) s).set (ix3 i k j) (-s)).set (ix3 k j i) (-s)).set (ix3 j i k) (-s)
def Jd.f (l : List Int) (a1 a2 a3 a4 : Int) : Option (List Int) := if l.length = 344 ∧ (0 ≤ a1 ∧ a1 < 7) ∧ (0 ≤ a2 ∧ a2 < 7) ∧ (0 ≤ a3 ∧ a3 < 7) ∧ -1 ≤ a4 ∧ a4 ≤ 1 then some (jHq l a1.toNat a2.toNat a3.toNat a4) else none
theorem Wq {w : World} {base g cap T m : Nat} {ok : Nat → Prop} {l : List Int} (h : Kd.R (Kd.int .i64) T w base ok (.slice (some ⟨g, 0, none⟩) l.length cap) l) (hm : m < l.length) (x : Int) :
  w.cell? ⟨g, m, none⟩ = some (.int .i64 (l.getD m 0)) ∧ w.frozen? ⟨g, m, none⟩ = false ∧ Kd.R (Kd.int .i64) T (w.setCell ⟨g, m, none⟩ (.int .i64 x)) base ok (.slice (some ⟨g, 0, none⟩) (l.set m x).length cap) (l.set m x) ∧ w.grownBy (w.setCell ⟨g, m, none⟩ (.int .i64 x)) (some g) := by
 have h1 := Kd.R_cell (enc := Value.int .i64) (h1 := fun _ => rfl) (0 : Int) h (m : Int) (by omega) (by omega)
 have h2 := Kd.R_put (enc := Value.int .i64) (h1 := fun _ => rfl) h (m : Int) x
 simp only [Int.toNat_natCast] at h1 h2
 exact ⟨h1.1, h1.2, by rw [List.length_set]; exact h2.1, h2.2⟩
def Jd.T0 : Bool × List (List Nat × List Nat) := (true, [([], []), ([], []), ([], []), ([], []), ([], []), ([], []), ([], []), ([], []), ([], []), ([], []), ([], []), ([], []), ([], []), ([], []), ([], []), ([0], [0]), ([15], [15]), ([16, 1], [1, 16]), ([17, 2], [2, 17]), ([18, 3, 0, 1, 2, 3, 12], [3, 18]), ([19, 12, 0, 1, 2, 3, 12], [12, 19]), ([4], [4]), ([21], [21]), ([22, 5], [5, 22]), ([23, 6], [6, 23]), ([24, 7, 0, 1, 2, 3, 4, 5, 6, 7, 12, 13, 15, 16, 17, 18, 19, 20], [7, 24]), ([25, 13, 20, 0, 1, 2, 3, 4, 5, 6, 7, 12, 13, 15, 16, 17, 18, 19, 20], [13, 25]), ([8], [8]), ([27], [27]), ([28, 9], [9, 28]), ([29, 10], [10, 29]), ([30, 11, 0, 1, 2, 3, 4, 5, 6, 7, 8, 9, 10, 11, 12, 13, 14, 15, 16, 17, 18, 19, 20, 21, 22, 23, 24, 25, 26], [11, 30]), ([31, 14, 26, 0, 1, 2, 3, 4, 5, 6, 7, 8, 9, 10, 11, 12, 13, 14, 15, 16, 17, 18, 19, 20, 21, 22, 23, 24, 25, 26], [14, 31])])
def Jd.B0 : List Nat := [0, 0, 0, 0, 0, 0, 0, 0, 0, 0, 0, 0, 0, 0, 0, 1, 32769, 98307, 229383, 495631, 1019919, 16, 2097168, 6291504, 14680176, 33534207, 67088639, 256, 134217984, 402653952, 939525888, 2147483647, 4294967295]
theorem Jd.tab0 : Vv .any (opsOf Tryz.f56 0) = Jd.T0 := by kernel_rfl
theorem Jd.bits0 : Zz Jd.T0.2 Jd.B0 = true := by kernel_rfl
def Jd.T1 : Bool × List (List Nat × List Nat) := (true, [([], []), ([], []), ([], []), ([], []), ([], []), ([], []), ([], []), ([], []), ([], []), ([], []), ([], []), ([], []), ([], []), ([12], [12]), ([], []), ([14], [14]), ([], []), ([16], [16]), ([0], [0]), ([18], [18]), ([19, 1], [1, 19]), ([20, 2], [2, 20]), ([21, 3, 0, 1, 2, 3, 12, 13], [3, 21]), ([22, 13, 0, 1, 2, 3, 12, 13], [13, 22]), ([4], [4]), ([24], [24]), ([25, 5], [5, 25]), ([26, 6], [6, 26]), ([27, 7, 0, 1, 2, 3, 4, 5, 6, 7, 12, 13, 14, 15, 18, 19, 20, 21, 22, 23], [7, 27]), ([28, 15, 23, 0, 1, 2, 3, 4, 5, 6, 7, 12, 13, 14, 15, 18, 19, 20, 21, 22, 23], [15, 28]), ([8], [8]), ([30], [30]), ([31, 9], [9, 31]), ([32, 10], [10, 32]), ([33, 11, 0, 1, 2, 3, 4, 5, 6, 7, 8, 9, 10, 11, 12, 13, 14, 15, 16, 17, 18, 19, 20, 21, 22, 23, 24, 25, 26, 27, 28, 29], [11, 33]), ([34, 17, 29, 0, 1, 2, 3, 4, 5, 6, 7, 8, 9, 10, 11, 12, 13, 14, 15, 16, 17, 18, 19, 20, 21, 22, 23, 24, 25, 26, 27, 28, 29], [17, 34])])
def Jd.B1 : List Nat := [0, 0, 0, 0, 0, 0, 0, 0, 0, 0, 0, 0, 0, 4096, 0, 16384, 0, 65536, 1, 262145, 786435, 1835015, 3944463, 8138767, 16, 16777232, 50331696, 117440624, 268235007, 536670463, 256, 1073742080, 3221226240, 7516194560, 17179869183, 34359738367]
theorem Jd.tab1 : Vv .any (opsOf Tryz.f56 1) = Jd.T1 := by kernel_rfl
theorem Jd.bits1 : Zz Jd.T1.2 Jd.B1 = true := by kernel_rfl
set_option maxHeartbeats 8000000 in
set_option maxRecDepth 100000 in
theorem Jd.walk (g cap i j k : Nat) (s : Int) (l0 : List Int) (aC : Nat → Prop) (w0 w : World) (hlen : l0.length = 344) (hi : i < 7) (hj : j < 7) (hk : k < 7) (hs0 : -1 ≤ s) (hs1 : s ≤ 1) (HO : Kd.R (Kd.int .i64) 74 w w0.heap.size aC (.slice (some ⟨g, 0, none⟩) l0.length cap) l0) :
  Calls Tryz.prog 56 #[.pointer (some ⟨g, 0, none⟩), .int .i64 i, .int .i64 j, .int .i64 k, .int .i64 s] w fun e w' => e = .returned (.tuple #[]) ∧ Kd.R (Kd.int .i64) 74 w' w0.heap.size aC (.slice (some ⟨g, 0, none⟩) (jHq l0 i j k s).length cap) (jHq l0 i j k s) ∧ w.grownBy w' (some g) := by
 have aQ := Tryz.underlying74
 have aT := Tryz.underlying72
 have aU := Tryz.underlying71
 have aV := Tryz.underlying70
 have HO := Qa.mk HO
 have HG := Qa.mk (World.grownBy.refl w (some g))
 have HL := Qa.mk hlen
 clear hlen
 have hi_ : ((i : Int) < 7) = True := eq_true (by omega)
 have hj_ : ((j : Int) < 7) = True := eq_true (by omega)
 have hk_ : ((k : Int) < 7) = True := eq_true (by omega)
 go_enter Tryz.func56, Tryz.ntmps56
 go_wp2
 refine Xe (n := 33) (S := fun _ => True) (ds := []) #[false, false, false, false, false, false, false, false, false, false, false, false, false, false, false, false, false, false, false, false, false, false, false, false, false, false, false, false, false, false, false, false, false] (by kernel_rfl) rfl rfl trivial (fun hHeld => ?_); refine J6 Jd.tab0 Jd.bits0 (fun HT_ HW_ => ?_)
 generalize hw_ : World.drew _ = aD at hHeld ⊢
 have HO : Qa (Kd.R (Kd.int .i64) 74 aD w0.heap.size aC (.slice (some ⟨g, 0, none⟩) l0.length cap) l0) := ⟨by rw [← hw_]; exact Kd.R_drew HO.out⟩
 have HG : Qa (w.grownBy aD (some g)) := ⟨by rw [← hw_]; exact ⟨HG.out.os, HG.out.tape, HG.out.output, HG.out.size, HG.out.block⟩⟩
 clear hw_
 refine zP 0 (some 10) rfl rfl ?_
 refine zP 1 (some 11) rfl rfl ?_
 refine zP 2 (some 12) rfl rfl ?_
 refine zP 3 (some 13) rfl rfl ?_
 refine zP 4 (some 14) rfl rfl ?_
 refine zP 5 (some 15) rfl rfl ?_
 refine zP 6 (some 16) rfl rfl ?_
 refine zP 7 (some 17) rfl rfl ?_
 refine zP 8 (some 18) rfl rfl ?_
 refine zP 9 (some 19) rfl rfl ?_
 refine zP 10 (some 20) rfl rfl ?_
 refine zP 11 (some 21) rfl rfl ?_
 refine zP 12 (some 22) rfl rfl ?_
 refine zP 13 (some 23) rfl rfl ?_
 refine zP 14 (some 24) rfl rfl ?_
 refine zP 15 (some 25) rfl rfl ?_
 refine zP 16 (some 26) rfl rfl ?_
 refine zP 17 (some 27) rfl rfl ?_
 refine zP 18 (some 28) rfl rfl ?_
 refine zP 19 (some 29) rfl rfl ?_
 refine zP 21 (some 30) rfl rfl ?_
 refine zP 22 (some 31) rfl rfl ?_
 refine zP 23 (some 32) rfl rfl ?_
 refine zP 24 (some 33) rfl rfl ?_
 refine zP 27 (some 35) rfl rfl ?_
 refine zP 28 (some 36) rfl rfl ?_
 refine zP 29 (some 37) rfl rfl ?_
 refine zP 30 (some 38) rfl rfl ?_
 obtain ⟨hc_, hf_, ho_, hg_⟩ := Wq HO.out (m := (ix3 i j k)) (by have := HL.out; (try simp only [List.length_set]); unfold ix3; omega) s
 have ho_ := Qa.mk ho_
 have hg_ := Qa.mk (World.grownBy.trans HG.out hg_)
 unfold ix3 at hc_ hf_
 refine zU 20 none rfl rfl (fun K hK => ?_)
 go_simp
 refine hK.out _ _ trivial (fun _ => ?_)
 clear hK K hc_ hf_
 have aA : Qa (Kd.R (Kd.int .i64) 74 _ w0.heap.size aC (.slice (some ⟨g, 0, none⟩) (l0.set (ix3 i j k) s).length cap) (l0.set (ix3 i j k) s)) := ho_
 generalize hw_ : World.setCell aD _ _ = aG
 replace HO : Qa (Kd.R (Kd.int .i64) 74 aG w0.heap.size aC (.slice (some ⟨g, 0, none⟩) (l0.set (ix3 i j k) s).length cap) (l0.set (ix3 i j k) s)) := ⟨by rw [← hw_]; exact aA.out⟩
 replace HG : Qa (w.grownBy aG (some g)) := ⟨by rw [← hw_]; exact hg_.out⟩
 clear hw_ ho_ hg_ aA
 refine zP 25 (some 34) rfl rfl ?_
 obtain ⟨hc_, hf_, ho_, hg_⟩ := Wq HO.out (m := (ix3 j k i)) (by have := HL.out; (try simp only [List.length_set]); unfold ix3; omega) s
 have ho_ := Qa.mk ho_
 have hg_ := Qa.mk (World.grownBy.trans HG.out hg_)
 unfold ix3 at hc_ hf_
 refine zU 26 none rfl rfl (fun K hK => ?_)
 go_simp
 refine hK.out _ _ trivial (fun _ => ?_)
 clear hK K hc_ hf_
 have aA : Qa (Kd.R (Kd.int .i64) 74 _ w0.heap.size aC (.slice (some ⟨g, 0, none⟩) ((l0.set (ix3 i j k) s).set (ix3 j k i) s).length cap) ((l0.set (ix3 i j k) s).set (ix3 j k i) s)) := ho_
 generalize hw_ : World.setCell aG _ _ = aH
 replace HO : Qa (Kd.R (Kd.int .i64) 74 aH w0.heap.size aC (.slice (some ⟨g, 0, none⟩) ((l0.set (ix3 i j k) s).set (ix3 j k i) s).length cap) ((l0.set (ix3 i j k) s).set (ix3 j k i) s)) := ⟨by rw [← hw_]; exact aA.out⟩
 replace HG : Qa (w.grownBy aH (some g)) := ⟨by rw [← hw_]; exact hg_.out⟩
 clear hw_ ho_ hg_ aA
 refine zP 31 (some 39) rfl rfl ?_
 obtain ⟨hc_, hf_, ho_, hg_⟩ := Wq HO.out (m := (ix3 k i j)) (by have := HL.out; (try simp only [List.length_set]); unfold ix3; omega) s
 have ho_ := Qa.mk ho_
 have hg_ := Qa.mk (World.grownBy.trans HG.out hg_)
 unfold ix3 at hc_ hf_
 refine zU 32 none rfl rfl (fun K hK => ?_)
 go_simp
 refine hK.out _ _ trivial (fun _ => ?_)
 clear hK K hc_ hf_
 have aA : Qa (Kd.R (Kd.int .i64) 74 _ w0.heap.size aC (.slice (some ⟨g, 0, none⟩) (((l0.set (ix3 i j k) s).set (ix3 j k i) s).set (ix3 k i j) s).length cap) (((l0.set (ix3 i j k) s).set (ix3 j k i) s).set (ix3 k i j) s)) := ho_
 generalize hw_ : World.setCell aH _ _ = aM
 replace HO : Qa (Kd.R (Kd.int .i64) 74 aM w0.heap.size aC (.slice (some ⟨g, 0, none⟩) (((l0.set (ix3 i j k) s).set (ix3 j k i) s).set (ix3 k i j) s).length cap) (((l0.set (ix3 i j k) s).set (ix3 j k i) s).set (ix3 k i j) s)) := ⟨by rw [← hw_]; exact aA.out⟩
 replace HG : Qa (w.grownBy aM (some g)) := ⟨by rw [← hw_]; exact hg_.out⟩
 clear hw_ ho_ hg_ aA
 refine Yp (Zu HT_.out (by kernel_rfl)) ?_
 go_wp2
 refine Xe (n := 36) (S := fun _ => True) (ds := []) #[false, false, false, false, false, false, false, false, false, false, false, false, false, false, false, false, false, false, false, false, false, false, false, false, false, false, false, false, false, false, false, false, false, false, false, false] (by kernel_rfl) rfl rfl trivial (fun hHeld => ?_); refine J6 Jd.tab1 Jd.bits1 (fun HT_ HW_ => ?_)
 generalize hw_ : World.drew _ = aI at hHeld ⊢
 have HO : Qa (Kd.R (Kd.int .i64) 74 aI w0.heap.size aC (.slice (some ⟨g, 0, none⟩) (((l0.set (ix3 i j k) s).set (ix3 j k i) s).set (ix3 k i j) s).length cap) (((l0.set (ix3 i j k) s).set (ix3 j k i) s).set (ix3 k i j) s)) := ⟨by rw [← hw_]; exact Kd.R_drew HO.out⟩
 have HG : Qa (w.grownBy aI (some g)) := ⟨by rw [← hw_]; exact ⟨HG.out.os, HG.out.tape, HG.out.output, HG.out.size, HG.out.block⟩⟩
 clear hw_
 refine zP 0 (some 40) rfl rfl ?_
 refine zP 1 (some 41) rfl rfl ?_
 refine zP 2 (some 42) rfl rfl ?_
 refine zP 3 (some 43) rfl rfl ?_
 refine zP 4 (some 44) rfl rfl ?_
 refine zP 5 (some 45) rfl rfl ?_
 refine zP 6 (some 46) rfl rfl ?_
 refine zP 7 (some 47) rfl rfl ?_
 refine zP 8 (some 48) rfl rfl ?_
 refine zP 9 (some 49) rfl rfl ?_
 refine zP 10 (some 50) rfl rfl ?_
 refine zP 11 (some 51) rfl rfl ?_
 refine zP 12 (some 52) rfl rfl ?_
 refine zP 13 (some 53) rfl rfl ?_
 refine zP 14 (some 54) rfl rfl ?_
 refine zP 15 (some 55) rfl rfl ?_
 refine zP 16 (some 56) rfl rfl ?_
 refine zP 17 (some 57) rfl rfl ?_
 refine zP 18 (some 58) rfl rfl ?_
 refine zP 19 (some 59) rfl rfl ?_
 refine zP 20 (some 60) rfl rfl ?_
 refine zP 21 (some 61) rfl rfl ?_
 refine zP 22 (some 62) rfl rfl ?_
 refine zP 24 (some 63) rfl rfl ?_
 refine zP 25 (some 64) rfl rfl ?_
 refine zP 26 (some 65) rfl rfl ?_
 refine zP 27 (some 66) rfl rfl ?_
 refine zP 30 (some 68) rfl rfl ?_
 refine zP 31 (some 69) rfl rfl ?_
 refine zP 32 (some 70) rfl rfl ?_
 refine zP 33 (some 71) rfl rfl ?_
 obtain ⟨hc_, hf_, ho_, hg_⟩ := Wq HO.out (m := (ix3 i k j)) (by have := HL.out; (try simp only [List.length_set]); unfold ix3; omega) (-s)
 have ho_ := Qa.mk ho_
 have hg_ := Qa.mk (World.grownBy.trans HG.out hg_)
 unfold ix3 at hc_ hf_
 refine zU 23 none rfl rfl (fun K hK => ?_)
 go_simp
 refine hK.out _ _ trivial (fun _ => ?_)
 clear hK K hc_ hf_
 have aA : Qa (Kd.R (Kd.int .i64) 74 _ w0.heap.size aC (.slice (some ⟨g, 0, none⟩) ((((l0.set (ix3 i j k) s).set (ix3 j k i) s).set (ix3 k i j) s).set (ix3 i k j) (-s)).length cap) ((((l0.set (ix3 i j k) s).set (ix3 j k i) s).set (ix3 k i j) s).set (ix3 i k j) (-s))) := ho_
 generalize hw_ : World.setCell aI _ _ = aJ
 rw [show wrap64 (-s) = -s by unfold wrap64; omega] at hw_
 replace HO : Qa (Kd.R (Kd.int .i64) 74 aJ w0.heap.size aC (.slice (some ⟨g, 0, none⟩) ((((l0.set (ix3 i j k) s).set (ix3 j k i) s).set (ix3 k i j) s).set (ix3 i k j) (-s)).length cap) ((((l0.set (ix3 i j k) s).set (ix3 j k i) s).set (ix3 k i j) s).set (ix3 i k j) (-s))) := ⟨by rw [← hw_]; exact aA.out⟩
 replace HG : Qa (w.grownBy aJ (some g)) := ⟨by rw [← hw_]; exact hg_.out⟩
 clear hw_ ho_ hg_ aA
 refine zP 28 (some 67) rfl rfl ?_
 obtain ⟨hc_, hf_, ho_, hg_⟩ := Wq HO.out (m := (ix3 k j i)) (by have := HL.out; (try simp only [List.length_set]); unfold ix3; omega) (-s)
 have ho_ := Qa.mk ho_
 have hg_ := Qa.mk (World.grownBy.trans HG.out hg_)
 unfold ix3 at hc_ hf_
 refine zU 29 none rfl rfl (fun K hK => ?_)
 go_simp
 refine hK.out _ _ trivial (fun _ => ?_)
 clear hK K hc_ hf_
 have aA : Qa (Kd.R (Kd.int .i64) 74 _ w0.heap.size aC (.slice (some ⟨g, 0, none⟩) (((((l0.set (ix3 i j k) s).set (ix3 j k i) s).set (ix3 k i j) s).set (ix3 i k j) (-s)).set (ix3 k j i) (-s)).length cap) (((((l0.set (ix3 i j k) s).set (ix3 j k i) s).set (ix3 k i j) s).set (ix3 i k j) (-s)).set (ix3 k j i) (-s))) := ho_
 generalize hw_ : World.setCell aJ _ _ = aK
 rw [show wrap64 (-s) = -s by unfold wrap64; omega] at hw_
 replace HO : Qa (Kd.R (Kd.int .i64) 74 aK w0.heap.size aC (.slice (some ⟨g, 0, none⟩) (((((l0.set (ix3 i j k) s).set (ix3 j k i) s).set (ix3 k i j) s).set (ix3 i k j) (-s)).set (ix3 k j i) (-s)).length cap) (((((l0.set (ix3 i j k) s).set (ix3 j k i) s).set (ix3 k i j) s).set (ix3 i k j) (-s)).set (ix3 k j i) (-s))) := ⟨by rw [← hw_]; exact aA.out⟩
 replace HG : Qa (w.grownBy aK (some g)) := ⟨by rw [← hw_]; exact hg_.out⟩
 clear hw_ ho_ hg_ aA
 refine zP 34 (some 72) rfl rfl ?_
 obtain ⟨hc_, hf_, ho_, hg_⟩ := Wq HO.out (m := (ix3 j i k)) (by have := HL.out; (try simp only [List.length_set]); unfold ix3; omega) (-s)
 have ho_ := Qa.mk ho_
 have hg_ := Qa.mk (World.grownBy.trans HG.out hg_)
 unfold ix3 at hc_ hf_
 refine zU 35 none rfl rfl (fun K hK => ?_)
 go_simp
 refine hK.out _ _ trivial (fun _ => ?_)
 clear hK K hc_ hf_
 have aA : Qa (Kd.R (Kd.int .i64) 74 _ w0.heap.size aC (.slice (some ⟨g, 0, none⟩) ((((((l0.set (ix3 i j k) s).set (ix3 j k i) s).set (ix3 k i j) s).set (ix3 i k j) (-s)).set (ix3 k j i) (-s)).set (ix3 j i k) (-s)).length cap) ((((((l0.set (ix3 i j k) s).set (ix3 j k i) s).set (ix3 k i j) s).set (ix3 i k j) (-s)).set (ix3 k j i) (-s)).set (ix3 j i k) (-s))) := ho_
 generalize hw_ : World.setCell aK _ _ = aN
 rw [show wrap64 (-s) = -s by unfold wrap64; omega] at hw_
 replace HO : Qa (Kd.R (Kd.int .i64) 74 aN w0.heap.size aC (.slice (some ⟨g, 0, none⟩) ((((((l0.set (ix3 i j k) s).set (ix3 j k i) s).set (ix3 k i j) s).set (ix3 i k j) (-s)).set (ix3 k j i) (-s)).set (ix3 j i k) (-s)).length cap) ((((((l0.set (ix3 i j k) s).set (ix3 j k i) s).set (ix3 k i j) s).set (ix3 i k j) (-s)).set (ix3 k j i) (-s)).set (ix3 j i k) (-s))) := ⟨by rw [← hw_]; exact aA.out⟩
 replace HG : Qa (w.grownBy aN (some g)) := ⟨by rw [← hw_]; exact hg_.out⟩
 clear hw_ ho_ hg_ aA
 refine Yp (Zu HT_.out (by kernel_rfl)) ?_
 go_wp2
 go_end0
 exact ⟨rfl, HO.out, HG.out⟩
theorem Vi (l : List Int) (i j k : Nat) (s : Int) : (jHq l i j k s).length = l.length := by simp only [jHq, List.length_set]
theorem Jd.calls (aC : Nat → Prop) (aA : Value) (l0 : List Int) (a1 : Int) (a2 : Int) (a3 : Int) (a4 : Int) (r : List Int) (w0 w : World) (hB : Below w0.heap.size w0 w) (ho0 : Kd.R (Kd.int .i64) 74 w w0.heap.size aC aA l0) (h : Jd.f l0 a1 a2 a3 a4 = some r) :
  Calls Tryz.prog 56 #[jKf aA, .int .i64 a1, .int .i64 a2, .int .i64 a3, .int .i64 a4] w fun e w' => e = .returned (.tuple #[]) ∧ Kd.R (Kd.int .i64) 74 w' w0.heap.size (fun k_ => (aC k_ ∨ w.heap.size ≤ k_)) aA r ∧ Below w0.heap.size w0 w' ∧ Kept w w' (fun k_ => aC k_) := by
 unfold Jd.f at h
 by_cases hc : l0.length = 344 ∧ (0 ≤ a1 ∧ a1 < 7) ∧ (0 ≤ a2 ∧ a2 < 7) ∧ (0 ≤ a3 ∧ a3 < 7) ∧ -1 ≤ a4 ∧ a4 ≤ 1
 ·rw [if_pos hc] at h
  obtain ⟨hl, ⟨h10, h11⟩, ⟨h20, h21⟩, ⟨aD, h31⟩, aG, aH⟩ := hc
  obtain rfl := Option.some.inj h
  obtain ⟨g, cap, rfl, hb, hlt, _⟩ := Kd.R_form ho0 (by omega)
  obtain ⟨i, rfl⟩ := Int.eq_ofNat_of_zero_le h10
  obtain ⟨j, rfl⟩ := Int.eq_ofNat_of_zero_le h20
  obtain ⟨k, rfl⟩ := Int.eq_ofNat_of_zero_le aD
  simp only [Int.toNat_natCast]
  refine (Jd.walk g cap i j k a4 l0 aC w0 w hl (by omega) (by omega) (by omega) aG aH ho0).mono ?_
  rintro e w' ⟨rfl, ho, hg⟩
  have hP : aC g := ho0.1 g rfl
  rw [Vi] at ho
  exact ⟨rfl, Kd.R_mono ho (fun _ hk => Or.inl hk), hB.grown hg hB.size (fun k hk => by injection hk with hk; omega), hg.size, fun i hi hn => hg.block i hi (by intro e; injection e with e; subst e; exact hn hP)⟩
 rw [if_neg hc] at h
 cases h
end Go.Proofs.YtckkfjdkaimmhaaGreatDoor.G
namespace Go.Proofs.YtckkfjdkaimmhaaGreatDoor.PX
open Go.RowKit Go.Proofs.YtckkfjdkaimmhaaGreatDoor.G Go.Proofs.YtckkfjdkaimmhaaGreatDoorW.PrintWords Go.Proofs.YtckkfjdkaimmhaaGreatDoorW.PrintLast Go.Proofs.YtckkfjdkaimmhaaGreatDoorW.PrintMore
attribute [local go_sem] max2_int min2_int Yv Yx Xm Xl X9 Yb   -- for this text's walks alone
set_option linter.unusedVariables false
set_option linter.unusedSimpArgs false
theorem jM4 (d : Nat) (w : World) (x0 y0 : Int) (x1 y1 : ByteArray) :
  (Op.equalIn (d + 2) 25 (.agg #[.int .i64 x0, .string x1]) (.agg #[.int .i64 y0, .string y1])).run Tryz.prog w = .ok (x0 == y0 && (x1.toList == y1.toList)) w := by
 refine jJj Tryz.underlying25 (by kernel_rfl) ?_
 refine jFc (by rfl) (by go_simp; rfl) (by go_simp; rfl) (by go_simp) ?_
 exact jEt (by rfl) (by go_simp; rfl) (by go_simp; rfl) (by go_simp)
mutual
def Qw.j0 : Nat → Bool → Int → ByteArray → Option (Bool)
 | 0, _, _, _ => none
 | k + 1, x28, aA, aC => if x28 = true then (some false) else (Qw.l0 k 0 aA aC)
def Qw.l0 : Nat → Int → Int → ByteArray → Option (Bool)
 | 0, _, _, _ => none
 | k + 1, x3, aC, aA => if x3 < (aA.size : Int) then (if 0 ≤ x3 then (if (bt aA x3) = 43 then (Qw.l0 k (wrap64 (x3 + 1)) aC aA) else (if (bt aA x3) = 45 then (Qw.l0 k (wrap64 (x3 + 1)) aC aA) else (some false))) else (none)) else (some true)
end
def Qw.f (k : Nat) (aA : Int) (aC : ByteArray) : Option (Bool) := if aA < 3 then (Qw.j0 k true aA aC) else (if aA > 7 then (Qw.j0 k true aA aC) else (Qw.j0 k ((aC.size : Int) != (wrap64 (Int.tdiv (wrap64 ((wrap64 (aA * (wrap64 (aA - 1)))) * (wrap64 (aA - 2)))) 6))) aA aC))
set_option maxHeartbeats 8000000 in
set_option maxRecDepth 100000 in
theorem Qw.calls (k : Nat) (aH : Int) (aD : ByteArray) (r : Bool) (w : World) (h : Qw.f k aH aD = some r) :
  Calls Tryz.prog 24 #[.agg #[.int .i64 aH, .string aD]] w fun e w' => e = .returned (.bool r) ∧ Below w.heap.size w w' := by
 have dF := Tryz.underlying25
 have HB := Qa.mk (Below.refl w.heap.size w)
 have H := h
 unfold Qw.f at H
 clear h
 have bR := Qa.mk H
 clear H
 go_enter Tryz.func24, Tryz.ntmps24
 go_upto_region 1 with (first | ((with_reducible refine Qm (N := 1) rfl ?_); (try (refine Zq (by rfl) ?_; dsimp only)); refine zBx (N := 1) #[.int .i64 aH, .string aD] 25 ?_; intro aK hg w3 hbox hb; have aA := Qa.mk (hbox); have dC := zS hg; have aG := zS hg; replace HB := zX hb; clear hb hbox hg))
 (try simp only [Act.put, List.setIfInBounds_toArray, List.set_cons_zero, List.set_cons_succ])
 go_cut [28] (fun v28 wc => ∃ (kq : Nat) (aI : Bool), v28 = .bool aI ∧ Qa (Qw.j0 kq aI aH aD = some r) ∧ Qa (kq ≤ k) ∧ Qa (wc.heap[aK]? = some (.cells #[.int .i64 aH, .string aD] 25 (0, 0))) ∧ Qa (Below w.heap.size w wc))
 case first =>
  have H := bR.out
  clear bR
  replace H := Xr H
  rcases H with ⟨aJ, H⟩ | ⟨aJ, H⟩
  ·(first | rw [aJ] | (simp only [Zj, Zl]; rw [aJ]) | skip)
   have H' := Qa.mk H; clear H
   obtain ⟨bS, bT, bU, bV⟩ := zq2 aA.out
   go_wp2
   go_meet
   case rel => exact ⟨_, (true), zF, H', ⟨by first | omega | exact Nat.le_refl _⟩, ⟨zK aA.out⟩, ⟨zG aG.out⟩⟩
  (first | rw [aJ] | (simp only [Zj, Zl]; rw [aJ]) | skip)
  replace H := X8 H
  rcases H with ⟨c6, H⟩ | ⟨c6, H⟩
  ·have bW : decide (7 < aH) = true := decide_eq_true c6
   clear c6
   have H' := Qa.mk H; clear H
   obtain ⟨bX, bY, bZ, cB⟩ := zq2 aA.out
   go_wp2
   go_meet
   case rel => exact ⟨_, (true), zF, H', ⟨by first | omega | exact Nat.le_refl _⟩, ⟨zK aA.out⟩, ⟨zG aG.out⟩⟩
  have bW : decide (7 < aH) = false := decide_eq_false c6
  clear c6
  have H' := Qa.mk H; clear H
  obtain ⟨cK, cO, cZ, dA⟩ := zq2 aA.out
  go_wp2
  go_meet
  case rel => exact ⟨_, (((aD.size : Int) != (wrap64 (Int.tdiv (wrap64 ((wrap64 (aH * (wrap64 (aH - 1)))) * (wrap64 (aH - 2)))) 6)))), zF, H', ⟨by first | omega | exact Nat.le_refl _⟩, ⟨zK aA.out⟩, ⟨zG aG.out⟩⟩
 case rest =>
 clear bR
 obtain ⟨kq, aI, rfl, HA, aZ, aA, HB⟩ := hcut
 cases kq with
 | zero => exact absurd HA.out (by simp [Qw.j0])
 | succ dD =>
 have H := HA.out
 clear HA
 simp only [Qw.j0] at H
 by_cases c9 : aI = true
 ·subst c9
  replace H := (if_pos rfl).symm.trans H
  obtain rfl := Option.some.inj H
  go_wp2
  go_ret
  exact ⟨zE, zG aG.out⟩
 replace c9 := Bool.eq_false_iff.mpr c9
 subst c9
 replace H := (if_neg zFf).symm.trans H
 have H' := Qa.mk H; clear H
 go_wp2
 go_loopg [3] dD (fun kq v3 w' => ∃ (aC : Int), v3 = .int .i64 aC ∧ Qa (Qw.l0 kq aC aH aD = some r) ∧ Qa (kq ≤ dD) ∧ Qa (w'.heap[aK]? = some (.cells #[.int .i64 aH, .string aD] 25 (0, 0))) ∧ Qa (Below w.heap.size w w'))
 case atStart => exact ⟨(0), zF, H', ⟨Nat.le_refl _⟩, ⟨zK aA.out⟩, ⟨zG aG.out⟩⟩
 case round =>
 clear H'
 try clear c9
 obtain ⟨aC, rfl, HA, bA, aA, HB⟩ := hrel
 cases gk with
 | zero => exact absurd HA.out (by simp [Qw.l0])
 | succ k2 =>
 have H := HA.out
 clear HA
 simp only [Qw.l0] at H
 replace H := Xr H
 rcases H with ⟨aN, H⟩ | ⟨aN, H⟩
 ·replace H := J5 H
  rcases H with ⟨dE, H⟩ | ⟨c11, H⟩
  ·replace H := Zc H
   rcases H with ⟨aQ, aT, H⟩ | ⟨c13, aQ, aT, H⟩
   ·have H' := Qa.mk H; clear H
    obtain ⟨bB, bC, bD, bE⟩ := zq2 aA.out
    have p12 : 0 ≤ (aC : Int) := zA
    have aM : aC < (aD.size : Int) := zA
    have aU := Yh aD aC
    replace p12 := eq_true p12
    replace aM := eq_true aM
    go_wp2
    go_roundg k2
    case measure => have := aZ.out; have := bA.out; omega
    case rel => exact ⟨(wrap64 (aC + 1)), zF, H', ⟨by have := aZ.out; have := bA.out; omega⟩, ⟨zK aA.out⟩, ⟨zG aG.out⟩⟩
   replace H := Zc H
   rcases H with ⟨aV, aW, H⟩ | ⟨c16, aV, aW, H⟩
   ·have H' := Qa.mk H; clear H
    obtain ⟨bF, bG, bH, bI⟩ := zq2 aA.out
    have p12 : 0 ≤ (aC : Int) := zA
    have aM : aC < (aD.size : Int) := zA
    have aU := Yh aD aC
    replace p12 := eq_true p12
    replace aM := eq_true aM
    have aX : 0 ≤ (aC : Int) := zA
    have aY : aC < (aD.size : Int) := zA
    have dB := Yh aD aC
    replace aX := eq_true aX
    replace aY := eq_true aY
    go_wp2
    go_roundg k2
    case measure => have := aZ.out; have := bA.out; omega
    case rel => exact ⟨(wrap64 (aC + 1)), zF, H', ⟨by have := aZ.out; have := bA.out; omega⟩, ⟨zK aA.out⟩, ⟨zG aG.out⟩⟩
   obtain rfl := Option.some.inj H
   obtain ⟨bJ, bK, bL, bM⟩ := zq2 aA.out
   have p12 : 0 ≤ (aC : Int) := zA
   have aM : aC < (aD.size : Int) := zA
   have aU := Yh aD aC
   replace p12 := eq_true p12
   replace aM := eq_true aM
   have aX : 0 ≤ (aC : Int) := zA
   have aY : aC < (aD.size : Int) := zA
   have dB := Yh aD aC
   replace aX := eq_true aX
   replace aY := eq_true aY
   go_wp2
   go_ret
   exact ⟨zE, zG aG.out⟩
  exact absurd H (by simp)
 obtain rfl := Option.some.inj H
 obtain ⟨bN, bO, bP, bQ⟩ := zq2 aA.out
 go_wp2
 go_ret
 exact ⟨zE, zG aG.out⟩
def J9.f (k : Nat) (aD : Int) (aA : ByteArray) : Option (ByteArray) := (Qw.f k aD aA).bind fun aG => (if aG = true then ((Yf.f aD).bind fun aC => (if aC.size + 1 ≤ 9223372036854775807 then (if aC.size + 1 + aA.size ≤ 9223372036854775807 then (some ((aC ++ (⟨#[58]⟩ : ByteArray)) ++ aA)) else (none)) else (none))) else (some (⟨#[]⟩ : ByteArray)))
def J9.T3 : Bool × List (List Nat × List Nat) := (true, [([], []), ([0], [0]), ([1], [1]), ([2], [2]), ([], []), ([4], [4]), ([3, 5], [3, 5]), ([6, 2, 0, 1, 2, 3, 4, 5, 6], [6])])
def J9.B3 : List Nat := [0, 1, 3, 7, 0, 16, 63, 127]
theorem J9.tab3 : Vv .any (opsOf Tryz.f26 3) = J9.T3 := by kernel_rfl
theorem J9.bits3 : Zz J9.T3.2 J9.B3 = true := by kernel_rfl
theorem jKc {p q p0 : Prop} (g : p) (g0 : p0) (h : p → p0 → q := by intro zg_ aA; repeat (first | (with_reducible first | exact zg_ | apply Qv | apply Qr | apply Qo | refine Qf ?_ aA) | exact zg_)) : q := h g g0
set_option maxHeartbeats 8000000 in
set_option maxRecDepth 100000 in
theorem J9.calls (k : Nat) (aD : Int) (aG : ByteArray) (r : ByteArray) (w : World) (h : J9.f k aD aG = some r) (hT : T1 w) :
  Calls Tryz.prog 26 #[.agg #[.int .i64 aD, .string aG]] w fun e w' => e = .returned (.string r) ∧ Below w.heap.size w w' := by
 have HT := Qa.mk hT
 clear hT
 have aY := Tryz.underlying25
 have HB := Qa.mk (Below.refl w.heap.size w)
 have H := h
 unfold J9.f at H
 clear h
 obtain ⟨aT, A2, H⟩ := zO H
 by_cases c3 : aT = true
 ·subst c3
  replace H := (if_pos rfl).symm.trans H
  obtain ⟨aI, A4, H⟩ := zO H
  replace H := Yj H
  rcases H with ⟨c5, aZ, bA, H⟩ | ⟨c5, H⟩
  ·try have bB : (9223372036854775807 < aI.size + 1) = False := eq_false (Nat.not_lt.2 c5)
   replace H := Yj H
   rcases H with ⟨c6, bC, bD, H⟩ | ⟨c6, H⟩
   ·try have bE : (9223372036854775807 < aI.size + 1 + aG.size) = False := eq_false (Nat.not_lt.2 c6)
    obtain rfl := Option.some.inj H
    go_enter Tryz.func26, Tryz.ntmps26
    try go_wp2_with (first | ((with_reducible refine Qm (N := 1) rfl ?_); refine zBx (N := 1) #[.int .i64 aD, .string aG] 25 ?_; intro aH hg w7 hbox hb; have aA := Qa.mk (hbox); have aJ := zS hg; have aC := zS hg; replace HB := zX hb; clear hb hbox hg; obtain ⟨aU, aV, aW, aX⟩ := zq2 aA.out) | ((with_reducible refine Qd (f := 24) rfl ?_); refine zD (some 4) Tryz.func24 _ ((Qw.calls k aD aG true _ A2.out).mono ?_); rintro e w9 ⟨rfl, hb⟩; refine ⟨_, rfl, ?_⟩; replace aA := zV aA.out hb; replace HB := zX1 aC.out hb; (try clear hb)))
    replace aA := Qa.mk (Qk aA.out)
    replace HB := Qa.mk (Qo HB.out)
    refine Xe (n := 8) (S := fun w' => w'.cell? ⟨aH, 0, none⟩ = some (.int .i64 aD) ∧ w'.cell? ⟨aH, 1, none⟩ = some (.string aG)) (ds := []) #[false, false, false, false, false, false, false, false] (by kernel_rfl) rfl rfl ⟨(Qj aA.out 0).trans rfl, (Qj aA.out 1).trans rfl⟩ (fun hHeld => ?_); refine J6 J9.tab3 J9.bits3 (fun HT_ HW_ => ?_)
    generalize w9.drew = bF at aA HB hHeld ⊢
    refine zP 0 (some 6) rfl rfl ?_
    refine zP 4 (some 10) rfl rfl ?_
    refine zY2 1 (some 7) rfl rfl hHeld ?_
    refine zY2 5 (some 11) rfl rfl hHeld ?_
    refine zU 2 (some 8) rfl rfl (fun K hK => ?_)
    refine X0 Tryz.func79 (by kernel_rfl) rfl #[.int .i64 aD] (by rfl) rfl rfl zM ?_
    with_reducible refine (Yf.calls aD aI _ A4.out (HT.out.below ?sideT)).mono ?_
    case sideT => exact (jKc HB.out aC.out)
    rintro e bG ⟨rfl, hb⟩
    refine ⟨_, rfl, ?_⟩
    replace aA := zV aA.out hb
    replace HB := zX1 aC.out hb
    (try clear hb)
    refine hK.out _ _ (zh2 aA.out) (fun hHeld => ?_)
    clear hK K
    refine zN ?_
    refine zP 3 (some 9) rfl rfl ?_
    refine zP 6 (some 12) rfl rfl ?_
    refine zP 7 (some 2) rfl rfl ?_
    refine Yp (Zu HT_.out (by kernel_rfl)) ?_
    try go_wp2
    go_ret
    exact ⟨zE, zG aC.out⟩
   exact absurd H (by simp)
  exact absurd H (by simp)
 replace c3 := Bool.eq_false_iff.mpr c3
 subst c3
 replace H := (if_neg zFf).symm.trans H
 obtain rfl := Option.some.inj H
 go_enter Tryz.func26, Tryz.ntmps26
 go_wp2_with (first | ((with_reducible refine Qm (N := 1) rfl ?_); refine zBx (N := 1) #[.int .i64 aD, .string aG] 25 ?_; intro aH hg bH hbox hb; have aA := Qa.mk (hbox); have aJ := zS hg; have aC := zS hg; replace HB := zX hb; clear hb hbox hg; obtain ⟨aK, aM, aN, aQ⟩ := zq2 aA.out) | ((with_reducible refine Qd (f := 24) rfl ?_); refine zD (some 4) Tryz.func24 _ ((Qw.calls k aD aG false _ A2.out).mono ?_); rintro e bI ⟨rfl, hb⟩; refine ⟨_, rfl, ?_⟩; replace aA := zV aA.out hb; replace HB := zX1 aC.out hb; (try clear hb)))
 go_ret
 exact ⟨zE, zG aC.out⟩
def Z7.f (aA : Int) (aC : Int) (aD : Int) (aG : Int) (aH : Int) (aI : Int) : Option (Int) := some (wrap64 ((wrap64 ((wrap64 (aD - aA)) * (wrap64 (aI - aC)))) - (wrap64 ((wrap64 (aG - aC)) * (wrap64 (aH - aA))))))
set_option maxHeartbeats 8000000 in
set_option maxRecDepth 100000 in
theorem Z7.calls (aQ : Int) (aT : Int) (aU : Int) (aV : Int) (aW : Int) (aX : Int) (r : Int) (w : World) (h : Z7.f aQ aT aU aV aW aX = some r) :
  Calls Tryz.prog 59 #[.agg #[.int .i64 aQ, .int .i64 aT], .agg #[.int .i64 aU, .int .i64 aV], .agg #[.int .i64 aW, .int .i64 aX]] w fun e w' => e = .returned (.int .i64 r) ∧ Below w.heap.size w w' := by
 have bU := Tryz.underlying48
 have HB := Qa.mk (Below.refl w.heap.size w)
 have H := h
 unfold Z7.f at H
 clear h
 obtain rfl := Option.some.inj H
 go_enter Tryz.func59, Tryz.ntmps59
 go_wp2_with (first | ((with_reducible refine Qm (N := 3) rfl ?_); refine zBx (N := 3) #[.int .i64 aQ, .int .i64 aT] 48 ?_; intro bM hg w4 hbox hb; have aA := Qa.mk (hbox); have bN := zS hg; have aC := zS hg; replace HB := zX hb; clear hb hbox hg) | ((with_reducible refine Qm (N := 4) rfl ?_); refine zBx (N := 4) #[.int .i64 aU, .int .i64 aV] 48 ?_; intro bO hg w5 hbox hb; have aD := Qa.mk (hbox); have bP := zSg hg (zG aC.out); have aG := zSg hg (zG aC.out); have aH := zL hg aA.out; have aI := zLg hg aA.out; replace aA := zV aA.out hb; replace HB := zX1 aC.out hb; clear hb hbox hg) | ((with_reducible refine Qm (N := 5) rfl ?_); refine zBx (N := 5) #[.int .i64 aW, .int .i64 aX] 48 ?_; intro bQ hg w6 hbox hb; have aY := Qa.mk (hbox); have bR := zSg hg (zG2 aC.out aG.out); have aZ := zSg hg (zG2 aC.out aG.out); have aJ := zL hg aA.out; have aK := zLg hg aA.out; replace aA := zV aA.out hb; have aM := zL hg aD.out; have aN := zLg hg aD.out; replace aD := zV aD.out hb; replace HB := Qa.mk (Qg (zG2 aC.out aG.out) hb); clear hb hbox hg; have bV := aI.out; have bW := aH.out; have bX := aM.out; have bY := aN.out; obtain ⟨bI, bJ, bK, bL⟩ := zq2 aD.out; have bS := aJ.out; have bT := aK.out; obtain ⟨bA, bB, bC, bD⟩ := zq2 aA.out; obtain ⟨bE, bF, bG, bH⟩ := zq2 aY.out))
 go_ret
 exact ⟨zE, zG3 aC.out aG.out aZ.out⟩
def Jh.f (a0 : Int) (a1 : Int) (a2 : Int) : Option (Bool) := if a0 ≥ a1 then (some (decide (a0 ≤ a2))) else (some false)
set_option maxHeartbeats 8000000 in
set_option maxRecDepth 100000 in
theorem Jh.calls (a0 : Int) (a1 : Int) (a2 : Int) (r : Bool) (w : World) (h : Jh.f a0 a1 a2 = some r) :
  Calls Tryz.prog 70 #[.int .i64 a0, .int .i64 a1, .int .i64 a2] w fun e w' => e = .returned (.bool r) ∧ Jj w w' := by
 have H := h
 unfold Jh.f at H
 clear h
 replace H := X8 H
 rcases H with ⟨c4, H⟩ | ⟨c4, H⟩
 ·have aA : decide (a1 ≤ a0) = true := decide_eq_true c4
  clear c4
  obtain rfl := Option.some.inj H
  go_enter Tryz.func70, Tryz.ntmps70
  go_wp2
  go_ret
  exact ⟨by first | rfl | (simp; done) | (simp [*]; done), by repeat (first | exact Jj.refl _ | apply Jj.step)⟩
 have aA : decide (a1 ≤ a0) = false := decide_eq_false c4
 clear c4
 obtain rfl := Option.some.inj H
 go_enter Tryz.func70, Tryz.ntmps70
 go_wp2
 go_ret
 exact ⟨by first | rfl | (simp; done) | (simp [*]; done), by repeat (first | exact Jj.refl _ | apply Jj.step)⟩
def Ym.f (aA : Int) (aC : Int) (a1 : Int) : Option (Bool) := (Jh.f aA (wrap64 (-a1)) a1).bind fun aD => (if aD = true then ((Jh.f aC (wrap64 (-a1)) a1).bind fun aG => (some aG)) else (some false))
set_option maxHeartbeats 8000000 in
set_option maxRecDepth 100000 in
theorem Ym.calls (aA : Int) (aC : Int) (a1 : Int) (r : Bool) (w : World) (h : Ym.f aA aC a1 = some r) :
  Calls Tryz.prog 90 #[.agg #[.int .i64 aA, .int .i64 aC], .int .i64 a1] w fun e w' => e = .returned (.bool r) ∧ Below w.heap.size w w' := by
 have aY := Tryz.underlying48
 have HB := Qa.mk (Below.refl w.heap.size w)
 have H := h
 unfold Ym.f at H
 clear h
 obtain ⟨aJ, A3, H⟩ := zO H
 by_cases c4 : aJ = true
 ·subst c4
  replace H := (if_pos rfl).symm.trans H
  obtain ⟨aK, A5, H⟩ := zO H
  obtain rfl := Option.some.inj H
  go_enter Tryz.func90, Tryz.ntmps90
  go_wp2_with (first | ((with_reducible refine Qm (N := 2) rfl ?_); refine zBx (N := 2) #[.int .i64 aA, .int .i64 aC] 48 ?_; intro aH hg w6 hbox hb; have aD := Qa.mk (hbox); have aI := zS hg; have aG := zS hg; replace HB := zX hb; clear hb hbox hg; obtain ⟨aM, aN, aQ, aT⟩ := zq2 aD.out) | ((with_reducible refine Qd (f := 70) rfl ?_); refine zD (some 10) Tryz.func70 _ ((Jh.calls aA (wrap64 (-a1)) a1 true _ A3.out).mono ?_); rintro e w' ⟨rfl, ⟨nd, rfl⟩⟩; refine ⟨_, rfl, ?_⟩) | (go_at_call 70; (with_reducible refine (Jh.calls aC (wrap64 (-a1)) a1 aK _ A5.out).mono ?_); rintro e w' ⟨rfl, ⟨nd, rfl⟩⟩))
  go_ret
  exact ⟨zE, zG aG.out⟩
 replace c4 := Bool.eq_false_iff.mpr c4
 subst c4
 replace H := (if_neg zFf).symm.trans H
 obtain rfl := Option.some.inj H
 go_enter Tryz.func90, Tryz.ntmps90
 go_wp2_with (first | ((with_reducible refine Qm (N := 2) rfl ?_); refine zBx (N := 2) #[.int .i64 aA, .int .i64 aC] 48 ?_; intro aH hg w8 hbox hb; have aD := Qa.mk (hbox); have aI := zS hg; have aG := zS hg; replace HB := zX hb; clear hb hbox hg; obtain ⟨aU, aV, aW, aX⟩ := zq2 aD.out) | ((with_reducible refine Qd (f := 70) rfl ?_); refine zD (some 10) Tryz.func70 _ ((Jh.calls aA (wrap64 (-a1)) a1 false _ A3.out).mono ?_); rintro e w' ⟨rfl, ⟨nd, rfl⟩⟩; refine ⟨_, rfl, ?_⟩))
 go_ret
 exact ⟨zE, zG aG.out⟩
mutual
def Qt.l0 : Nat → List (S48) → Int → Option (Bool)
 | 0, _, _ => none
 | k + 1, x0, x3 => if x3 < (x0.length : Int) then (if 0 ≤ x3 then ((Ym.f ((Qp x0 x3).f0) ((Qp x0 x3).f1) 50).bind fun aA => (if aA = true then (Qt.l1 k x0 x3 0) else (some false))) else (none)) else (some true)
def Qt.l1 : Nat → List (S48) → Int → Int → Option (Bool)
 | 0, _, _, _ => none
 | k + 1, x0, x3, x4 => if x4 < x3 then (Qt.l2 k x0 x3 x4 0) else (Qt.l0 k x0 (wrap64 (x3 + 1)))
def Qt.l2 : Nat → List (S48) → Int → Int → Int → Option (Bool)
 | 0, _, _, _, _ => none
 | k + 1, x0, x3, x4, x5 => if x5 < x4 then (if 0 ≤ x5 then (if x5 < (x0.length : Int) then (if 0 ≤ x4 then (if x4 < (x0.length : Int) then (if 0 ≤ x3 then (if x3 < (x0.length : Int) then ((Z7.f ((Qp x0 x5).f0) ((Qp x0 x5).f1) ((Qp x0 x4).f0) ((Qp x0 x4).f1) ((Qp x0 x3).f0) ((Qp x0 x3).f1)).bind fun aA => (if aA = 0 then (some false) else (Qt.l2 k x0 x3 x4 (wrap64 (x5 + 1))))) else (none)) else (none)) else (none)) else (none)) else (none)) else (none)) else (Qt.l1 k x0 x3 (wrap64 (x4 + 1)))
end
def Qt.f (k : Nat) (l0 : List (S48)) : Option (Bool) := (Jh.f (l0.length : Int) 3 7).bind fun aA => (if aA = true then (Qt.l0 k l0 0) else (some false))
def Qt.T14 : Bool × List (List Nat × List Nat) := (true, [([], []), ([], []), ([0, 1], [0, 1]), ([2], [2]), ([], []), ([], []), ([4, 5], [4, 5]), ([6], [6]), ([], []), ([], []), ([8, 9], [8, 9]), ([10], [10]), ([3, 7, 11], [3, 7, 11]), ([12], [12])])
def Qt.B14 : List Nat := [0, 0, 3, 7, 0, 0, 48, 112, 0, 0, 768, 1792, 4095, 8191]
theorem Qt.tab14 : Vv .any (opsOf Tryz.f46 14) = Qt.T14 := by kernel_rfl
theorem Qt.bits14 : Zz Qt.T14.2 Qt.B14 = true := by kernel_rfl
set_option maxHeartbeats 8000000 in
set_option maxRecDepth 100000 in
theorem Qt.calls (k : Nat) (A0 : Option Addr) (c0 : Nat) (l0 : List (S48)) (r : Bool) (w : World) (hr0 : Kd.C k48 w A0 l0.length l0) (hc0 : l0.length ≤ c0) (h : Qt.f k l0 = some r) :
  Calls Tryz.prog 46 #[.slice A0 l0.length c0] w fun e w' => e = .returned (.bool r) ∧ Below w.heap.size w w' := by
 have dD := Tryz.underlying48
 have bL := Qa.mk hr0
 have dE := Qa.mk hc0
 clear hr0 hc0
 have HB := Qa.mk (Below.refl w.heap.size w)
 have H := h
 unfold Qt.f at H
 clear h
 obtain ⟨bY, A2, H⟩ := zO H
 by_cases c3 : bY = true
 ·subst c3
  replace H := (if_pos rfl).symm.trans H
  have H' := Qa.mk H; clear H
  go_enter Tryz.func46, Tryz.ntmps46
  go_wp2_with (first | ((with_reducible refine Qd (f := 70) rfl ?_); refine zD (some 8) Tryz.func70 _ ((Jh.calls (l0.length : Int) 3 7 true _ A2.out).mono ?_); rintro e w' ⟨rfl, ⟨nd, rfl⟩⟩; refine ⟨_, rfl, ?_⟩))
  go_loopg [3] k (fun kq v3 w' => ∃ (aA : Int), v3 = .int .i64 aA ∧ Qa (Qt.l0 kq l0 aA = some r) ∧ Qa (kq ≤ k) ∧ Qa (Below w.heap.size w w'))
  case atStart => exact ⟨(0), zF, H', ⟨Nat.le_refl _⟩, ⟨zB⟩⟩
  case round =>
  clear H'
  try clear c3
  obtain ⟨aA, rfl, HA, bP, HB⟩ := hrel
  cases gk with
  | zero => exact absurd HA.out (by simp [Qt.l0])
  | succ k1 =>
  have H := HA.out
  clear HA
  simp only [Qt.l0] at H
  replace H := Xr H
  rcases H with ⟨bM, H⟩ | ⟨bM, H⟩
  ·replace H := J5 H
   rcases H with ⟨bR, H⟩ | ⟨c5, H⟩
   ·obtain ⟨bZ, A6, H⟩ := zO H
    by_cases c7 : bZ = true
    ·subst c7
     replace H := (if_pos rfl).symm.trans H
     have H' := Qa.mk H; clear H
     have bA : 0 ≤ (aA : Int) := zA
     have bB : aA < (l0.length : Int) := zA
     obtain ⟨aC, e127, aQ, aT⟩ := Xz bL.out aA bA bB
     cases e127
     replace aQ := (HB.out.cell (World.block_lt_of_cell? w _ aQ)).trans aQ
     replace aT := (HB.out.cell (World.block_lt_of_cell? w _ aT)).trans aT
     replace bA := eq_true bA
     replace bB := eq_true bB
     go_wp2_with (first | ((with_reducible refine Qd (f := 90) rfl ?_); refine zD (some 20) Tryz.func90 _ ((Ym.calls ((Qp l0 aA).f0) ((Qp l0 aA).f1) 50 true _ A6.out).mono ?_); rintro e w8 ⟨rfl, hb⟩; refine ⟨_, rfl, ?_⟩; replace HB := zX hb; (try clear hb)))
     go_loopg [4] k1 (fun kq v4 w' => ∃ (aD : Int), v4 = .int .i64 aD ∧ Qa (Qt.l1 kq l0 aA aD = some r) ∧ Qa (kq ≤ k1) ∧ Qa (Below w.heap.size w w'))
     case atStart => exact ⟨(0), zF, H', ⟨Nat.le_refl _⟩, ⟨zB⟩⟩
     case round =>
     clear H'
     try clear c3
     try clear c4
     try clear bM
     try clear c5
     try clear bR
     try clear c7
     try clear aQ
     try clear aT
     try clear bA
     try clear bB
     obtain ⟨aD, rfl, HA, bQ, HB⟩ := hrel
     cases gk with
     | zero => exact absurd HA.out (by simp [Qt.l1])
     | succ k2 =>
     have H := HA.out
     clear HA
     simp only [Qt.l1] at H
     replace H := Xr H
     rcases H with ⟨bS, H⟩ | ⟨bS, H⟩
     ·have H' := Qa.mk H; clear H
      go_wp2
      go_loopg [5] k2 (fun kq v5 w' => ∃ (aN : Int), v5 = .int .i64 aN ∧ Qa (Qt.l2 kq l0 aA aD aN = some r) ∧ Qa (kq ≤ k2) ∧ Qa (Below w.heap.size w w'))
      case atStart => exact ⟨(0), zF, H', ⟨Nat.le_refl _⟩, ⟨zB⟩⟩
      case round =>
      clear H'
      try clear c3
      try clear c4
      try clear bM
      try clear c5
      try clear bR
      try clear c7
      try clear c9
      try clear bS
      try clear aQ
      try clear aT
      try clear bA
      try clear bB
      obtain ⟨aN, rfl, HA, bX, HB⟩ := hrel
      cases gk with
      | zero => exact absurd HA.out (by simp [Qt.l2])
      | succ k3 =>
      have H := HA.out
      clear HA
      simp only [Qt.l2] at H
      replace H := Xr H
      rcases H with ⟨bT, H⟩ | ⟨bT, H⟩
      ·replace H := J5 H
       rcases H with ⟨cB, H⟩ | ⟨c11, H⟩
       ·replace H := J5 H
        rcases H with ⟨cK, H⟩ | ⟨c12, H⟩
        ·replace H := J5 H
         rcases H with ⟨cO, H⟩ | ⟨c13, H⟩
         ·replace H := J5 H
          rcases H with ⟨cZ, H⟩ | ⟨c14, H⟩
          ·replace H := J5 H
           rcases H with ⟨dA, H⟩ | ⟨c15, H⟩
           ·replace H := J5 H
            rcases H with ⟨dB, H⟩ | ⟨c16, H⟩
            ·obtain ⟨bU, dC, H⟩ := zO H
             replace H := Zc H
             rcases H with ⟨bV, bW, H⟩ | ⟨c18, bV, bW, H⟩
             ·obtain rfl := Option.some.inj H
              try go_wp2
              replace HB := Qa.mk (Qo HB.out)
              have bC : 0 ≤ (aN : Int) := zA
              have bD : aN < (l0.length : Int) := zA
              obtain ⟨bI, e129, aG, aH⟩ := Xz bL.out aN bC bD
              have aU := aH
              have aV := aG
              obtain rfl : aC = bI := (by injection e129)
              replace aG := (HB.out.cell (World.block_lt_of_cell? w _ aG)).trans aG
              replace aH := (HB.out.cell (World.block_lt_of_cell? w _ aH)).trans aH
              replace bC := eq_true bC
              replace bD := eq_true bD
              have bE : 0 ≤ (aD : Int) := zA
              have bF : aD < (l0.length : Int) := zA
              obtain ⟨bJ, bN, aI, aJ⟩ := Xz bL.out aD bE bF
              have aW := aJ
              have aX := aI
              obtain rfl : aC = bJ := (by injection bN)
              replace aI := (HB.out.cell (World.block_lt_of_cell? w _ aI)).trans aI
              replace aJ := (HB.out.cell (World.block_lt_of_cell? w _ aJ)).trans aJ
              replace bE := eq_true bE
              replace bF := eq_true bF
              have bG : 0 ≤ (aA : Int) := zA
              have bH : aA < (l0.length : Int) := zA
              obtain ⟨bK, bO, aK, aM⟩ := Xz bL.out aA bG bH
              have aY := aM
              have aZ := aK
              obtain rfl : aC = bK := (by injection bO)
              replace aK := (HB.out.cell (World.block_lt_of_cell? w _ aK)).trans aK
              replace aM := (HB.out.cell (World.block_lt_of_cell? w _ aM)).trans aM
              replace bG := eq_true bG
              replace bH := eq_true bH
              refine Xe (n := 14) (S := fun w' => w'.cell? (aC.add ((aN).toNat * 2)) = some (.int .i64 ((Qp l0 aN).f0)) ∧ w'.cell? ⟨(aC.add ((aN).toNat * 2)).block, (aC.add ((aN).toNat * 2)).off + 1, none⟩ = some (.int .i64 ((Qp l0 aN).f1)) ∧ w'.cell? (aC.add ((aD).toNat * 2)) = some (.int .i64 ((Qp l0 aD).f0)) ∧ w'.cell? ⟨(aC.add ((aD).toNat * 2)).block, (aC.add ((aD).toNat * 2)).off + 1, none⟩ = some (.int .i64 ((Qp l0 aD).f1)) ∧ w'.cell? (aC.add ((aA).toNat * 2)) = some (.int .i64 ((Qp l0 aA).f0)) ∧ w'.cell? ⟨(aC.add ((aA).toNat * 2)).block, (aC.add ((aA).toNat * 2)).off + 1, none⟩ = some (.int .i64 ((Qp l0 aA).f1))) (ds := []) #[false, false, false, false, false, false, false, false, false, false, false, false, false, false] (by kernel_rfl) rfl rfl ⟨((HB.out.cell (World.block_lt_of_cell? w _ aV)).trans aV), ((HB.out.cell (World.block_lt_of_cell? w _ aU)).trans aU), ((HB.out.cell (World.block_lt_of_cell? w _ aX)).trans aX), ((HB.out.cell (World.block_lt_of_cell? w _ aW)).trans aW), ((HB.out.cell (World.block_lt_of_cell? w _ aZ)).trans aZ), ((HB.out.cell (World.block_lt_of_cell? w _ aY)).trans aY)⟩ (fun hHeld => ?_); refine J6 Qt.tab14 Qt.bits14 (fun HT_ HW_ => ?_)
              generalize wr.drew = dF at HB aG aH aI aJ aK aM hHeld ⊢
              refine zP 0 (some 32) rfl rfl ?_
              refine zP 1 (some 33) rfl rfl ?_
              refine zP 2 (some 34) rfl rfl ?_
              refine zP 4 (some 36) rfl rfl ?_
              refine zP 5 (some 37) rfl rfl ?_
              refine zP 6 (some 38) rfl rfl ?_
              refine zP 8 (some 40) rfl rfl ?_
              refine zP 9 (some 41) rfl rfl ?_
              refine zP 10 (some 42) rfl rfl ?_
              refine zY6 3 (some 35) rfl rfl hHeld ?_
              refine zY6 7 (some 39) rfl rfl hHeld ?_
              refine zY6 11 (some 43) rfl rfl hHeld ?_
              refine zU 12 (some 44) rfl rfl (fun K hK => ?_)
              refine X0 Tryz.func59 (by kernel_rfl) rfl #[.agg #[.int .i64 ((Qp l0 aN).f0), .int .i64 ((Qp l0 aN).f1)], .agg #[.int .i64 ((Qp l0 aD).f0), .int .i64 ((Qp l0 aD).f1)], .agg #[.int .i64 ((Qp l0 aA).f0), .int .i64 ((Qp l0 aA).f1)]] (by rfl) rfl rfl zM ?_
              with_reducible refine (Z7.calls ((Qp l0 aN).f0) ((Qp l0 aN).f1) ((Qp l0 aD).f0) ((Qp l0 aD).f1) ((Qp l0 aA).f0) ((Qp l0 aA).f1) bU _ dC.out).mono ?_
              rintro e dG ⟨rfl, hb⟩
              refine ⟨_, rfl, ?_⟩
              replace HB := zX hb
              (try clear hb)
              refine hK.out _ _ ⟨((HB.out.cell (World.block_lt_of_cell? w _ aV)).trans aV), ((HB.out.cell (World.block_lt_of_cell? w _ aU)).trans aU), ((HB.out.cell (World.block_lt_of_cell? w _ aX)).trans aX), ((HB.out.cell (World.block_lt_of_cell? w _ aW)).trans aW), ((HB.out.cell (World.block_lt_of_cell? w _ aZ)).trans aZ), ((HB.out.cell (World.block_lt_of_cell? w _ aY)).trans aY)⟩ (fun hHeld => ?_)
              clear hK K
              refine zN ?_
              refine zP 13 (some 45) rfl rfl ?_
              refine Yp (Zu HT_.out (by kernel_rfl)) ?_
              try go_wp2
              go_ret
              exact ⟨zE, zB⟩
             have H' := Qa.mk H; clear H
             try go_wp2
             replace HB := Qa.mk (Qo HB.out)
             have bC : 0 ≤ (aN : Int) := zA
             have bD : aN < (l0.length : Int) := zA
             obtain ⟨bI, e129, aG, aH⟩ := Xz bL.out aN bC bD
             have aU := aH
             have aV := aG
             obtain rfl : aC = bI := (by injection e129)
             replace aG := (HB.out.cell (World.block_lt_of_cell? w _ aG)).trans aG
             replace aH := (HB.out.cell (World.block_lt_of_cell? w _ aH)).trans aH
             replace bC := eq_true bC
             replace bD := eq_true bD
             have bE : 0 ≤ (aD : Int) := zA
             have bF : aD < (l0.length : Int) := zA
             obtain ⟨bJ, bN, aI, aJ⟩ := Xz bL.out aD bE bF
             have aW := aJ
             have aX := aI
             obtain rfl : aC = bJ := (by injection bN)
             replace aI := (HB.out.cell (World.block_lt_of_cell? w _ aI)).trans aI
             replace aJ := (HB.out.cell (World.block_lt_of_cell? w _ aJ)).trans aJ
             replace bE := eq_true bE
             replace bF := eq_true bF
             have bG : 0 ≤ (aA : Int) := zA
             have bH : aA < (l0.length : Int) := zA
             obtain ⟨bK, bO, aK, aM⟩ := Xz bL.out aA bG bH
             have aY := aM
             have aZ := aK
             obtain rfl : aC = bK := (by injection bO)
             replace aK := (HB.out.cell (World.block_lt_of_cell? w _ aK)).trans aK
             replace aM := (HB.out.cell (World.block_lt_of_cell? w _ aM)).trans aM
             replace bG := eq_true bG
             replace bH := eq_true bH
             refine Xe (n := 14) (S := fun w' => w'.cell? (aC.add ((aN).toNat * 2)) = some (.int .i64 ((Qp l0 aN).f0)) ∧ w'.cell? ⟨(aC.add ((aN).toNat * 2)).block, (aC.add ((aN).toNat * 2)).off + 1, none⟩ = some (.int .i64 ((Qp l0 aN).f1)) ∧ w'.cell? (aC.add ((aD).toNat * 2)) = some (.int .i64 ((Qp l0 aD).f0)) ∧ w'.cell? ⟨(aC.add ((aD).toNat * 2)).block, (aC.add ((aD).toNat * 2)).off + 1, none⟩ = some (.int .i64 ((Qp l0 aD).f1)) ∧ w'.cell? (aC.add ((aA).toNat * 2)) = some (.int .i64 ((Qp l0 aA).f0)) ∧ w'.cell? ⟨(aC.add ((aA).toNat * 2)).block, (aC.add ((aA).toNat * 2)).off + 1, none⟩ = some (.int .i64 ((Qp l0 aA).f1))) (ds := []) #[false, false, false, false, false, false, false, false, false, false, false, false, false, false] (by kernel_rfl) rfl rfl ⟨((HB.out.cell (World.block_lt_of_cell? w _ aV)).trans aV), ((HB.out.cell (World.block_lt_of_cell? w _ aU)).trans aU), ((HB.out.cell (World.block_lt_of_cell? w _ aX)).trans aX), ((HB.out.cell (World.block_lt_of_cell? w _ aW)).trans aW), ((HB.out.cell (World.block_lt_of_cell? w _ aZ)).trans aZ), ((HB.out.cell (World.block_lt_of_cell? w _ aY)).trans aY)⟩ (fun hHeld => ?_); refine J6 Qt.tab14 Qt.bits14 (fun HT_ HW_ => ?_)
             generalize wr.drew = dH at HB aG aH aI aJ aK aM hHeld ⊢
             refine zP 0 (some 32) rfl rfl ?_
             refine zP 1 (some 33) rfl rfl ?_
             refine zP 2 (some 34) rfl rfl ?_
             refine zP 4 (some 36) rfl rfl ?_
             refine zP 5 (some 37) rfl rfl ?_
             refine zP 6 (some 38) rfl rfl ?_
             refine zP 8 (some 40) rfl rfl ?_
             refine zP 9 (some 41) rfl rfl ?_
             refine zP 10 (some 42) rfl rfl ?_
             refine zY6 3 (some 35) rfl rfl hHeld ?_
             refine zY6 7 (some 39) rfl rfl hHeld ?_
             refine zY6 11 (some 43) rfl rfl hHeld ?_
             refine zU 12 (some 44) rfl rfl (fun K hK => ?_)
             refine X0 Tryz.func59 (by kernel_rfl) rfl #[.agg #[.int .i64 ((Qp l0 aN).f0), .int .i64 ((Qp l0 aN).f1)], .agg #[.int .i64 ((Qp l0 aD).f0), .int .i64 ((Qp l0 aD).f1)], .agg #[.int .i64 ((Qp l0 aA).f0), .int .i64 ((Qp l0 aA).f1)]] (by rfl) rfl rfl zM ?_
             with_reducible refine (Z7.calls ((Qp l0 aN).f0) ((Qp l0 aN).f1) ((Qp l0 aD).f0) ((Qp l0 aD).f1) ((Qp l0 aA).f0) ((Qp l0 aA).f1) bU _ dC.out).mono ?_
             rintro e dI ⟨rfl, hb⟩
             refine ⟨_, rfl, ?_⟩
             replace HB := zX hb
             (try clear hb)
             refine hK.out _ _ ⟨((HB.out.cell (World.block_lt_of_cell? w _ aV)).trans aV), ((HB.out.cell (World.block_lt_of_cell? w _ aU)).trans aU), ((HB.out.cell (World.block_lt_of_cell? w _ aX)).trans aX), ((HB.out.cell (World.block_lt_of_cell? w _ aW)).trans aW), ((HB.out.cell (World.block_lt_of_cell? w _ aZ)).trans aZ), ((HB.out.cell (World.block_lt_of_cell? w _ aY)).trans aY)⟩ (fun hHeld => ?_)
             clear hK K
             refine zN ?_
             refine zP 13 (some 45) rfl rfl ?_
             refine Yp (Zu HT_.out (by kernel_rfl)) ?_
             try go_wp2
             go_roundg k3
             case measure => have := bP.out; have := bQ.out; have := bX.out; omega
             case rel => exact ⟨(wrap64 (aN + 1)), zF, H', ⟨by have := bP.out; have := bQ.out; have := bX.out; omega⟩, ⟨zB⟩⟩
            exact absurd H (by simp)
           exact absurd H (by simp)
          exact absurd H (by simp)
         exact absurd H (by simp)
        exact absurd H (by simp)
       exact absurd H (by simp)
      have H' := Qa.mk H; clear H
      go_wp2
      go_roundg k3
      case measure => have := bP.out; have := bQ.out; have := bX.out; omega
      case rel => exact ⟨(wrap64 (aD + 1)), zF, H', ⟨by have := bP.out; have := bQ.out; have := bX.out; omega⟩, ⟨zB⟩⟩
     have H' := Qa.mk H; clear H
     go_wp2
     go_roundg k2
     case measure => have := bP.out; have := bQ.out; omega
     case rel => exact ⟨(wrap64 (aA + 1)), zF, H', ⟨by have := bP.out; have := bQ.out; omega⟩, ⟨zB⟩⟩
    replace c7 := Bool.eq_false_iff.mpr c7
    subst c7
    replace H := (if_neg zFf).symm.trans H
    obtain rfl := Option.some.inj H
    have bA : 0 ≤ (aA : Int) := zA
    have bB : aA < (l0.length : Int) := zA
    obtain ⟨aC, e127, aQ, aT⟩ := Xz bL.out aA bA bB
    cases e127
    replace aQ := (HB.out.cell (World.block_lt_of_cell? w _ aQ)).trans aQ
    replace aT := (HB.out.cell (World.block_lt_of_cell? w _ aT)).trans aT
    replace bA := eq_true bA
    replace bB := eq_true bB
    go_wp2_with (first | ((with_reducible refine Qd (f := 90) rfl ?_); refine zD (some 20) Tryz.func90 _ ((Ym.calls ((Qp l0 aA).f0) ((Qp l0 aA).f1) 50 false _ A6.out).mono ?_); rintro e dJ ⟨rfl, hb⟩; refine ⟨_, rfl, ?_⟩; replace HB := zX hb; (try clear hb)))
    go_ret
    exact ⟨zE, zB⟩
   exact absurd H (by simp)
  obtain rfl := Option.some.inj H
  go_wp2
  go_ret
  exact ⟨zE, zB⟩
 replace c3 := Bool.eq_false_iff.mpr c3
 subst c3
 replace H := (if_neg zFf).symm.trans H
 obtain rfl := Option.some.inj H
 go_enter Tryz.func46, Tryz.ntmps46
 go_wp2_with (first | ((with_reducible refine Qd (f := 70) rfl ?_); refine zD (some 8) Tryz.func70 _ ((Jh.calls (l0.length : Int) 3 7 false _ A2.out).mono ?_); rintro e w' ⟨rfl, ⟨nd, rfl⟩⟩; refine ⟨_, rfl, ?_⟩))
 go_ret
 exact ⟨zE, zB⟩
def Xb.f (a0 : Int) : Option (ByteArray) := if a0 > 0 then (some (⟨#[43]⟩ : ByteArray)) else (some (⟨#[45]⟩ : ByteArray))
set_option maxHeartbeats 8000000 in
set_option maxRecDepth 100000 in
theorem Xb.calls (a0 : Int) (r : ByteArray) (w : World) (h : Xb.f a0 = some r) :
  Calls Tryz.prog 58 #[.int .i64 a0] w fun e w' => e = .returned (.string r) ∧ Jj w w' := by
 have H := h
 unfold Xb.f at H
 clear h
 replace H := X8 H
 rcases H with ⟨c2, H⟩ | ⟨c2, H⟩
 ·have aA : decide (0 < a0) = true := decide_eq_true c2
  clear c2
  obtain rfl := Option.some.inj H
  go_enter Tryz.func58, Tryz.ntmps58
  go_wp2
  go_ret
  exact ⟨by first | rfl | (simp; done) | (simp [*]; done), by repeat (first | exact Jj.refl _ | apply Jj.step)⟩
 have aA : decide (0 < a0) = false := decide_eq_false c2
 clear c2
 obtain rfl := Option.some.inj H
 go_enter Tryz.func58, Tryz.ntmps58
 go_wp2
 go_ret
 exact ⟨by first | rfl | (simp; done) | (simp [*]; done), by repeat (first | exact Jj.refl _ | apply Jj.step)⟩
mutual
def Qz.l0 : Nat → List (S48) → Int → Int → ByteArray → Option (Int × ByteArray × Bool)
 | 0, _, _, _, _ => none
 | k + 1, x0, x5, aA, aC => if x5 < (x0.length : Int) then (Qz.l1 k x0 x5 (wrap64 (x5 + 1)) aA aC) else (some (aA, aC, true))
def Qz.l1 : Nat → List (S48) → Int → Int → Int → ByteArray → Option (Int × ByteArray × Bool)
 | 0, _, _, _, _, _ => none
 | k + 1, x0, x5, x6, aA, aC => if x6 < (x0.length : Int) then (Qz.l2 k x0 x5 x6 (wrap64 (x6 + 1)) aA aC) else (Qz.l0 k x0 (wrap64 (x5 + 1)) aA aC)
def Qz.l2 : Nat → List (S48) → Int → Int → Int → Int → ByteArray → Option (Int × ByteArray × Bool)
 | 0, _, _, _, _, _, _ => none
 | k + 1, x0, x5, x6, x7, aC, aA => if x7 < (x0.length : Int) then (if 0 ≤ x5 then (if x5 < (x0.length : Int) then (if 0 ≤ x6 then (if x6 < (x0.length : Int) then (if 0 ≤ x7 then ((Z7.f ((Qp x0 x5).f0) ((Qp x0 x5).f1) ((Qp x0 x6).f0) ((Qp x0 x6).f1) ((Qp x0 x7).f0) ((Qp x0 x7).f1)).bind fun aG => ((Xb.f aG).bind fun aD => (if aA.size + aD.size ≤ 9223372036854775807 then (Qz.l2 k x0 x5 x6 (wrap64 (x7 + 1)) aC (aA ++ aD)) else (none)))) else (none)) else (none)) else (none)) else (none)) else (none)) else (Qz.l1 k x0 x5 (wrap64 (x6 + 1)) aC aA)
end
def Qz.f (k : Nat) (l0 : List (S48)) : Option (Int × ByteArray × Bool) := (Qt.f k l0).bind fun aA => (if aA = true then (Qz.l0 k l0 0 (l0.length : Int) (⟨#[]⟩ : ByteArray)) else (some (0, (⟨#[]⟩ : ByteArray), false)))
def Qz.T13 : Bool × List (List Nat × List Nat) := (true, [([], []), ([0], [0]), ([], []), ([], []), ([2, 3], [2, 3]), ([4], [4]), ([], []), ([], []), ([6, 7], [6, 7]), ([8], [8]), ([], []), ([], []), ([10, 11], [10, 11]), ([12], [12]), ([5, 9, 13], [5, 9, 13]), ([14, 14], [14]), ([1, 15], [1, 15]), ([0, 1, 2, 3, 4, 5, 6, 7, 8, 9, 10, 11, 12, 13, 14, 15, 16], []), ([17, 16, 15, 0, 1, 2, 3, 4, 5, 6, 7, 8, 9, 10, 11, 12, 13, 14, 15, 16], [16, 17])])
def Qz.B13 : List Nat := [0, 1, 0, 0, 12, 28, 0, 0, 192, 448, 0, 0, 3072, 7168, 16380, 32764, 65535, 131071, 262143]
theorem Qz.tab13 : Vv .any (opsOf Tryz.f9 13) = Qz.T13 := by kernel_rfl
theorem Qz.bits13 : Zz Qz.T13.2 Qz.B13 = true := by kernel_rfl
set_option maxHeartbeats 8000000 in
set_option maxRecDepth 100000 in
theorem Qz.calls (k : Nat) (A0 : Option Addr) (c0 : Nat) (l0 : List (S48)) (r1 : Int) (r2 : ByteArray) (r3 : Bool) (w : World) (hr0 : Kd.C k48 w A0 l0.length l0) (hc0 : l0.length ≤ c0) (h : Qz.f k l0 = some (r1, r2, r3)) :
  Calls Tryz.prog 9 #[.slice A0 l0.length c0] w fun e w' => e = .returned (.tuple #[.agg #[.int .i64 r1, .string r2], .bool r3]) ∧ Below w.heap.size w w' := by
 have eQ := Tryz.underlying25
 have eU := Tryz.underlying48
 have cK := Qa.mk hr0
 have dU := Qa.mk hc0
 clear hr0 hc0
 have HB := Qa.mk (Below.refl w.heap.size w)
 have H := h
 unfold Qz.f at H
 clear h
 obtain ⟨dR, A2, H⟩ := zO H
 by_cases c3 : dR = true
 ·subst c3
  replace H := (if_pos rfl).symm.trans H
  have H' := Qa.mk H; clear H
  go_enter Tryz.func9, Tryz.ntmps9
  go_wp2_with (first | ((with_reducible refine Qm (N := 2) rfl ?_); refine zBx (N := 2) #[.int .i64 0, .string (⟨#[]⟩ : ByteArray)] 25 ?_; intro bH hg w4 hbox hb; have aA := Qa.mk (hbox); have cO := zS hg; have aH := zS hg; replace HB := zX hb; clear hb hbox hg) | ((with_reducible refine Qd (f := 46) rfl ?_); refine zD (some 9) Tryz.func46 #[.slice A0 l0.length c0] ((Qt.calls k _ _ l0 true _ ?bN ?bO A2.out).mono ?_); (case bN => exact zc (Kd.C_below cK.out HB.out)); (case bO => exact dU.out); rintro e w5 ⟨rfl, hb⟩; refine ⟨_, rfl, ?_⟩; replace aA := zV aA.out hb; replace HB := zX1 aH.out hb; (try clear hb)) | ((with_reducible refine Qm (N := 4) rfl ?_); refine zBx (N := 4) #[.int .i64 0, .string (⟨#[]⟩ : ByteArray)] 25 ?_; intro bI hg w6 hbox hb; have aC := Qa.mk (hbox); have dV := zSg hg (zG aH.out); have bG := zSg hg (zG aH.out); have aG := zL hg aA.out; have bF := zLg hg aA.out; replace aA := zV aA.out hb; replace HB := zX1 aH.out hb; clear hb hbox hg; have eX := bF.out; have eY := aG.out; obtain ⟨bJ, bK, bL, bM⟩ := zq2 aC.out))
  go_loopg [5] k (fun kq v5 w' => ∃ (aK : Int) (aI : ByteArray), v5 = .int .i64 aK ∧ Qa (Qz.l0 kq l0 aK (l0.length : Int) aI = some (r1, r2, r3)) ∧ Qa (kq ≤ k) ∧ Qa (w'.heap[bH]? = some (.cells #[.int .i64 0, .string (⟨#[]⟩ : ByteArray)] 25 (0, 0))) ∧ Qa (w'.heap[bI]? = some (.cells #[.int .i64 (l0.length : Int), .string aI] 25 (0, 0))) ∧ Qa (Below w.heap.size w w'))
  case atStart => exact ⟨(0), ((⟨#[]⟩ : ByteArray)), zF, H', ⟨Nat.le_refl _⟩, ⟨zk2 aA.out aG.out aG.out⟩, ⟨zk0 aC.out⟩, ⟨zG2 aH.out bG.out⟩⟩
  case round =>
  clear H'
  try clear c3
  try clear bJ
  try clear bK
  try clear bL
  try clear bM
  obtain ⟨aK, aI, rfl, HA, bZ, aA, aC, HB⟩ := hrel
  cases gk with
  | zero => exact absurd HA.out (by simp [Qz.l0])
  | succ k1 =>
  have H := HA.out
  clear HA
  simp only [Qz.l0] at H
  replace H := Xr H
  rcases H with ⟨bQ, H⟩ | ⟨bQ, H⟩
  ·have H' := Qa.mk H; clear H
   go_wp2
   go_loopg [6] k1 (fun kq v6 w' => ∃ (aM : Int) (aJ : ByteArray), v6 = .int .i64 aM ∧ Qa (Qz.l1 kq l0 aK aM (l0.length : Int) aJ = some (r1, r2, r3)) ∧ Qa (kq ≤ k1) ∧ Qa (w'.heap[bH]? = some (.cells #[.int .i64 0, .string (⟨#[]⟩ : ByteArray)] 25 (0, 0))) ∧ Qa (w'.heap[bI]? = some (.cells #[.int .i64 (l0.length : Int), .string aJ] 25 (0, 0))) ∧ Qa (Below w.heap.size w w'))
   case atStart => exact ⟨(wrap64 (aK + 1)), (aI), zF, H', ⟨Nat.le_refl _⟩, ⟨zK aA.out⟩, ⟨zK aC.out⟩, ⟨zG2 aH.out bG.out⟩⟩
   case round =>
   clear H'
   try clear c3
   try clear c9
   try clear bQ
   try clear bJ
   try clear bK
   try clear bL
   try clear bM
   obtain ⟨aM, aJ, rfl, HA, cB, aA, aC, HB⟩ := hrel
   cases gk with
   | zero => exact absurd HA.out (by simp [Qz.l1])
   | succ k2 =>
   have H := HA.out
   clear HA
   simp only [Qz.l1] at H
   replace H := Xr H
   rcases H with ⟨bP, H⟩ | ⟨bP, H⟩
   ·have H' := Qa.mk H; clear H
    go_wp2
    go_loopg [7] k2 (fun kq v7 w' => ∃ (aY : Int) (aD : ByteArray), v7 = .int .i64 aY ∧ Qa (Qz.l2 kq l0 aK aM aY (l0.length : Int) aD = some (r1, r2, r3)) ∧ Qa (kq ≤ k2) ∧ Qa (w'.heap[bH]? = some (.cells #[.int .i64 0, .string (⟨#[]⟩ : ByteArray)] 25 (0, 0))) ∧ Qa (w'.heap[bI]? = some (.cells #[.int .i64 (l0.length : Int), .string aD] 25 (0, 0))) ∧ Qa (Below w.heap.size w w'))
    case atStart => exact ⟨(wrap64 (aM + 1)), (aJ), zF, H', ⟨Nat.le_refl _⟩, ⟨zK aA.out⟩, ⟨zK aC.out⟩, ⟨zG2 aH.out bG.out⟩⟩
    case round =>
    clear H'
    try clear c3
    try clear c9
    try clear bQ
    try clear c10
    try clear bP
    try clear bJ
    try clear bK
    try clear bL
    try clear bM
    obtain ⟨aY, aD, rfl, HA, dC, aA, aC, HB⟩ := hrel
    cases gk with
    | zero => exact absurd HA.out (by simp [Qz.l2])
    | succ k3 =>
    have H := HA.out
    clear HA
    simp only [Qz.l2] at H
    replace H := Xr H
    rcases H with ⟨cZ, H⟩ | ⟨cZ, H⟩
    ·replace H := J5 H
     rcases H with ⟨dW, H⟩ | ⟨c12, H⟩
     ·replace H := J5 H
      rcases H with ⟨dX, H⟩ | ⟨c13, H⟩
      ·replace H := J5 H
       rcases H with ⟨dY, H⟩ | ⟨c14, H⟩
       ·replace H := J5 H
        rcases H with ⟨dZ, H⟩ | ⟨c15, H⟩
        ·replace H := J5 H
         rcases H with ⟨eB, H⟩ | ⟨c16, H⟩
         ·obtain ⟨bR, eZ, H⟩ := zO H
          obtain ⟨bS, fA, H⟩ := zO H
          replace H := Yj H
          rcases H with ⟨c19, eD, eF, H⟩ | ⟨c19, H⟩
          ·try have eG : (9223372036854775807 < aD.size + bS.size) = False := eq_false (Nat.not_lt.2 c19)
           have H' := Qa.mk H; clear H
           try go_wp2
           replace aA := Qa.mk (Qk aA.out)
           replace aC := Qa.mk (Qk aC.out)
           replace HB := Qa.mk (Qo HB.out)
           have bT : 0 ≤ (aK : Int) := zA
           have bU : aK < (l0.length : Int) := zA
           obtain ⟨aN, dS, aZ, bA⟩ := Xz cK.out aK bT bU
           have aQ := bA
           have aT := aZ
           cases dS
           replace aZ := (HB.out.cell (World.block_lt_of_cell? w _ aZ)).trans aZ
           replace bA := (HB.out.cell (World.block_lt_of_cell? w _ bA)).trans bA
           replace bT := eq_true bT
           replace bU := eq_true bU
           have bV : 0 ≤ (aM : Int) := zA
           have bW : aM < (l0.length : Int) := zA
           obtain ⟨dA, e137, bB, bC⟩ := Xz cK.out aM bV bW
           have aU := bC
           have aV := bB
           obtain rfl : aN = dA := (by injection e137)
           replace bB := (HB.out.cell (World.block_lt_of_cell? w _ bB)).trans bB
           replace bC := (HB.out.cell (World.block_lt_of_cell? w _ bC)).trans bC
           replace bV := eq_true bV
           replace bW := eq_true bW
           have bX : 0 ≤ (aY : Int) := zA
           have bY : aY < (l0.length : Int) := zA
           obtain ⟨dB, e138, bD, bE⟩ := Xz cK.out aY bX bY
           have aW := bE
           have aX := bD
           obtain rfl : aN = dB := (by injection e138)
           replace bD := (HB.out.cell (World.block_lt_of_cell? w _ bD)).trans bD
           replace bE := (HB.out.cell (World.block_lt_of_cell? w _ bE)).trans bE
           replace bX := eq_true bX
           replace bY := eq_true bY
           refine Xe (n := 19) (S := fun w' => w'.cell? ⟨bI, 0, none⟩ = some (.int .i64 (l0.length : Int)) ∧ w'.cell? ⟨bI, 1, none⟩ = some (.string aD) ∧ w'.cell? (aN.add ((aK).toNat * 2)) = some (.int .i64 ((Qp l0 aK).f0)) ∧ w'.cell? ⟨(aN.add ((aK).toNat * 2)).block, (aN.add ((aK).toNat * 2)).off + 1, none⟩ = some (.int .i64 ((Qp l0 aK).f1)) ∧ w'.cell? (aN.add ((aM).toNat * 2)) = some (.int .i64 ((Qp l0 aM).f0)) ∧ w'.cell? ⟨(aN.add ((aM).toNat * 2)).block, (aN.add ((aM).toNat * 2)).off + 1, none⟩ = some (.int .i64 ((Qp l0 aM).f1)) ∧ w'.cell? (aN.add ((aY).toNat * 2)) = some (.int .i64 ((Qp l0 aY).f0)) ∧ w'.cell? ⟨(aN.add ((aY).toNat * 2)).block, (aN.add ((aY).toNat * 2)).off + 1, none⟩ = some (.int .i64 ((Qp l0 aY).f1))) (ds := [18]) #[false, false, false, false, false, false, false, false, false, false, false, false, false, false, false, false, false, false, false] (by kernel_rfl) rfl rfl ⟨(Qj aC.out 0).trans rfl, (Qj aC.out 1).trans rfl, ((HB.out.cell (World.block_lt_of_cell? w _ aT)).trans aT), ((HB.out.cell (World.block_lt_of_cell? w _ aQ)).trans aQ), ((HB.out.cell (World.block_lt_of_cell? w _ aV)).trans aV), ((HB.out.cell (World.block_lt_of_cell? w _ aU)).trans aU), ((HB.out.cell (World.block_lt_of_cell? w _ aX)).trans aX), ((HB.out.cell (World.block_lt_of_cell? w _ aW)).trans aW)⟩ (fun hHeld => ?_); refine J6 Qz.tab13 Qz.bits13 (fun HT_ HW_ => ?_)
           generalize wr.drew = fD at aA aC HB aZ bA bB bC bD bE hHeld ⊢
           refine zP 0 (some 37) rfl rfl ?_
           refine zP 2 (some 39) rfl rfl ?_
           refine zP 3 (some 40) rfl rfl ?_
           refine zP 4 (some 41) rfl rfl ?_
           refine zP 6 (some 43) rfl rfl ?_
           refine zP 7 (some 44) rfl rfl ?_
           refine zP 8 (some 45) rfl rfl ?_
           refine zP 10 (some 47) rfl rfl ?_
           refine zP 11 (some 48) rfl rfl ?_
           refine zP 12 (some 49) rfl rfl ?_
           refine zY8 1 (some 38) rfl rfl hHeld ?_
           refine zY8 5 (some 42) rfl rfl hHeld ?_
           refine zY8 9 (some 46) rfl rfl hHeld ?_
           refine zY8 13 (some 50) rfl rfl hHeld ?_
           refine zU 14 (some 51) rfl rfl (fun K hK => ?_)
           refine X0 Tryz.func59 (by kernel_rfl) rfl #[.agg #[.int .i64 ((Qp l0 aK).f0), .int .i64 ((Qp l0 aK).f1)], .agg #[.int .i64 ((Qp l0 aM).f0), .int .i64 ((Qp l0 aM).f1)], .agg #[.int .i64 ((Qp l0 aY).f0), .int .i64 ((Qp l0 aY).f1)]] (by rfl) rfl rfl zM ?_
           with_reducible refine (Z7.calls ((Qp l0 aK).f0) ((Qp l0 aK).f1) ((Qp l0 aM).f0) ((Qp l0 aM).f1) ((Qp l0 aY).f0) ((Qp l0 aY).f1) bR _ eZ.out).mono ?_
           rintro e fB ⟨rfl, hb⟩
           refine ⟨_, rfl, ?_⟩
           replace aA := zV aA.out hb
           replace aC := zV aC.out hb
           replace HB := Qa.mk (Qg (zG2 aH.out bG.out) hb)
           (try clear hb)
           refine hK.out _ _ ⟨(Qj aC.out 0).trans rfl, (Qj aC.out 1).trans rfl, ((HB.out.cell (World.block_lt_of_cell? w _ aT)).trans aT), ((HB.out.cell (World.block_lt_of_cell? w _ aQ)).trans aQ), ((HB.out.cell (World.block_lt_of_cell? w _ aV)).trans aV), ((HB.out.cell (World.block_lt_of_cell? w _ aU)).trans aU), ((HB.out.cell (World.block_lt_of_cell? w _ aX)).trans aX), ((HB.out.cell (World.block_lt_of_cell? w _ aW)).trans aW)⟩ (fun hHeld => ?_)
           clear hK K
           refine zN ?_
           refine zU 15 (some 52) rfl rfl (fun K hK => ?_)
           refine X0 Tryz.func58 (by kernel_rfl) rfl #[.int .i64 bR] (by rfl) rfl rfl zM ?_
           with_reducible refine (Xb.calls bR bS _ fA.out).mono ?_
           rintro e w' ⟨rfl, ⟨nd, rfl⟩⟩
           refine ⟨_, rfl, ?_⟩
           refine hK.out _ _ ⟨(Qj aC.out 0).trans rfl, (Qj aC.out 1).trans rfl, ((HB.out.cell (World.block_lt_of_cell? w _ aT)).trans aT), ((HB.out.cell (World.block_lt_of_cell? w _ aQ)).trans aQ), ((HB.out.cell (World.block_lt_of_cell? w _ aV)).trans aV), ((HB.out.cell (World.block_lt_of_cell? w _ aU)).trans aU), ((HB.out.cell (World.block_lt_of_cell? w _ aX)).trans aX), ((HB.out.cell (World.block_lt_of_cell? w _ aW)).trans aW)⟩ (fun hHeld => ?_)
           clear hK K
           refine zN ?_
           refine zP 16 (some 53) rfl rfl ?_
           refine zP 17 (some 54) rfl rfl ?_
           refine jFn (i := 18) (N := none) #[true, true, true, true, true, true, true, true, true, true, true, true, true, true, true, true, true, true, true] rfl rfl (jAm HT_.out (by kernel_rfl)) (by decide) (fun K hK => ?_)
           have fC : fB.cell? ⟨bI, 1, none⟩ = some (.string aD) := (Qj aC.out 1).trans rfl
           have eH := J8 aC.out 1
           have dD := aG.out
           have dE := bF.out
           refine jA2 (w1 := ?_) (by rfl) rfl ?_ ?_
           rotate_left
           ·go_simp
            rfl
           refine hK.out _ _ ?_
           clear hK K
           refine Yp (Zu HT_.out (by kernel_rfl)) ?_
           try go_wp2
           go_roundg k3
           case measure => have := bZ.out; have := cB.out; have := dC.out; omega
           case rel => exact ⟨(wrap64 (aY + 1)), (aD ++ bS), zF, H', ⟨by have := bZ.out; have := cB.out; have := dC.out; omega⟩, ⟨zk1 aA.out aG.out⟩, ⟨zk0 aC.out⟩, ⟨zG2 aH.out bG.out⟩⟩
          exact absurd H (by simp)
         exact absurd H (by simp)
        exact absurd H (by simp)
       exact absurd H (by simp)
      exact absurd H (by simp)
     exact absurd H (by simp)
    have H' := Qa.mk H; clear H
    go_wp2
    go_roundg k3
    case measure => have := bZ.out; have := cB.out; have := dC.out; omega
    case rel => exact ⟨(wrap64 (aM + 1)), (aD), zF, H', ⟨by have := bZ.out; have := cB.out; have := dC.out; omega⟩, ⟨zK aA.out⟩, ⟨zK aC.out⟩, ⟨zG2 aH.out bG.out⟩⟩
   have H' := Qa.mk H; clear H
   go_wp2
   go_roundg k2
   case measure => have := bZ.out; have := cB.out; omega
   case rel => exact ⟨(wrap64 (aK + 1)), (aJ), zF, H', ⟨by have := bZ.out; have := cB.out; omega⟩, ⟨zK aA.out⟩, ⟨zK aC.out⟩, ⟨zG2 aH.out bG.out⟩⟩
  simp only [Option.some.injEq, Prod.mk.injEq] at H
  obtain ⟨rfl, rfl, rfl⟩ := H
  have eO := bF.out
  have eP := aG.out
  obtain ⟨dF, dG, dH, dI⟩ := zq2 aC.out
  obtain ⟨dJ, dK, dL, dM⟩ := zq2 aA.out
  go_wp2
  refine bodyPost_ret (J7 rfl _ _ bH 25 #[.int .i64 (l0.length : Int), .string aI] (0, 0) _ rfl (zk0 aA.out) Tryz.underlying25 rfl (by kernel_rfl)) rfl ?_
  exact ⟨zE, zG2 aH.out bG.out⟩
 replace c3 := Bool.eq_false_iff.mpr c3
 subst c3
 replace H := (if_neg zFf).symm.trans H
 simp only [Option.some.injEq, Prod.mk.injEq] at H
 obtain ⟨rfl, rfl, rfl⟩ := H
 go_enter Tryz.func9, Tryz.ntmps9
 go_wp2_with (first | ((with_reducible refine Qm (N := 2) rfl ?_); refine zBx (N := 2) #[.int .i64 0, .string (⟨#[]⟩ : ByteArray)] 25 ?_; intro bH hg fE hbox hb; have aA := Qa.mk (hbox); have cO := zS hg; have aH := zS hg; replace HB := zX hb; clear hb hbox hg) | ((with_reducible refine Qd (f := 46) rfl ?_); refine zD (some 9) Tryz.func46 #[.slice A0 l0.length c0] ((Qt.calls k _ _ l0 false _ ?bN ?bO A2.out).mono ?_); (case bN => exact zc (Kd.C_below cK.out HB.out)); (case bO => exact dU.out); rintro e fF ⟨rfl, hb⟩; refine ⟨_, rfl, ?_⟩; replace aA := zV aA.out hb; replace HB := zX1 aH.out hb; (try clear hb); obtain ⟨dN, dO, dP, dQ⟩ := zq2 aA.out))
 refine bodyPost_ret (J7 rfl _ _ bH 25 #[.int .i64 0, .string (⟨#[]⟩ : ByteArray)] (0, 0) _ rfl (zk0 aA.out) Tryz.underlying25 rfl (by kernel_rfl)) rfl ?_
 exact ⟨zE, zG aH.out⟩
def Qc (w0 W : World) (g : Nat) (f0 : List Int) (f1 : Int) (f2 : Int) : Prop := ∃ A0 c0, W.heap[g]? = some (.cells #[.slice A0 f0.length c0, .int .i64 f1, .int .i64 f2] 110 (0, 0)) ∧ w0.heap.size ≤ g ∧ Kd.C (Kd.int .u8) w0 A0 f0.length f0
theorem Qc.grown {w0 W : World} {g : Nat} {f0 : List Int} {f1 : Int} {f2 : Int} {W1 : World} {row : Option Nat} (h : Qc w0 W g f0 f1 f2) (hw : W.grownBy W1 row) (hne : some g ≠ row) : Qc w0 W1 g f0 f1 f2 := by
 obtain ⟨A0, c0, hb, hg, hr0⟩ := h
 exact ⟨A0, c0, Vl hb hw hne, hg, hr0⟩
theorem Qc.below {w0 W : World} {g : Nat} {f0 : List Int} {f1 : Int} {f2 : Int} {W1 : World} (h : Qc w0 W g f0 f1 f2) (hw : Below W.heap.size W W1) : Qc w0 W1 g f0 f1 f2 := h.grown (Ur hw none) (by simp)
theorem Qc.alloc {w0 W : World} {g : Nat} {f0 : List Int} {f1 : Int} {f2 : Int} (h : Qc w0 W g f0 f1 f2) (o : Obj) : Qc w0 (W.alloc o) g f0 f1 f2 := h.below (Qv (Below.refl _ _) o)
theorem Qc.drewN {w0 W : World} {g : Nat} {f0 : List Int} {f1 : Int} {f2 : Int} (h : Qc w0 W g f0 f1 f2) (m : Nat) : Qc w0 (W.drewN m) g f0 f1 f2 := h
theorem Qc.drew {w0 W : World} {g : Nat} {f0 : List Int} {f1 : Int} {f2 : Int} (h : Qc w0 W g f0 f1 f2) : Qc w0 W.drew g f0 f1 f2 := h
theorem Qc.apart {w0 W : World} {g : Nat} {f0 : List Int} {f1 : Int} {f2 : Int} {α : Type} {d : Kd α} {e : Nat} {base : Nat} {ok : Nat → Prop} {v : Value} {xs : List α} (h : Qc w0 W g f0 f1 f2) (ho : d.R e W base ok v xs) (ht : ∀ q, q ∈ e :: d.E → q ≠ 110) : d.R e W base (fun k => ok k ∧ k ≠ g) v xs := by
 obtain ⟨A0, c0, hb, hg, hr0⟩ := h
 exact Kd.R_types ho hb ht
theorem Qc.own_ne {w0 W : World} {g : Nat} {f0 : List Int} {f1 : Int} {f2 : Int} {α : Type} {d : Kd α} {e : Nat} {base : Nat} {ok : Nat → Prop} {v : Value} {xs : List α} (h : Qc w0 W g f0 f1 f2) (ho : d.R e W base ok v xs) (ht : e ≠ 110) : some g ≠ v.ownBlock := by
 obtain ⟨A0, c0, hb, hg, hr0⟩ := h
 exact Kd.R_ne ho hb ht
theorem Qc.lt {w0 W : World} {g : Nat} {f0 : List Int} {f1 : Int} {f2 : Int} (h : Qc w0 W g f0 f1 f2) : g < W.heap.size := by
 obtain ⟨A0, c0, hb, hg, hr0⟩ := h
 exact Uu hb
theorem Qc.ge {w0 W : World} {g : Nat} {f0 : List Int} {f1 : Int} {f2 : Int} (h : Qc w0 W g f0 f1 f2) : w0.heap.size ≤ g := by
 obtain ⟨A0, c0, hb, hg, hr0⟩ := h
 exact hg
theorem Qc.ne_blk {w0 W : World} {g : Nat} {f0 : List Int} {f1 : Int} {f2 : Int} {a : Nat} {cs : Array Value} {t : TypeId} {fr : Nat × Nat} (h : Qc w0 W g f0 f1 f2) (hb2 : W.heap[a]? = some (.cells cs t fr)) (ht : t ≠ 110) : g ≠ a := by
 obtain ⟨A0, c0, hb, hg, hr0⟩ := h
 rintro rfl
 rw [hb] at hb2
 injection hb2 with hb2
 injection hb2 with _ ht2
 exact ht ht2.symm
theorem Qc.far {w0 W : World} {g : Nat} {f0 : List Int} {f1 : Int} {f2 : Int} {p : Addr} (h : Qc w0 W g f0 f1 f2) (hne : g ≠ p.block) (u : Value) : Qc w0 (W.setCell p u) g f0 f1 f2 := by
 obtain ⟨A0, c0, hb, hg, hr0⟩ := h
 exact ⟨A0, c0, Ux hb hne u, hg, hr0⟩
theorem jBz {W : World} {g : Nat} {A0 : Option Addr} {c0 : Nat} {f0 : List Int} {f1 : Int} {f2 : Int} (h : W.heap[g]? = some (.cells #[.slice A0 f0.length c0, .int .i64 f1, .int .i64 f2] 110 (0, 0))) : W.cell? ⟨g, 0, none⟩ = some (.slice A0 f0.length c0) := (Qj h 0).trans rfl
theorem jBy {W : World} {g : Nat} {A0 : Option Addr} {c0 : Nat} {f0 : List Int} {f1 : Int} {f2 : Int} (h : W.heap[g]? = some (.cells #[.slice A0 f0.length c0, .int .i64 f1, .int .i64 f2] 110 (0, 0))) : W.cell? ⟨g, 1, none⟩ = some (.int .i64 f1) := (Qj h 1).trans rfl
theorem Qc.set_1 {w0 W : World} {g : Nat} {f0 : List Int} {f1 : Int} {f2 : Int} (h : Qc w0 W g f0 f1 f2) (x : Int) : Qc w0 (W.setCell ⟨g, 1, none⟩ (.int .i64 x)) g f0 x f2 := by
 obtain ⟨A0, c0, hb, hg, hr0⟩ := h
 exact ⟨A0, c0, by simpa using jCl hb 1 (.int .i64 x), hg, hr0⟩
theorem jBs {W : World} {g : Nat} {A0 : Option Addr} {c0 : Nat} {f0 : List Int} {f1 : Int} {f2 : Int} (h : W.heap[g]? = some (.cells #[.slice A0 f0.length c0, .int .i64 f1, .int .i64 f2] 110 (0, 0))) : W.cell? ⟨g, 2, none⟩ = some (.int .i64 f2) := (Qj h 2).trans rfl
theorem Qc.set_2 {w0 W : World} {g : Nat} {f0 : List Int} {f1 : Int} {f2 : Int} (h : Qc w0 W g f0 f1 f2) (x : Int) : Qc w0 (W.setCell ⟨g, 2, none⟩ (.int .i64 x)) g f0 f1 x := by
 obtain ⟨A0, c0, hb, hg, hr0⟩ := h
 exact ⟨A0, c0, by simpa using jCl hb 2 (.int .i64 x), hg, hr0⟩
def J4.l0 : Nat → List Int → Int → Int → Option (List Int × Int × Int)
 | 0, _, _, _ => none
 | k + 1, x0, x3, x4 => if x4 < (x0.length : Int) then (if x4 < 4000 then (if 0 ≤ x4 then (J4.l0 k x0 (Go.bits .and .i64 (wrap64 ((wrap64 ((wrap64 (x3 * 131)) + (wrap64 (rd x0 x4)))) + 7)) 1073741823) (wrap64 (x4 + 1))) else (none)) else (some (x0, 0, x3))) else (some (x0, 0, x3))
def J4.f (k : Nat) (l0 : List Int) : Option (List Int × Int × Int) := J4.l0 k l0 (wrap64 (26583 + (l0.length : Int))) 0
theorem jFs {p q : Prop} (g : p) (h : p → q := by intro zg_; repeat (first | (with_reducible first | exact zg_ | apply Qv | apply Qr | apply Qo) | exact zg_)) : q := h g
theorem jK8 {p q p0 : Prop} (g : p) (g0 : p0) (h : p → p0 → q := by intro zg_ aA; repeat (first | (with_reducible first | exact zg_ | apply Qv | apply Qr | apply Qo | refine Qf ?_ aA) | exact zg_)) : q := h g g0
set_option maxHeartbeats 8000000 in
set_option maxRecDepth 100000 in
theorem J4.calls (k : Nat) (A0 : Option Addr) (c0 : Nat) (l0 : List Int) (r1 : List Int) (r2 : Int) (r3 : Int) (w0 w : World) (hB : Below w0.heap.size w0 w) (hr0 : Kd.C (Kd.int .u8) w0 A0 l0.length l0) (hc0 : l0.length ≤ c0) (h : J4.f k l0 = some (r1, r2, r3)) :
  Calls Tryz.prog 49 #[.slice A0 l0.length c0] w fun e w' => ∃ g_ : Nat, e = .returned (.pointer (some ⟨g_, 0, none⟩)) ∧ Qc w0 w' g_ r1 r2 r3 ∧ Below w0.heap.size w0 w' ∧ Below w.heap.size w w' := by
 have aZ := Tryz.underlying110
 have aV := Qa.mk hr0
 have bD := Qa.mk hc0
 clear hr0 hc0
 have HBW := Qa.mk (Below.refl w.heap.size w)
 have HW0 := Qa.mk hB.size
 have HB := Qa.mk hB
 clear hB
 have H := h
 unfold J4.f at H
 clear h
 have H' := Qa.mk H; clear H
 go_enter Tryz.func49, Tryz.ntmps49
 go_wp2
 go_loopg [3, 4] k (fun kq v3 v4 w' => ∃ (aA : Int) (aC : Int), v3 = .int .i64 aA ∧ v4 = .int .i64 aC ∧ Qa (J4.l0 kq l0 aA aC = some (r1, r2, r3)) ∧ Qa (kq ≤ k) ∧ Qa (Below w0.heap.size w0 w') ∧ Qa (Below w.heap.size w w'))
 case atStart => exact ⟨(wrap64 (26583 + (l0.length : Int))), (0), zF, zF, H', ⟨Nat.le_refl _⟩, ⟨zB⟩, ⟨(jFs HBW.out)⟩⟩
 case round =>
 clear H'
 obtain ⟨aA, aC, rfl, rfl, HA, bA, HB, HBW⟩ := hrel
 cases gk with
 | zero => exact absurd HA.out (by simp [J4.l0])
 | succ k1 =>
 have H := HA.out
 clear HA
 simp only [J4.l0] at H
 replace H := Xr H
 rcases H with ⟨aW, H⟩ | ⟨aW, H⟩
 ·replace H := Xr H
  rcases H with ⟨aX, H⟩ | ⟨aX, H⟩
  ·replace H := J5 H
   rcases H with ⟨bC, H⟩ | ⟨c4, H⟩
   ·have H' := Qa.mk H; clear H
    have aK : 0 ≤ (aC : Int) := zA
    have aM : aC < (l0.length : Int) := zA
    obtain ⟨bB, aY, aD⟩ := Kd.at_int aV.out aC aK aM
    cases aY
    replace aD := Y1 HB.out aD
    replace aK := eq_true aK
    replace aM := eq_true aM
    go_wp2
    go_roundg k1
    case measure => have := bA.out; omega
    case rel => exact ⟨(Go.bits .and .i64 (wrap64 ((wrap64 ((wrap64 (aA * 131)) + (wrap64 (rd l0 aC)))) + 7)) 1073741823), (wrap64 (aC + 1)), zF, zF, H', ⟨by have := bA.out; omega⟩, ⟨zB⟩, ⟨(jFs HBW.out)⟩⟩
   exact absurd H (by simp)
  simp only [Option.some.injEq, Prod.mk.injEq] at H
  obtain ⟨rfl, rfl, rfl⟩ := H
  go_wp2_with (first | ((with_reducible refine Qm (N := 31) rfl ?_); refine zBx (N := 31) #[.slice A0 l0.length c0, .int .i64 0, .int .i64 aA] 110 ?_; intro aG hg w5 hbox hb; have aN := Qa.mk (hbox); have aQ := Qa.mk ((by rw [hg]; exact (Q6 (jFs HBW.out)) : w.heap.size ≤ aG)); have aI := Qa.mk ((Nat.le_trans HW0.out (by rw [hg]; exact (Q6 (jFs HBW.out)) : w.heap.size ≤ aG) : w0.heap.size ≤ aG)); replace HBW := Qa.mk (Qg HBW.out hb); replace HB := zX hb; clear hb hbox hg))
  go_ret
  exact ⟨_, rfl, (show Qc w0 _ aG l0 0 aA from ⟨_, _, zK aN.out, aI.out, aV.out⟩), zG aI.out, (jK8 HBW.out aQ.out)⟩
 simp only [Option.some.injEq, Prod.mk.injEq] at H
 obtain ⟨rfl, rfl, rfl⟩ := H
 go_wp2_with (first | ((with_reducible refine Qm (N := 31) rfl ?_); refine zBx (N := 31) #[.slice A0 l0.length c0, .int .i64 0, .int .i64 aA] 110 ?_; intro aH hg w6 hbox hb; have aT := Qa.mk (hbox); have aU := Qa.mk ((by rw [hg]; exact (Q6 (jFs HBW.out)) : w.heap.size ≤ aH)); have aJ := Qa.mk ((Nat.le_trans HW0.out (by rw [hg]; exact (Q6 (jFs HBW.out)) : w.heap.size ≤ aH) : w0.heap.size ≤ aH)); replace HBW := Qa.mk (Qg HBW.out hb); replace HB := zX hb; clear hb hbox hg))
 go_ret
 exact ⟨_, rfl, (show Qc w0 _ aH l0 0 aA from ⟨_, _, zK aT.out, aJ.out, aV.out⟩), zG aJ.out, (jK8 HBW.out aU.out)⟩
def Zx.f (aD : List Int) (aC : Int) (aA : Int) : Option (Int × Int × Int) := if aC < (aD.length : Int) then (if 0 ≤ aC then (some (Go.bits .and .i64 (wrap64 ((Go.bits .and .i64 (Go.bits .xor .i64 ((wrap64 ((wrap64 (aA * 6364136223846793005)) + 1442695040888963407)) / 8589934592) ((wrap64 ((wrap64 (aA * 6364136223846793005)) + 1442695040888963407)) / 35184372088832)) 255) + (wrap64 (rd aD aC)))) 255, wrap64 (aC + 1), wrap64 ((wrap64 (aA * 6364136223846793005)) + 1442695040888963407))) else (none)) else (some (Go.bits .and .i64 (Go.bits .xor .i64 ((wrap64 ((wrap64 (aA * 6364136223846793005)) + 1442695040888963407)) / 8589934592) ((wrap64 ((wrap64 (aA * 6364136223846793005)) + 1442695040888963407)) / 35184372088832)) 255, aC, wrap64 ((wrap64 (aA * 6364136223846793005)) + 1442695040888963407)))
theorem jK3 {p q : Prop} (g : p) (h : p → q := by intro zg_; repeat (first | (with_reducible first | exact zg_ | apply Qc.alloc | apply Qc.drewN | apply Qc.drew | apply Qc.set_1 | apply Qc.set_2) | exact zg_)) : q := h g
theorem jLt {p q : Prop} (g : p) (h : p → q := by intro zg_; repeat (first | (with_reducible first | exact zg_ | apply Ql.set_ | apply Z5 | apply Zr | apply Z6) | exact zg_)) : q := h g
set_option maxHeartbeats 8000000 in
set_option maxRecDepth 100000 in
theorem Zx.calls (g : Nat) (aI : List Int) (aH : Int) (aJ : Int) (r1 : Int) (r2 : Int) (r3 : Int) (w0 w : World) (hI : Qc w0 w g aI aH aJ) (hB : Below w0.heap.size w0 w) (h : Zx.f aI aH aJ = some (r1, r2, r3)) :
  Calls Tryz.prog 102 #[.pointer (some ⟨g, 0, none⟩)] w fun e w' => e = .returned (.int .i64 r1) ∧ Qc w0 w' g aI r2 r3 ∧ Below w0.heap.size w0 w' ∧ Ql w w' g none := by
 have HI0 := Qa.mk hI
 have HK := Qa.mk (Ql.refl w g none)
 have HL := Qa.mk hB.size
 clear hI
 have HW0 := Qa.mk hB.size
 have HB := Qa.mk hB
 clear hB
 have H := h
 unfold Zx.f at H
 clear h
 replace H := Xr H
 rcases H with ⟨aU, H⟩ | ⟨aU, H⟩
 ·replace H := J5 H
  rcases H with ⟨bN, H⟩ | ⟨c3, H⟩
  ·simp only [Option.some.injEq, Prod.mk.injEq] at H
   obtain ⟨rfl, rfl, rfl⟩ := H
   obtain ⟨aV, aW, aD, aX, aK⟩ := HI0.out
   have aY := jBz aD
   have aZ := jBy aD
   have bA := jBs aD
   have bB := J8 aD 1
   have bC := J8 aD 2
   clear aD aX
   have aM : 0 ≤ (aH : Int) := zA
   have aN : aH < (aI.length : Int) := zA
   obtain ⟨aQ, bD, aA⟩ := Kd.at_int aK aH aM aN
   cases bD
   have aC : aQ.block ≠ g := Nat.ne_of_lt (Nat.lt_of_lt_of_le (by have := World.block_lt_of_cell? _ _ aA; first | rwa [add_block] at this | exact this) (Qc.ge HI0.out))
   replace aA := Y1 HB.out aA
   replace aA := (cell_far (p := ⟨g, 2, none⟩) (by first | (rw [add_block]; exact aC) | (show (Addr.add _ _).block ≠ _; rw [add_block]; exact aC) | exact aC) (.int .i64 (wrap64 ((wrap64 (aJ * 6364136223846793005)) + 1442695040888963407)))).trans aA
   (try have aT := fun (n_ : Nat) => (show (((w.drewN n_).setCell ⟨g, 2, none⟩ (.int .i64 (wrap64 ((wrap64 (aJ * 6364136223846793005)) + 1442695040888963407))))).cell? _ = some _ from aA))
   clear aC
   replace aM := eq_true aM
   replace aN := eq_true aN
   go_enter Tryz.func102, Tryz.ntmps102
   go_wp2
   repeat (go_quiet (fail); try go_wp2)
   go_ret
   exact ⟨zE, (jK3 HI0.out), zG (Qc.ge HI0.out), (jLt HK.out)⟩
  exact absurd H (by simp)
 simp only [Option.some.injEq, Prod.mk.injEq] at H
 obtain ⟨rfl, rfl, rfl⟩ := H
 obtain ⟨bE, bF, aG, bG, bH⟩ := HI0.out
 have bI := jBz aG
 have bJ := jBy aG
 have bK := jBs aG
 have bL := J8 aG 1
 have bM := J8 aG 2
 clear aG bG
 go_enter Tryz.func102, Tryz.ntmps102
 go_wp2
 repeat (go_quiet (fail); try go_wp2)
 go_ret
 exact ⟨zE, (jK3 HI0.out), zG (Qc.ge HI0.out), (jLt HK.out)⟩
def Q5.f (aA : List Int) (aJ : Int) (aK : Int) (a1 : Int) : Option (Int × Int × Int) := if a1 ≤ 0 then (some (0, aJ, aK)) else (if a1 ≤ 256 then ((Zx.f aA aJ aK).bind fun aC => (if a1 = 0 then (none) else (some (Int.tmod aC.1 a1, aC.2.1, aC.2.2)))) else ((Zx.f aA aJ aK).bind fun aD => ((Zx.f aA aD.2.1 aD.2.2).bind fun aG => ((Zx.f aA aG.2.1 aG.2.2).bind fun aH => ((Zx.f aA aH.2.1 aH.2.2).bind fun aI => (if a1 = 0 then (none) else (some (Int.tmod (wrap64 ((wrap64 ((wrap64 ((wrap64 (aD.1 * 16777216)) + (wrap64 (aG.1 * 65536)))) + (wrap64 (aH.1 * 256)))) + aI.1)) a1, aI.2.1, aI.2.2))))))))
theorem jDc {p q : Prop} (g : p) (h : p → q := by intro zg_; repeat (first | (with_reducible first | exact zg_ | apply Qc.alloc | apply Qc.drewN | apply Qc.drew | apply Qc.set_1 | apply Qc.set_2) | exact zg_)) : q := h g
theorem jDa {p q : Prop} (g : p) (h : p → q := by intro zg_; repeat (first | (with_reducible first | exact zg_ | apply Ql.set_ | apply Z5 | apply Zr | apply Z6) | exact zg_)) : q := h g
theorem jHs {p q p0 : Prop} (g : p) (g0 : p0) (h : p → p0 → q := by intro zg_ aA; repeat (first | (with_reducible first | exact zg_ | apply Qv | apply Qr | apply Qo | refine Qf ?_ aA) | exact zg_)) : q := h g g0
set_option maxHeartbeats 8000000 in
set_option maxRecDepth 100000 in
theorem Q5.calls (g : Nat) (aD : List Int) (aG : Int) (aH : Int) (a1 : Int) (r1 : Int) (r2 : Int) (r3 : Int) (w0 w : World) (hI : Qc w0 w g aD aG aH) (hB : Below w0.heap.size w0 w) (h : Q5.f aD aG aH a1 = some (r1, r2, r3)) :
  Calls Tryz.prog 51 #[.pointer (some ⟨g, 0, none⟩), .int .i64 a1] w fun e w' => e = .returned (.int .i64 r1) ∧ Qc w0 w' g aD r2 r3 ∧ Below w0.heap.size w0 w' ∧ Ql w w' g none := by
 have HI0 := Qa.mk hI
 have HK := Qa.mk (Ql.refl w g none)
 have HL := Qa.mk hB.size
 clear hI
 have HW0 := Qa.mk hB.size
 have HB := Qa.mk hB
 clear hB
 have H := h
 unfold Q5.f at H
 clear h
 replace H := Xr H
 rcases H with ⟨aT, H⟩ | ⟨aT, H⟩
 ·simp only [Option.some.injEq, Prod.mk.injEq] at H
  obtain ⟨rfl, rfl, rfl⟩ := H
  go_enter Tryz.func51, Tryz.ntmps51
  go_wp2
  go_ret
  exact ⟨zE, (jDc HI0.out), zG (Qc.ge HI0.out), (jDa HK.out)⟩
 replace H := Xr H
 rcases H with ⟨aU, H⟩ | ⟨aU, H⟩
 ·obtain ⟨⟨aV, aW, aX⟩, A5, H⟩ := zO H
  dsimp only at H
  replace H := jGn H
  rcases H with ⟨c6, H⟩ | ⟨c6, bG, bH, H⟩
  ·exact absurd H (by simp)
  simp only [Option.some.injEq, Prod.mk.injEq] at H
  obtain ⟨rfl, rfl, rfl⟩ := H
  go_enter Tryz.func51, Tryz.ntmps51
  go_wp2_with (first | ((with_reducible refine Qd (f := 102) rfl ?_); refine zD (some 14) Tryz.func102 _ ((Zx.calls g aD aG aH aV aW aX w0 _ ?aA ?aC A5.out).mono ?_); (case aA => exact (jDc HI0.out)); (case aC => exact (jHs HB.out (Qc.ge HI0.out))); rintro e w7 ⟨rfl, hi, hb, hk⟩; refine ⟨_, rfl, ?_⟩; replace HK := Qa.mk (Ql.trans (jDa HK.out) hk (.inl rfl)); replace HI0 := Qa.mk (hi); replace HB := Qa.mk (hb); (try clear hb); (try clear hk); (try clear hi)))
  go_ret
  exact ⟨zE, (jDc HI0.out), zG (Qc.ge HI0.out), (jDa HK.out)⟩
 obtain ⟨⟨aY, aI, aJ⟩, A8, H⟩ := zO H
 dsimp only at H
 obtain ⟨⟨aZ, aK, aM⟩, A9, H⟩ := zO H
 dsimp only at H
 obtain ⟨⟨bA, aN, aQ⟩, bI, H⟩ := zO H
 dsimp only at H
 obtain ⟨⟨bB, bC, bD⟩, bJ, H⟩ := zO H
 dsimp only at H
 replace H := jGn H
 rcases H with ⟨c12, H⟩ | ⟨c12, bE, bF, H⟩
 ·exact absurd H (by simp)
 simp only [Option.some.injEq, Prod.mk.injEq] at H
 obtain ⟨rfl, rfl, rfl⟩ := H
 go_enter Tryz.func51, Tryz.ntmps51
 go_wp2_with (first | ((with_reducible refine Qd (f := 102) rfl ?_); refine zD (some 18) Tryz.func102 _ ((Zx.calls g aD aG aH aY aI aJ w0 _ ?aA ?aC A8.out).mono ?_); (case aA => exact (jDc HI0.out)); (case aC => exact (jHs HB.out (Qc.ge HI0.out))); rintro e bK ⟨rfl, hi, hb, hk⟩; refine ⟨_, rfl, ?_⟩; replace HK := Qa.mk (Ql.trans (jDa HK.out) hk (.inl rfl)); replace HI0 := Qa.mk (hi); replace HB := Qa.mk (hb); (try clear hb); (try clear hk); (try clear hi)) | ((with_reducible refine Qd (f := 102) rfl ?_); refine zD (some 20) Tryz.func102 _ ((Zx.calls g aD aI aJ aZ aK aM w0 _ ?aA ?aC A9.out).mono ?_); (case aA => exact (jDc HI0.out)); (case aC => exact (jHs HB.out (Qc.ge HI0.out))); rintro e bL ⟨rfl, hi, hb, hk⟩; refine ⟨_, rfl, ?_⟩; replace HK := Qa.mk (Ql.trans (jDa HK.out) hk (.inl rfl)); replace HI0 := Qa.mk (hi); replace HB := Qa.mk (hb); (try clear hb); (try clear hk); (try clear hi)) | ((with_reducible refine Qd (f := 102) rfl ?_); refine zD (some 22) Tryz.func102 _ ((Zx.calls g aD aK aM bA aN aQ w0 _ ?aA ?aC bI.out).mono ?_); (case aA => exact (jDc HI0.out)); (case aC => exact (jHs HB.out (Qc.ge HI0.out))); rintro e bM ⟨rfl, hi, hb, hk⟩; refine ⟨_, rfl, ?_⟩; replace HK := Qa.mk (Ql.trans (jDa HK.out) hk (.inl rfl)); replace HI0 := Qa.mk (hi); replace HB := Qa.mk (hb); (try clear hb); (try clear hk); (try clear hi)) | ((with_reducible refine Qd (f := 102) rfl ?_); refine zD (some 24) Tryz.func102 _ ((Zx.calls g aD aN aQ bB bC bD w0 _ ?aA ?aC bJ.out).mono ?_); (case aA => exact (jDc HI0.out)); (case aC => exact (jHs HB.out (Qc.ge HI0.out))); rintro e w16 ⟨rfl, hi, hb, hk⟩; refine ⟨_, rfl, ?_⟩; replace HK := Qa.mk (Ql.trans (jDa HK.out) hk (.inl rfl)); replace HI0 := Qa.mk (hi); replace HB := Qa.mk (hb); (try clear hb); (try clear hk); (try clear hi)))
 go_ret
 exact ⟨zE, (jDc HI0.out), zG (Qc.ge HI0.out), (jDa HK.out)⟩
def Zw.f (aC : List Int) (aD : Int) (aG : Int) (a1 : Int) : Option (Bool × Int × Int) := (Q5.f aC aD aG a1).bind fun aA => (some ((aA.1 == 0), aA.2.1, aA.2.2))
theorem jJz {p q : Prop} (g : p) (h : p → q := by intro zg_; repeat (first | (with_reducible first | exact zg_ | apply Qc.alloc | apply Qc.drewN | apply Qc.drew | apply Qc.set_1 | apply Qc.set_2) | exact zg_)) : q := h g
theorem jLs {p q p0 : Prop} (g : p) (g0 : p0) (h : p → p0 → q := by intro zg_ aA; repeat (first | (with_reducible first | exact zg_ | apply Qv | apply Qr | apply Qo | refine Qf ?_ aA) | exact zg_)) : q := h g g0
theorem jJ2 {p q : Prop} (g : p) (h : p → q := by intro zg_; repeat (first | (with_reducible first | exact zg_ | apply Ql.set_ | apply Z5 | apply Zr | apply Z6) | exact zg_)) : q := h g
set_option maxHeartbeats 8000000 in
set_option maxRecDepth 100000 in
theorem Zw.calls (g : Nat) (aA : List Int) (aC : Int) (aD : Int) (a1 : Int) (r1 : Bool) (r2 : Int) (r3 : Int) (w0 w : World) (hI : Qc w0 w g aA aC aD) (hB : Below w0.heap.size w0 w) (h : Zw.f aA aC aD a1 = some (r1, r2, r3)) :
  Calls Tryz.prog 53 #[.pointer (some ⟨g, 0, none⟩), .int .i64 a1] w fun e w' => e = .returned (.bool r1) ∧ Qc w0 w' g aA r2 r3 ∧ Below w0.heap.size w0 w' ∧ Ql w w' g none := by
 have HI0 := Qa.mk hI
 have HK := Qa.mk (Ql.refl w g none)
 have HL := Qa.mk hB.size
 clear hI
 have HW0 := Qa.mk hB.size
 have HB := Qa.mk hB
 clear hB
 have H := h
 unfold Zw.f at H
 clear h
 obtain ⟨⟨aG, aH, aI⟩, A3, H⟩ := zO H
 replace H : (some ((aG == 0), aH, aI)) = some (r1, r2, r3) := H
 simp only [Option.some.injEq, Prod.mk.injEq] at H
 obtain ⟨rfl, rfl, rfl⟩ := H
 go_enter Tryz.func53, Tryz.ntmps53
 go_wp2_with (first | ((with_reducible refine Qd (f := 51) rfl ?_); refine zD (some 7) Tryz.func51 _ ((Q5.calls g aA aC aD a1 aG aH aI w0 _ ?aJ ?aK A3.out).mono ?_); (case aJ => exact (jJz HI0.out)); (case aK => exact (jLs HB.out (Qc.ge HI0.out))); rintro e w4 ⟨rfl, hi, hb, hk⟩; refine ⟨_, rfl, ?_⟩; replace HK := Qa.mk (Ql.trans (jJ2 HK.out) hk (.inl rfl)); replace HI0 := Qa.mk (hi); replace HB := Qa.mk (hb); (try clear hb); (try clear hk); (try clear hi)))
 go_ret
 exact ⟨zE, (jJz HI0.out), zG (Qc.ge HI0.out), (jJ2 HK.out)⟩
def Xk.f (aC : List Int) (aD : Int) (aG : Int) (l1 : List ByteArray) : Option (ByteArray × Int × Int) := (Q5.f aC aD aG (l1.length : Int)).bind fun aA => (if 0 ≤ aA.1 then (if aA.1 < (l1.length : Int) then (some (Vj ByteArray.empty l1 aA.1, aA.2.1, aA.2.2)) else (none)) else (none))
theorem jJo {p q : Prop} (g : p) (h : p → q := by intro zg_; repeat (first | (with_reducible first | exact zg_ | apply Qc.alloc | apply Qc.drewN | apply Qc.drew | apply Qc.set_1 | apply Qc.set_2) | exact zg_)) : q := h g
theorem jLa {p q p0 : Prop} (g : p) (g0 : p0) (h : p → p0 → q := by intro zg_ aA; repeat (first | (with_reducible first | exact zg_ | apply Qv | apply Qr | apply Qo | refine Qf ?_ aA) | exact zg_)) : q := h g g0
theorem jJm {p q : Prop} (g : p) (h : p → q := by intro zg_; repeat (first | (with_reducible first | exact zg_ | apply Ql.set_ | apply Z5 | apply Zr | apply Z6) | exact zg_)) : q := h g
set_option maxHeartbeats 8000000 in
set_option maxRecDepth 100000 in
theorem Xk.calls (g : Nat) (aC : List Int) (aG : Int) (aH : Int) (A1 : Option Addr) (c1 : Nat) (l1 : List ByteArray) (r1 : ByteArray) (r2 : Int) (r3 : Int) (w0 w : World) (hI : Qc w0 w g aC aG aH) (hB : Below w0.heap.size w0 w) (hr1 : Kd.C Kd.string w A1 l1.length l1) (hc1 : l1.length ≤ c1) (hf1 : ∀ ad, A1 = some ad → 0 < l1.length → ad.block ≠ g) (h : Xk.f aC aG aH l1 = some (r1, r2, r3)) :
  Calls Tryz.prog 101 #[.pointer (some ⟨g, 0, none⟩), .slice A1 l1.length c1] w fun e w' => e = .returned (.string r1) ∧ Qc w0 w' g aC r2 r3 ∧ Below w0.heap.size w0 w' ∧ Ql w w' g none := by
 have HR1 := Qa.mk hr1
 have aW := Qa.mk hc1
 clear hr1 hc1
 have HI0 := Qa.mk hI
 have HK := Qa.mk (Ql.refl w g none)
 have HL := Qa.mk hB.size
 clear hI
 have HW0 := Qa.mk hB.size
 have HB := Qa.mk hB
 clear hB
 have H := h
 unfold Xk.f at H
 clear h
 obtain ⟨⟨aD, aQ, aT⟩, A3, H⟩ := zO H
 dsimp only at H
 replace H := J5 H
 rcases H with ⟨aU, H⟩ | ⟨c4, H⟩
 ·replace H := J5 H
  rcases H with ⟨aV, H⟩ | ⟨c5, H⟩
  ·simp only [Option.some.injEq, Prod.mk.injEq] at H
   obtain ⟨rfl, rfl, rfl⟩ := H
   go_enter Tryz.func101, Tryz.ntmps101
   go_wp2_with (first | ((with_reducible refine Qd (f := 51) rfl ?_); refine zD (some 9) Tryz.func51 _ ((Q5.calls g aC aG aH (l1.length : Int) aD aQ aT w0 _ ?aK ?aM A3.out).mono ?_); (case aK => exact (jJo HI0.out)); (case aM => exact (jLa HB.out (Qc.ge HI0.out))); rintro e w6 ⟨rfl, hi, hb, hk⟩; refine ⟨_, rfl, ?_⟩; replace HK := Qa.mk (Ql.trans (jJm HK.out) hk (.inl rfl)); replace HI0 := Qa.mk (hi); replace HB := Qa.mk (hb); (try clear hb); (try clear hk); (try clear hi); have aI : 0 ≤ (aD : Int) := zA; have aJ : aD < (l1.length : Int) := zA; obtain ⟨aN, e170, aA⟩ := Kd.at_string HR1.out aD aI aJ; cases e170; replace aA := jA4 HK.out aA (by first | (rw [add_block]; exact hf1 _ rfl (by omega)) | exact hf1 _ rfl (by omega) | exact hf1 aN rfl (by omega)); replace aI := eq_true aI; replace aJ := eq_true aJ))
   go_ret
   exact ⟨zE, (jJo HI0.out), zG (Qc.ge HI0.out), (jJm HK.out)⟩
  exact absurd H (by simp)
 exact absurd H (by simp)
theorem jJ6 (d : Nat) (w : World) (x0 y0 : Int) (x1 y1 : Int) :
  (Op.equalIn (d + 2) 48 (.agg #[.int .i64 x0, .int .i64 x1]) (.agg #[.int .i64 y0, .int .i64 y1])).run Tryz.prog w = .ok (x0 == y0 && (x1 == y1)) w := by
 refine jJj Tryz.underlying48 (by kernel_rfl) ?_
 refine jFc (by rfl) (by go_simp; rfl) (by go_simp; rfl) (by go_simp) ?_
 exact jEt (by rfl) (by go_simp; rfl) (by go_simp; rfl) (by go_simp)
end Go.Proofs.YtckkfjdkaimmhaaGreatDoor.PX
namespace Go.Proofs.YtckkfjdkaimmhaaGreatDoor.PX
open Go.RowKit Go.Proofs.YtckkfjdkaimmhaaGreatDoor.G Go.Proofs.YtckkfjdkaimmhaaGreatDoorW.PrintWords Go.Proofs.YtckkfjdkaimmhaaGreatDoorW.PrintLast Go.Proofs.YtckkfjdkaimmhaaGreatDoorW.PrintMore
attribute [local go_sem] max2_int min2_int Yv Yx Xm Xl X9 Yb   -- for this text's walks alone
set_option linter.unusedVariables false
set_option linter.unusedSimpArgs false
attribute [local go_sem high] jJ6
mutual
def Qi.l0 : Nat → Int → List (S48) → Int → List Int → Int → Int → Option ((List (S48)) × Int × Int)
 | 0, _, _, _, _, _, _ => none
 | k + 1, x3, x4, x5, x1000, aA, aC => if x5 < 12 then (Qi.j1 k x3 x4 x5 (decide ((x4.length : Int) < x3)) x1000 aA aC) else (Qi.j1 k x3 x4 x5 false x1000 aA aC)
def Qi.j1 : Nat → Int → List (S48) → Int → Bool → List Int → Int → Int → Option ((List (S48)) × Int × Int)
 | 0, _, _, _, _, _, _, _ => none
 | k + 1, x3, x4, x5, aH, x1000, aA, aC => if aH = true then ((Q5.f x1000 aA aC 13).bind fun aD => ((Q5.f x1000 aD.2.1 aD.2.2 13).bind fun aG => (Qi.l1 k x3 x4 x5 true 0 x1000 aG.2.1 aG.2.2 (wrap64 (aD.1 - 6)) (wrap64 (aG.1 - 6))))) else (if (x4.length : Int) < 3 then (some ((([(⟨0, 0⟩ : S48), (⟨4, 1⟩ : S48), (⟨1, 3⟩ : S48), (⟨2, 2⟩ : S48)] : List (S48))), aA, aC)) else (some (x4, aA, aC)))
def Qi.l1 : Nat → Int → List (S48) → Int → Bool → Int → List Int → Int → Int → Int → Int → Option ((List (S48)) × Int × Int)
 | 0, _, _, _, _, _, _, _, _, _, _ => none
 | k + 1, x3, x4, x5, x7, x8, x1000, aD, aG, aA, aC => if x8 < (x4.length : Int) then (Qi.j3 k x3 x4 x5 x7 x8 x7 x1000 aD aG aA aC) else (Qi.j3 k x3 x4 x5 x7 x8 false x1000 aD aG aA aC)
def Qi.j3 : Nat → Int → List (S48) → Int → Bool → Int → Bool → List Int → Int → Int → Int → Int → Option ((List (S48)) × Int × Int)
 | 0, _, _, _, _, _, _, _, _, _, _, _ => none
 | k + 1, x3, x4, x5, x7, x8, aH, x1000, aD, aG, aA, aC => if aH = true then (if 0 ≤ x8 then (if x8 < (x4.length : Int) then (Qi.l2 k x3 x4 x5 (!(((Qp x4 x8).f0) == aA) || (!(((Qp x4 x8).f1) == aC))) x8 0 x1000 aD aG aA aC) else (none)) else (none)) else (if x7 = true then (if x4.length < 8796093022208 then (Qi.l0 k x3 (x4 ++ [(⟨aA, aC⟩ : S48)]) (wrap64 (x5 + 1)) x1000 aD aG) else (none)) else (Qi.l0 k x3 x4 (wrap64 (x5 + 1)) x1000 aD aG))
def Qi.l2 : Nat → Int → List (S48) → Int → Bool → Int → Int → List Int → Int → Int → Int → Int → Option ((List (S48)) × Int × Int)
 | 0, _, _, _, _, _, _, _, _, _, _, _ => none
 | k + 1, x3, x4, x5, x7, x8, x9, x1000, aD, aG, aA, aC => if x9 < x8 then (if x7 = true then (if 0 ≤ x9 then (if x9 < (x4.length : Int) then (if 0 ≤ x8 then (if x8 < (x4.length : Int) then ((Z7.f ((Qp x4 x9).f0) ((Qp x4 x9).f1) ((Qp x4 x8).f0) ((Qp x4 x8).f1) aA aC).bind fun aH => (Qi.l2 k x3 x4 x5 (aH != 0) x8 (wrap64 (x9 + 1)) x1000 aD aG aA aC)) else (none)) else (none)) else (none)) else (none)) else (Qi.l1 k x3 x4 x5 x7 (wrap64 (x8 + 1)) x1000 aD aG aA aC)) else (Qi.l1 k x3 x4 x5 x7 (wrap64 (x8 + 1)) x1000 aD aG aA aC)
end
def Qi.f (k : Nat) (aC : List Int) (aD : Int) (aG : Int) : Option ((List (S48)) × Int × Int) := (Q5.f aC aD aG 4).bind fun aA => (Qi.l0 k (wrap64 (3 + aA.1)) (([] : List (S48))) 0 aC aA.2.1 aA.2.2)
def Qi.T15 : Bool × List (List Nat × List Nat) := (true, [([], []), ([], []), ([0, 1], [0, 1]), ([2], [2]), ([], []), ([], []), ([4, 5], [4, 5]), ([6], [6]), ([], []), ([3, 7, 8], [3, 7, 8]), ([9], [9]), ([10, 9, 0, 1, 2, 3, 4, 5, 6, 7, 8, 9, 10], [10])])
def Qi.B15 : List Nat := [0, 0, 3, 7, 0, 0, 48, 112, 0, 511, 1023, 2047]
theorem Qi.tab15 : Vv .any (opsOf Tryz.f85 15) = Qi.T15 := by kernel_rfl
theorem Qi.bits15 : Zz Qi.T15.2 Qi.B15 = true := by kernel_rfl
theorem Vt {p q : Prop} (g : p) (h : p → q := by intro zg_; repeat (first | (with_reducible first | exact zg_ | apply Qc.alloc | apply Qc.drewN | apply Qc.drew | apply Qc.set_1 | apply Qc.set_2) | exact zg_)) : q := h g
theorem jGm {p q p0 : Prop} (g : p) (g0 : p0) (h : p → p0 → q := by intro zg_ aA; repeat (first | (with_reducible first | exact zg_ | apply Qv | apply Qr | apply Qo | refine Qf ?_ aA) | exact zg_)) : q := h g g0
theorem Vs {p q : Prop} (g : p) (h : p → q := by intro zg_; repeat (first | (with_reducible first | exact zg_ | apply Ql.set_ | apply Z5 | apply Zr | apply Z6) | exact zg_)) : q := h g
theorem K4 {p q p0 : Prop} (g : p) (g0 : p0) (h : p → p0 → q := by intro zg_ aA; repeat (first | (with_reducible first | exact zg_ | apply Qc.alloc | apply Qc.drewN | apply Qc.drew | apply Qc.set_1 | apply Qc.set_2 | refine Qc.far ?_ aA _) | exact zg_)) : q := h g g0
theorem Kt {p q p0 : Prop} (g : p) (g0 : p0) (h : p → p0 → q := by intro zg_ aA; repeat (first | (with_reducible first | exact zg_ | apply Ql.set_ | apply Z5 | apply Zr | apply Z6 | refine Ki ?_ aA _) | exact zg_)) : q := h g g0
set_option maxHeartbeats 8000000 in
set_option maxRecDepth 100000 in
theorem Qi.calls (k : Nat) (g : Nat) (aJ : List Int) (dG : Int) (dH : Int) (r1 : List (S48)) (r2 : Int) (r3 : Int) (w0 w : World) (hI : Qc w0 w g aJ dG dH) (hB : Below w0.heap.size w0 w) (h : Qi.f k aJ dG dH = some (r1, r2, r3)) :
  Calls Tryz.prog 85 #[.pointer (some ⟨g, 0, none⟩)] w fun e w' => ∃ fU : Value, e = .returned (fU) ∧ Kd.R k48 48 w' w.heap.size (fun _ => True) fU r1 ∧ Qc w0 w' g aJ r2 r3 ∧ Below w0.heap.size w0 w' ∧ Ql w w' g none := by
 have gT := Tryz.underlying48
 have HI0 := Qa.mk hI
 have HK := Qa.mk (Ql.refl w g none)
 have HL := Qa.mk hB.size
 clear hI
 have HW0 := Qa.mk hB.size
 have HB := Qa.mk hB
 clear hB
 have H := h
 unfold Qi.f at H
 clear h
 obtain ⟨⟨bL, dQ, dR⟩, A2, H⟩ := zO H
 dsimp only at H
 generalize dD : (([] : List (S48)) : List (S48)) = fC at H
 have dE := Qa.mk dD.symm
 clear dD
 have H' := Qa.mk H; clear H
 go_enter Tryz.func85, Tryz.ntmps85
 go_wp2_with (first | ((with_reducible refine Qd (f := 51) rfl ?_); refine zD (some 11) Tryz.func51 _ ((Q5.calls g aJ dG dH 4 bL dQ dR w0 _ ?bI ?bJ A2.out).mono ?_); (case bI => exact (Vt HI0.out)); (case bJ => exact (jGm HB.out (Qc.ge HI0.out))); rintro e w3 ⟨rfl, hi, hb, hk⟩; refine ⟨_, rfl, ?_⟩; replace HK := Qa.mk (Ql.trans (Vs HK.out) hk (.inl rfl)); replace HI0 := Qa.mk (hi); replace HB := Qa.mk (hb); (try clear hb); (try clear hk); (try clear hi)) | ((with_reducible refine Qm (N := 13) rfl ?_); (try (refine Zq (by rfl) ?_; dsimp only)); refine Kd.R_lit k48 _ 48 ?hg (N := 13) ?hd (xs := ([] : List (S48))) (inner := []) (ok := fun _ => True) (okp := fun _ => True) ?hr ?hp (fun _ hk => hk) trivial (Below.refl _ _) (Nat.le_refl _) (by simp) ?_; (case hd => rfl); (case hg => rfl); (case hr => first | (go_simp; done) | (go_simp; rfl)); (case hp => exact (Z0.none _ _)); intro v148 w4 dS hb hg_ hnew_; clear hg_ hnew_; (first | rw [← dE.out] at dS | (simp only [Int.reduceToNat] at dS; rw [← dE.out] at dS)); have bM := Qa.mk (Kd.R_lower dS (Jt (w := w) (g := g) (row := none) (Vs HK.out))); have bN := Qa.mk (Qc.below (Vt HI0.out) hb); have bO := Qa.mk (Ql.trans (Vs HK.out) (Ql.of_below hb g none) (.inl rfl)); have bP := Qa.mk (Qg (zG (Qc.ge HI0.out)) hb); clear HI0; clear HK; clear HB; have dU := bM; have HI0 := bN; have HK := bO; have HB := bP; clear bM bN bO bP; clear hb dS))
 go_loopg [4, 5] k (fun kq v4 v5 w' => ∃ (aD : List (S48)) (bA : Int) (aK : Int) (aM : Int), v5 = .int .i64 bA ∧ Qa (Qi.l0 kq (wrap64 (3 + bL)) aD bA aJ aK aM = some (r1, r2, r3)) ∧ Qa (kq ≤ k) ∧ Qa (Kd.R k48 48 w' w.heap.size (fun _ => True) v4 aD) ∧ Qa (Qc w0 w' g aJ aK aM) ∧ Qa (Ql w w' g none) ∧ Qa (Below w0.heap.size w0 w'))
 case atStart => exact ⟨(fC), (0), (dQ), (dR), zF, H', ⟨Nat.le_refl _⟩, ⟨zR dU.out⟩, ⟨(Vt HI0.out)⟩, ⟨(Vs HK.out)⟩, ⟨zG (Qc.ge HI0.out)⟩⟩
 case round =>
 clear H'
 obtain ⟨aD, bA, aK, aM, rfl, HA, bQ, aA, HI0, HK, HB⟩ := hrel
 cases gk with
 | zero => exact absurd HA.out (by simp [Qi.l0])
 | succ k1 =>
 have H := HA.out
 clear HA
 simp only [Qi.l0] at H
 have fD := Qa.mk H
 clear H
 go_upto_region 4 with (fail)
 go_cut [21] (fun v21 wc => ∃ (kq : Nat) (bR : Bool), v21 = .bool bR ∧ Qa (Qi.j1 kq (wrap64 (3 + bL)) aD bA bR aJ aK aM = some (r1, r2, r3)) ∧ Qa (kq ≤ k1) ∧ Qa (Kd.R k48 48 wc w.heap.size (fun _ => True) u4 aD) ∧ Qa (Qc w0 wc g aJ aK aM) ∧ Qa (Ql w wc g none) ∧ Qa (Below w0.heap.size w0 wc))
 case first =>
  have H := fD.out
  clear fD
  replace H := Xr H
  rcases H with ⟨cK, H⟩ | ⟨cK, H⟩
  ·(first | rw [cK] | (simp only [Zj, Zl]; rw [cK]) | skip)
   have H' := Qa.mk H; clear H
   obtain ⟨iN, iO, gU⟩ := Kd.R_slice aA.out
   subst gU
   go_wp2
   go_meet
   case rel => exact ⟨_, (decide ((aD.length : Int) < (wrap64 (3 + bL)))), zF, H', ⟨by have := bQ.out; first | omega | exact Nat.le_refl _⟩, ⟨zR aA.out⟩, ⟨(Vt HI0.out)⟩, ⟨(Vs HK.out)⟩, ⟨zG (Qc.ge HI0.out)⟩⟩
  (first | rw [cK] | (simp only [Zj, Zl]; rw [cK]) | skip)
  have H' := Qa.mk H; clear H
  go_wp2
  go_meet
  case rel => exact ⟨_, (false), zF, H', ⟨by have := bQ.out; first | omega | exact Nat.le_refl _⟩, ⟨zR aA.out⟩, ⟨(Vt HI0.out)⟩, ⟨(Vs HK.out)⟩, ⟨zG (Qc.ge HI0.out)⟩⟩
 case rest =>
 clear fD
 obtain ⟨kq, bR, rfl, HA, bZ, aA, HI0, HK, HB⟩ := hcut
 cases kq with
 | zero => exact absurd HA.out (by simp [Qi.j1])
 | succ fV =>
 have H := HA.out
 clear HA
 simp only [Qi.j1] at H
 by_cases c9 : bR = true
 ·subst c9
  replace H := (if_pos rfl).symm.trans H
  obtain ⟨⟨aN, dI, dJ⟩, gV, H⟩ := zO H
  dsimp only at H
  obtain ⟨⟨aQ, aX, aY⟩, gW, H⟩ := zO H
  dsimp only at H
  have H' := Qa.mk H; clear H
  go_wp2_with (first | ((with_reducible refine Qd (f := 51) rfl ?_); refine zD (some 25) Tryz.func51 _ ((Q5.calls g aJ aK aM 13 aN dI dJ w0 _ ?bI ?bJ gV.out).mono ?_); (case bI => exact (Vt HI0.out)); (case bJ => exact (jGm HB.out (Qc.ge HI0.out))); rintro e iP ⟨rfl, hi, hb, hk⟩; refine ⟨_, rfl, ?_⟩; replace aA := Qa.mk (Kd.R_mono (Kd.R_keep (Qc.apart (show Qc w0 _ g aJ aK aM from (Vt HI0.out)) (zR aA.out) (by decide)) hk (fun _ h => h.2)) (fun _ h => h.1)); replace HK := Qa.mk (Ql.trans (Vs HK.out) hk (.inl rfl)); replace HI0 := Qa.mk (hi); replace HB := Qa.mk (hb); (try clear hb); (try clear hk); (try clear hi)) | ((with_reducible refine Qd (f := 51) rfl ?_); refine zD (some 28) Tryz.func51 _ ((Q5.calls g aJ dI dJ 13 aQ aX aY w0 _ ?bI ?bJ gW.out).mono ?_); (case bI => exact (Vt HI0.out)); (case bJ => exact (jGm HB.out (Qc.ge HI0.out))); rintro e iQ ⟨rfl, hi, hb, hk⟩; refine ⟨_, rfl, ?_⟩; replace aA := Qa.mk (Kd.R_mono (Kd.R_keep (Qc.apart (show Qc w0 _ g aJ dI dJ from (Vt HI0.out)) (zR aA.out) (by decide)) hk (fun _ h => h.2)) (fun _ h => h.1)); replace HK := Qa.mk (Ql.trans (Vs HK.out) hk (.inl rfl)); replace HI0 := Qa.mk (hi); replace HB := Qa.mk (hb); (try clear hb); (try clear hk); (try clear hi)) | ((with_reducible refine Qm (N := 6) rfl ?_); (try (refine Zq (by rfl) ?_; dsimp only)); refine zBx (N := 6) #[.int .i64 0, .int .i64 0] 48 ?_; intro aH hg iR hbox hb; have bM := Qa.mk (Kd.R_below (Kd.R_elderB (zR aA.out) aH (Nat.le_of_eq hg.symm)) hb); have bN := Qa.mk (Qc.below (Vt HI0.out) hb); have bO := Qa.mk (Ql.trans (Vs HK.out) (Ql.of_below hb g none) (.inl rfl)); have bP := Qa.mk (Qg (zG (Qc.ge HI0.out)) hb); have cO := Qa.mk (hbox); have fZ := Qa.mk ((by rw [hg]; exact (Jt (w := w) (g := g) (row := none) (Vs HK.out)) : w.heap.size ≤ aH)); have gB := Qa.mk ((Nat.le_trans HW0.out (by rw [hg]; exact (Jt (w := w) (g := g) (row := none) (Vs HK.out)) : w.heap.size ≤ aH) : w0.heap.size ≤ aH)); have gD := Qa.mk ((by rw [hg]; exact Nat.ne_of_lt (Qc.lt (show Qc w0 _ g aJ aX aY from (Vt HI0.out))) : g ≠ aH)); have gF := Qa.mk ((by rw [hg]; exact Nat.ne_of_gt (Qc.lt (show Qc w0 _ g aJ aX aY from (Vt HI0.out))) : aH ≠ g)); clear aA; clear HI0; clear HK; clear HB; have aA := bM; have HI0 := bN; have HK := bO; have HB := bP; have aC := cO; have aT := fZ; have aV := gB; have aG := gD; have bS := gF; clear bM bN bO bP cO fZ gB gD gF; clear hb hbox hg; have gG := bS.out; have gH := aG.out; obtain ⟨bB, bC, bD, bE⟩ := zq2 aC.out))
  go_loopg [7, 8] fV (fun kq v7 v8 w' => ∃ (bX : Bool) (aI : Int), v7 = .bool bX ∧ v8 = .int .i64 aI ∧ Qa (Qi.l1 kq (wrap64 (3 + bL)) aD bA bX aI aJ aX aY (wrap64 (aN - 6)) (wrap64 (aQ - 6)) = some (r1, r2, r3)) ∧ Qa (kq ≤ fV) ∧ Qa (Kd.R k48 48 w' w.heap.size (fun k_ => k_ ≠ aH) u4 aD) ∧ Qa (w'.heap[aH]? = some (.cells #[.int .i64 (wrap64 (aN - 6)), .int .i64 (wrap64 (aQ - 6))] 48 (0, 0))) ∧ Qa (Qc w0 w' g aJ aX aY) ∧ Qa (Ql w w' g none) ∧ Qa (Below w0.heap.size w0 w'))
  case atStart => exact ⟨(true), (0), zF, zF, H', ⟨Nat.le_refl _⟩, ⟨by (with_reducible repeat (first | apply Kd.R_alloc | apply Kd.R_drewN | apply Kd.R_drew)); exact Kd.R_mono (Kd.R_far (p := ⟨aH, 1, none⟩) (Kd.R_far (p := ⟨aH, 0, none⟩) (Kd.R_mono aA.out (fun k_ hk => (⟨hk, hk.2⟩ : _ ∧ k_ ≠ aH))) (fun _ hk => hk.2) (.int .i64 (wrap64 (aN - 6)))) (fun _ hk => hk.2) (.int .i64 (wrap64 (aQ - 6)))) (fun _ hk => hk.1.2)⟩, ⟨zk0 aC.out⟩, ⟨(K4 HI0.out aG.out)⟩, ⟨(Kt HK.out aT.out)⟩, ⟨zG2 (Qc.ge HI0.out) aV.out⟩⟩
  case round =>
  clear H'
  try clear c9
  try clear bB
  try clear bC
  try clear bD
  try clear bE
  obtain ⟨bX, aI, rfl, rfl, HA, cB, aA, aC, HI0, HK, HB⟩ := hrel
  cases gk with
  | zero => exact absurd HA.out (by simp [Qi.l1])
  | succ k3 =>
  have H := HA.out
  clear HA
  simp only [Qi.l1] at H
  have dK := Qa.mk H
  clear H
  go_upto_region 9 with (fail)
  go_cut [37] (fun v37 wc => ∃ (kq : Nat) (bF : Bool), v37 = .bool bF ∧ Qa (Qi.j3 kq (wrap64 (3 + bL)) aD bA bX aI bF aJ aX aY (wrap64 (aN - 6)) (wrap64 (aQ - 6)) = some (r1, r2, r3)) ∧ Qa (kq ≤ k3) ∧ Qa (Kd.R k48 48 wc w.heap.size (fun k_ => k_ ≠ aH) u4 aD) ∧ Qa (wc.heap[aH]? = some (.cells #[.int .i64 (wrap64 (aN - 6)), .int .i64 (wrap64 (aQ - 6))] 48 (0, 0))) ∧ Qa (Qc w0 wc g aJ aX aY) ∧ Qa (Ql w wc g none) ∧ Qa (Below w0.heap.size w0 wc))
  case first =>
   have H := dK.out
   clear dK
   replace H := Xr H
   rcases H with ⟨bK, H⟩ | ⟨bK, H⟩
   ·(first | rw [bK] | (simp only [Zj, Zl]; rw [bK]) | skip)
    have H' := Qa.mk H; clear H
    obtain ⟨gX, gY, fE⟩ := Kd.R_slice aA.out
    subst fE
    go_wp2
    go_meet
    case rel => exact ⟨_, (bX), zF, H', ⟨by have := bQ.out; have := bZ.out; have := cB.out; first | omega | exact Nat.le_refl _⟩, ⟨zR aA.out⟩, ⟨zK aC.out⟩, ⟨(K4 HI0.out aG.out)⟩, ⟨(Kt HK.out aT.out)⟩, ⟨zG2 (Qc.ge HI0.out) aV.out⟩⟩
   (first | rw [bK] | (simp only [Zj, Zl]; rw [bK]) | skip)
   have H' := Qa.mk H; clear H
   obtain ⟨gZ, iA, fF⟩ := Kd.R_slice aA.out
   subst fF
   go_wp2
   go_meet
   case rel => exact ⟨_, (false), zF, H', ⟨by have := bQ.out; have := bZ.out; have := cB.out; first | omega | exact Nat.le_refl _⟩, ⟨zR aA.out⟩, ⟨zK aC.out⟩, ⟨(K4 HI0.out aG.out)⟩, ⟨(Kt HK.out aT.out)⟩, ⟨zG2 (Qc.ge HI0.out) aV.out⟩⟩
  case rest =>
  clear dK
  try clear c9
  try clear bB
  try clear bC
  try clear bD
  try clear bE
  obtain ⟨kq, bF, rfl, HA, aZ, aA, aC, HI0, HK, HB⟩ := hcut
  cases kq with
  | zero => exact absurd HA.out (by simp [Qi.j3])
  | succ dA =>
  have H := HA.out
  clear HA
  simp only [Qi.j3] at H
  by_cases c21 : bF = true
  ·subst c21
   replace H := (if_pos rfl).symm.trans H
   replace H := J5 H
   rcases H with ⟨dV, H⟩ | ⟨iB, H⟩
   ·replace H := J5 H
    rcases H with ⟨dW, H⟩ | ⟨c23, H⟩
    ·have H' := Qa.mk H; clear H
     try go_wp2
     replace aA := Qa.mk (Kd.R_drew aA.out)
     replace aC := Qa.mk (Qk aC.out)
     replace HI0 := Qa.mk (Qc.drew HI0.out)
     replace HK := Qa.mk (Zr HK.out)
     replace HB := Qa.mk (Qo HB.out)
     obtain ⟨iC, fG, dX⟩ := Kd.R_slice aA.out
     (first | subst dX | (injection dX with gI iD gJ; have iE := gI.symm; have iF := gJ.symm; clear gI iD gJ; subst iE; subst iF))
     have dB : 0 ≤ (aI : Int) := zA
     have dC : aI < (aD.length : Int) := zA
     obtain ⟨aU, fH, bG, bH⟩ := Xz (Kd.R_reads' aA.out).2.2 aI dB dC
     cases fH
     replace dB := eq_true dB
     replace dC := eq_true dC
     refine Xe (n := 7) (S := fun w' => w'.cell? ⟨aH, 0, none⟩ = some (.int .i64 (wrap64 (aN - 6))) ∧ w'.cell? ⟨aH, 1, none⟩ = some (.int .i64 (wrap64 (aQ - 6))) ∧ w'.cell? (aU.add ((aI).toNat * 2)) = some (.int .i64 ((Qp aD aI).f0)) ∧ w'.cell? ⟨(aU.add ((aI).toNat * 2)).block, (aU.add ((aI).toNat * 2)).off + 1, none⟩ = some (.int .i64 ((Qp aD aI).f1))) (ds := []) #[false, false, false, false, false, false, false] (by kernel_rfl) rfl rfl ⟨(Qj aC.out 0).trans rfl, (Qj aC.out 1).trans rfl, bG, bH⟩ (fun hHeld => ?_)
     generalize wc.drew = iT at aA aC HI0 HK HB bG bH hHeld ⊢
     refine Yk (i := 0) (N := some 40) (v := ?_) (a' := ?_) #[true, false, false, false, false, false, false] rfl rfl (by kernel_rfl) (fun _ _ _ h => h) (Or.inl ⟨by rfl, ?_⟩) ?_ ?_
     rotate_left
     ·intro w'
      go_simp
      with_reducible rfl
     rotate_left
     ·simp only [Act.put, List.setIfInBounds_toArray, List.set_cons_zero, List.set_cons_succ, Zj, Zl]
      rfl
     refine Yk (i := 1) (N := some 41) (v := ?_) (a' := ?_) #[true, true, false, false, false, false, false] rfl rfl (by kernel_rfl) (fun _ _ _ h => h) (Or.inl ⟨by rfl, ?_⟩) ?_ ?_
     rotate_left
     ·intro w'
      go_simp
      with_reducible rfl
     rotate_left
     ·simp only [Act.put, List.setIfInBounds_toArray, List.set_cons_zero, List.set_cons_succ, Zj, Zl]
      rfl
     refine Yk (i := 2) (N := some 42) (v := ?_) (a' := ?_) #[true, true, true, false, false, false, false] rfl rfl (by kernel_rfl) (fun _ _ _ h => h) (Or.inl ⟨by rfl, ?_⟩) ?_ ?_
     rotate_left
     ·intro w'
      go_simp
      with_reducible rfl
     rotate_left
     ·simp only [Act.put, List.setIfInBounds_toArray, List.set_cons_zero, List.set_cons_succ, Zj, Zl]
      rfl
     refine take_ (i := 3) (N := some 43) (v := ?_) (a' := ?_) #[true, true, true, true, false, false, false] rfl rfl (by kernel_rfl) (fun _ _ _ h => h) (Or.inl ⟨by rfl, ?_⟩) hHeld ?_ ?_
     rotate_left
     ·rintro w' ⟨s0, s1, s2, s3⟩
      go_simp
      with_reducible rfl
     rotate_left
     ·simp only [Act.put, List.setIfInBounds_toArray, List.set_cons_zero, List.set_cons_succ, Zj, Zl]
      rfl
     refine take_ (i := 4) (N := some 44) (v := ?_) (a' := ?_) #[true, true, true, true, true, false, false] rfl rfl (by kernel_rfl) (fun _ _ _ h => h) (Or.inl ⟨by rfl, ?_⟩) hHeld ?_ ?_
     rotate_left
     ·rintro w' ⟨s0, s1, s2, s3⟩
      go_simp
      with_reducible rfl
     rotate_left
     ·simp only [Act.put, List.setIfInBounds_toArray, List.set_cons_zero, List.set_cons_succ, Zj, Zl]
      rfl
     refine Yk (i := 5) (N := some 45) (v := ?_) (a' := ?_) #[true, true, true, true, true, true, false] rfl rfl (by kernel_rfl) (fun _ _ _ h => h) (Or.inl ⟨by rfl, ?_⟩) ?_ ?_
     rotate_left
     ·intro w'
      go_simp
      with_reducible rfl
     rotate_left
     ·simp only [Act.put, List.setIfInBounds_toArray, List.set_cons_zero, List.set_cons_succ, Zj, Zl]
      rfl
     refine Yk (i := 6) (N := some 7) (v := ?_) (a' := ?_) #[true, true, true, true, true, true, true] rfl rfl (by kernel_rfl) (fun _ _ _ h => h) (Or.inl ⟨by rfl, ?_⟩) ?_ ?_
     rotate_left
     ·intro w'
      go_simp
      with_reducible rfl
     rotate_left
     ·simp only [Act.put, List.setIfInBounds_toArray, List.set_cons_zero, List.set_cons_succ, Zj, Zl]
      rfl
     refine Yp (by kernel_rfl) ?_
     try go_wp2
     go_loopg [7, 9] dA (fun kq v7 v9 w' => ∃ (cZ : Bool) (aW : Int), v7 = .bool cZ ∧ v9 = .int .i64 aW ∧ Qa (Qi.l2 kq (wrap64 (3 + bL)) aD bA cZ aI aW aJ aX aY (wrap64 (aN - 6)) (wrap64 (aQ - 6)) = some (r1, r2, r3)) ∧ Qa (kq ≤ dA) ∧ Qa (Kd.R k48 48 w' w.heap.size (fun k_ => k_ ≠ aH) (.slice (some aU) aD.length fG) aD) ∧ Qa (w'.heap[aH]? = some (.cells #[.int .i64 (wrap64 (aN - 6)), .int .i64 (wrap64 (aQ - 6))] 48 (0, 0))) ∧ Qa (Qc w0 w' g aJ aX aY) ∧ Qa (Ql w w' g none) ∧ Qa (Below w0.heap.size w0 w'))
     case atStart => exact ⟨((!(((Qp aD aI).f0) == (wrap64 (aN - 6))) || (!(((Qp aD aI).f1) == (wrap64 (aQ - 6)))))), (0), zF, zF, H', ⟨Nat.le_refl _⟩, ⟨zR aA.out⟩, ⟨zK aC.out⟩, ⟨(K4 HI0.out aG.out)⟩, ⟨(Kt HK.out aT.out)⟩, ⟨zG2 (Qc.ge HI0.out) aV.out⟩⟩
     case round =>
     clear H'
     try clear c9
     try clear c21
     try clear iB
     try clear dV
     try clear c23
     try clear dW
     try clear bB
     try clear bC
     try clear bD
     try clear bE
     try clear bG
     try clear bH
     try clear dB
     try clear dC
     obtain ⟨cZ, aW, rfl, rfl, HA, dP, aA, aC, HI0, HK, HB⟩ := hrel
     cases gk with
     | zero => exact absurd HA.out (by simp [Qi.l2])
     | succ k5 =>
     have H := HA.out
     clear HA
     simp only [Qi.l2] at H
     replace H := Xr H
     rcases H with ⟨dY, H⟩ | ⟨dY, H⟩
     ·by_cases eU : cZ = true
      ·subst eU
       replace H := (if_pos rfl).symm.trans H
       replace H := J5 H
       rcases H with ⟨gK, H⟩ | ⟨c28, H⟩
       ·replace H := J5 H
        rcases H with ⟨gL, H⟩ | ⟨iU, H⟩
        ·replace H := J5 H
         rcases H with ⟨gM, H⟩ | ⟨iV, H⟩
         ·replace H := J5 H
          rcases H with ⟨gN, H⟩ | ⟨c31, H⟩
          ·obtain ⟨dZ, iG, H⟩ := zO H
           have H' := Qa.mk H; clear H
           try go_wp2
           replace aA := Qa.mk (Kd.R_drew aA.out)
           replace aC := Qa.mk (Qk aC.out)
           replace HI0 := Qa.mk (Qc.drew HI0.out)
           replace HK := Qa.mk (Zr HK.out)
           replace HB := Qa.mk (Qo HB.out)
           have dL : 0 ≤ (aW : Int) := zA
           have dM : aW < (aD.length : Int) := zA
           obtain ⟨eB, fI, bT, bU⟩ := Xz (Kd.R_reads' aA.out).2.2 aW dL dM
           obtain rfl : aU = eB := (by injection fI)
           replace dL := eq_true dL
           replace dM := eq_true dM
           have dN : 0 ≤ (aI : Int) := zA
           have dO : aI < (aD.length : Int) := zA
           obtain ⟨eD, e165, bV, bW⟩ := Xz (Kd.R_reads' aA.out).2.2 aI dN dO
           obtain rfl : aU = eD := (by injection e165)
           replace dN := eq_true dN
           replace dO := eq_true dO
           refine Xe (n := 12) (S := fun w' => w'.cell? ⟨aH, 0, none⟩ = some (.int .i64 (wrap64 (aN - 6))) ∧ w'.cell? ⟨aH, 1, none⟩ = some (.int .i64 (wrap64 (aQ - 6))) ∧ w'.cell? (aU.add ((aW).toNat * 2)) = some (.int .i64 ((Qp aD aW).f0)) ∧ w'.cell? ⟨(aU.add ((aW).toNat * 2)).block, (aU.add ((aW).toNat * 2)).off + 1, none⟩ = some (.int .i64 ((Qp aD aW).f1)) ∧ w'.cell? (aU.add ((aI).toNat * 2)) = some (.int .i64 ((Qp aD aI).f0)) ∧ w'.cell? ⟨(aU.add ((aI).toNat * 2)).block, (aU.add ((aI).toNat * 2)).off + 1, none⟩ = some (.int .i64 ((Qp aD aI).f1))) (ds := []) #[false, false, false, false, false, false, false, false, false, false, false, false] (by kernel_rfl) rfl rfl ⟨(Qj aC.out 0).trans rfl, (Qj aC.out 1).trans rfl, bT, bU, bV, bW⟩ (fun hHeld => ?_); refine J6 Qi.tab15 Qi.bits15 (fun HT_ HW_ => ?_)
           generalize wr.drew = iW at aA aC HI0 HK HB bT bU bV bW hHeld ⊢
           refine zP 0 (some 54) rfl rfl ?_
           refine zP 1 (some 55) rfl rfl ?_
           refine zP 2 (some 56) rfl rfl ?_
           refine zP 4 (some 58) rfl rfl ?_
           refine zP 5 (some 59) rfl rfl ?_
           refine zP 6 (some 60) rfl rfl ?_
           refine zY6 3 (some 57) rfl rfl hHeld ?_
           refine zY6 7 (some 61) rfl rfl hHeld ?_
           refine zY6 8 (some 62) rfl rfl hHeld ?_
           refine zU 9 (some 63) rfl rfl (fun K hK => ?_)
           refine X0 Tryz.func59 (by kernel_rfl) rfl #[.agg #[.int .i64 ((Qp aD aW).f0), .int .i64 ((Qp aD aW).f1)], .agg #[.int .i64 ((Qp aD aI).f0), .int .i64 ((Qp aD aI).f1)], .agg #[.int .i64 (wrap64 (aN - 6)), .int .i64 (wrap64 (aQ - 6))]] (by rfl) rfl rfl zM ?_
           with_reducible refine (Z7.calls ((Qp aD aW).f0) ((Qp aD aW).f1) ((Qp aD aI).f0) ((Qp aD aI).f1) (wrap64 (aN - 6)) (wrap64 (aQ - 6)) dZ _ iG.out).mono ?_
           rintro e iX ⟨rfl, hb⟩
           have fJ := (hb.cell (World.block_lt_of_cell? _ _ (hHeld.2.2.1))).trans (hHeld.2.2.1)
           have fK := (hb.cell (World.block_lt_of_cell? _ _ (hHeld.2.2.2.1))).trans (hHeld.2.2.2.1)
           have fM := (hb.cell (World.block_lt_of_cell? _ _ (hHeld.2.2.2.2.1))).trans (hHeld.2.2.2.2.1)
           have fO := (hb.cell (World.block_lt_of_cell? _ _ (hHeld.2.2.2.2.2))).trans (hHeld.2.2.2.2.2)
           refine ⟨_, rfl, ?_⟩
           have bM := zW aA.out hb
           have bN := zV aC.out hb
           have bO := Qa.mk (Qc.below (K4 HI0.out aG.out) hb)
           have bP := Qa.mk (Ql.trans (Kt HK.out aT.out) (Ql.of_below hb g none) (.inl rfl))
           have cO := Qa.mk (Qg (zG2 (Qc.ge HI0.out) aV.out) hb)
           clear aA
           clear aC
           clear HI0
           clear HK
           clear HB
           have aA := bM
           have aC := bN
           have HI0 := bO
           have HK := bP
           have HB := cO
           clear bM bN bO bP cO
           (try clear hb)
           refine hK.out _ _ ⟨(Qj aC.out 0).trans rfl, (Qj aC.out 1).trans rfl, fJ, fK, fM, fO⟩ (fun hHeld => ?_)
           clear hK K
           refine zN ?_
           refine zP 10 (some 64) rfl rfl ?_
           refine zP 11 (some 7) rfl rfl ?_
           refine Yp (Zu HT_.out (by kernel_rfl)) ?_
           try go_wp2
           go_roundg k5
           case measure => have := bQ.out; have := bZ.out; have := cB.out; have := aZ.out; have := dP.out; omega
           case rel => exact ⟨((dZ != 0)), (wrap64 (aW + 1)), zF, zF, H', ⟨by have := bQ.out; have := bZ.out; have := cB.out; have := aZ.out; have := dP.out; omega⟩, ⟨zR aA.out⟩, ⟨zK aC.out⟩, ⟨(K4 HI0.out aG.out)⟩, ⟨(Kt HK.out aT.out)⟩, ⟨zG2 (Qc.ge HI0.out) aV.out⟩⟩
          exact absurd H (by simp)
         exact absurd H (by simp)
        exact absurd H (by simp)
       exact absurd H (by simp)
      replace eU := Bool.eq_false_iff.mpr eU
      subst eU
      replace H := (if_neg zFf).symm.trans H
      have H' := Qa.mk H; clear H
      go_wp2
      go_roundg k5
      case measure => have := bQ.out; have := bZ.out; have := cB.out; have := aZ.out; have := dP.out; omega
      case rel => exact ⟨(false), (wrap64 (aI + 1)), zF, zF, H', ⟨by have := bQ.out; have := bZ.out; have := cB.out; have := aZ.out; have := dP.out; omega⟩, ⟨zR aA.out⟩, ⟨zK aC.out⟩, ⟨(K4 HI0.out aG.out)⟩, ⟨(Kt HK.out aT.out)⟩, ⟨zG2 (Qc.ge HI0.out) aV.out⟩⟩
     have H' := Qa.mk H; clear H
     go_wp2
     go_roundg k5
     case measure => have := bQ.out; have := bZ.out; have := cB.out; have := aZ.out; have := dP.out; omega
     case rel => exact ⟨(cZ), (wrap64 (aI + 1)), zF, zF, H', ⟨by have := bQ.out; have := bZ.out; have := cB.out; have := aZ.out; have := dP.out; omega⟩, ⟨zR aA.out⟩, ⟨zK aC.out⟩, ⟨(K4 HI0.out aG.out)⟩, ⟨(Kt HK.out aT.out)⟩, ⟨zG2 (Qc.ge HI0.out) aV.out⟩⟩
    exact absurd H (by simp)
   exact absurd H (by simp)
  replace c21 := Bool.eq_false_iff.mpr c21
  subst c21
  replace H := (if_neg zFf).symm.trans H
  by_cases eX : bX = true
  ·subst eX
   replace H := (if_pos rfl).symm.trans H
   replace H := X8 H
   rcases H with ⟨fP, H⟩ | ⟨fP, H⟩
   ·have eF := Qa.mk fP
    clear fP
    generalize hy160 : (aD ++ [(⟨(wrap64 (aN - 6)), (wrap64 (aQ - 6))⟩ : S48)] : List (S48)) = y160 at H
    have eG := Qa.mk hy160.symm
    clear hy160
    have H' := Qa.mk H; clear H
    have gP := bS.out
    have gQ := aG.out
    obtain ⟨eY, eZ, fA, fB⟩ := zq2 aC.out
    go_wp2_with (first | ((with_reducible refine Zy (b := .append) (xs := #[.tmp 66, .tmp 68]) rfl ?_); (try (refine Zq (by rfl) ?_; dsimp only)); at_builtin; refine Kd.R_append k48 w.heap.size rfl (.tmp 66) (.tmp 68) 28 48 (.agg #[(.int .i64 0), (.int .i64 0)]) 16 rfl Tryz.underlying28 jJu rfl (by decide) (by omega) u4 aD (⟨(wrap64 (aN - 6)), (wrap64 (aQ - 6))⟩ : S48) [.int .i64 (wrap64 (aN - 6)), .int .i64 (wrap64 (aQ - 6))] (fun k_ => k_ ≠ aH) (fun _ => False) rfl rfl ?aP (fun _ hk => hk.elim) ?aF ?aO (Below.refl _ _) ?aS ?aL ?_; (case aP => exact Vh _ _ _ (⟨(wrap64 (aN - 6)), (wrap64 (aQ - 6))⟩ : S48)); (case aF => exact (fun k_ hk => Kd.freshB (g := aH) (o := .cells #[.int .i64 (wrap64 (aN - 6)), .int .i64 (wrap64 (aQ - 6))] 48 (0, 0)) (zK aC.out) k_ hk)); (case aO => exact (zR aA.out)); (case aS => exact (Jt (w := w) (g := g) (row := none) (Kt HK.out aT.out))); (case aL => have := eF.out; omega); intro iH iY ho hb hg hat; rw [← eG.out] at ho; have bM := Qa.mk (Vl (g := aH) (o := .cells #[.int .i64 (wrap64 (aN - 6)), .int .i64 (wrap64 (aQ - 6))] 48 (0, 0)) (zK aC.out) hg (Kd.R_away aA.out (fun _ hk => hk))); have bN := Qa.mk (Qc.grown (K4 HI0.out aG.out) hg (Qc.own_ne HI0.out aA.out (by decide))); have bO := Qa.mk (Vk (zG2 (Qc.ge HI0.out) aV.out) HL.out hb); have bP := Qa.mk (Ql.trans (Kt HK.out aT.out) (Ql.of_grown hg g) (Kd.R_base2 aA.out)); have cO := Qa.mk (ho); clear aC; clear HI0; clear HB; clear HK; clear aA; have aC := bM; have HI0 := bN; have HB := bO; have HK := bP; have eH := cO; clear bM bN bO bP cO; clear ho hb hg hat))
    go_roundg dA
    case measure => have := bQ.out; have := bZ.out; have := cB.out; have := aZ.out; omega
    case rel => exact ⟨(y160), (wrap64 (bA + 1)), (aX), (aY), zF, H', ⟨by have := bQ.out; have := bZ.out; have := cB.out; have := aZ.out; omega⟩, ⟨zR (Kd.R_mono eH.out (fun _ hk => trivial))⟩, ⟨(K4 HI0.out aG.out)⟩, ⟨(Kt HK.out aT.out)⟩, ⟨zG2 (Qc.ge HI0.out) aV.out⟩⟩
   exact absurd H (by simp)
  replace eX := Bool.eq_false_iff.mpr eX
  subst eX
  replace H := (if_neg zFf).symm.trans H
  have H' := Qa.mk H; clear H
  go_wp2
  go_roundg dA
  case measure => have := bQ.out; have := bZ.out; have := cB.out; have := aZ.out; omega
  case rel => exact ⟨(aD), (wrap64 (bA + 1)), (aX), (aY), zF, H', ⟨by have := bQ.out; have := bZ.out; have := cB.out; have := aZ.out; omega⟩, ⟨zR (Kd.R_mono aA.out (fun _ hk => trivial))⟩, ⟨(K4 HI0.out aG.out)⟩, ⟨(Kt HK.out aT.out)⟩, ⟨zG2 (Qc.ge HI0.out) aV.out⟩⟩
 replace c9 := Bool.eq_false_iff.mpr c9
 subst c9
 replace H := (if_neg zFf).symm.trans H
 replace H := jEh H
 rcases H with ⟨c40, eO, H⟩ | ⟨c40, eO, H⟩
 ·have eP : decide (aD.length < 3) = true := decide_eq_true (by omega)
  clear c40
  generalize hy150 : (([(⟨0, 0⟩ : S48), (⟨4, 1⟩ : S48), (⟨1, 3⟩ : S48), (⟨2, 2⟩ : S48)] : List (S48)) : List (S48)) = y150 at H
  have dF := Qa.mk hy150.symm
  clear hy150
  simp only [Option.some.injEq, Prod.mk.injEq] at H
  obtain ⟨rfl, rfl, rfl⟩ := H
  obtain ⟨iI, iJ, fQ⟩ := Kd.R_slice aA.out
  subst fQ
  go_wp2_with (first | ((with_reducible refine Qm (N := 77) rfl ?_); (try (refine Zq (by rfl) ?_; dsimp only)); refine Kd.R_lit k48 _ 48 ?hg (N := 77) ?hd (xs := ([(⟨0, 0⟩ : S48), (⟨4, 1⟩ : S48), (⟨1, 3⟩ : S48), (⟨2, 2⟩ : S48)] : List (S48))) (inner := [.int .i64 0, .int .i64 0, .int .i64 4, .int .i64 1, .int .i64 1, .int .i64 3, .int .i64 2, .int .i64 2]) (ok := fun _ => True) (okp := fun _ => True) ?hr ?hp (fun _ hk => hk) trivial (Below.refl _ _) (Nat.le_refl _) (by simp) ?_; (case hd => rfl); (case hg => rfl); (case hr => first | (go_simp; done) | (go_simp; rfl)); (case hp => exact (Z0.c2 (show Kd.M k48 _ _ _ (⟨0, 0⟩ : S48) [.int .i64 0, .int .i64 0] from (Vh _ _ _ (⟨0, 0⟩ : S48) )) (Z0.c2 (show Kd.M k48 _ _ _ (⟨4, 1⟩ : S48) [.int .i64 4, .int .i64 1] from (Vh _ _ _ (⟨4, 1⟩ : S48) )) (Z0.c2 (show Kd.M k48 _ _ _ (⟨1, 3⟩ : S48) [.int .i64 1, .int .i64 3] from (Vh _ _ _ (⟨1, 3⟩ : S48) )) (Z0.c2 (show Kd.M k48 _ _ _ (⟨2, 2⟩ : S48) [.int .i64 2, .int .i64 2] from (Vh _ _ _ (⟨2, 2⟩ : S48) )) (Z0.none _ _)))))); intro iK iZ bY hb hg_ hnew_; clear hg_ hnew_; (first | rw [← dF.out] at bY | (simp only [Int.reduceToNat] at bY; rw [← dF.out] at bY)); have bM := Qa.mk (Kd.R_elder' (zR aA.out) (Kd.R_base bY) hb); have bN := Qa.mk (Kd.R_lower (Kd.R_new' bY (Kd.R_lt (zR aA.out))) (Jt (w := w) (g := g) (row := none) (Vs HK.out))); have bO := Qa.mk (Qc.below (Vt HI0.out) hb); have bP := Qa.mk (Ql.trans (Vs HK.out) (Ql.of_below hb g none) (.inl rfl)); have cO := Qa.mk (Qg (zG (Qc.ge HI0.out)) hb); clear aA; clear HI0; clear HK; clear HB; have aA := bM; have eQ := bN; have HI0 := bO; have HK := bP; have HB := cO; clear bM bN bO bP cO; clear hb bY))
  go_ret
  exact ⟨_, zE, zR (Kd.R_mono eQ.out (fun _ hk => trivial)), (Vt HI0.out), zG (Qc.ge HI0.out), (Vs HK.out)⟩
 have eP : decide (aD.length < 3) = false := decide_eq_false (by omega)
 clear c40
 simp only [Option.some.injEq, Prod.mk.injEq] at H
 obtain ⟨rfl, rfl, rfl⟩ := H
 obtain ⟨iL, iM, fT⟩ := Kd.R_slice aA.out
 subst fT
 go_wp2
 go_ret
 exact ⟨_, zE, zR aA.out, (Vt HI0.out), zG (Qc.ge HI0.out), (Vs HK.out)⟩
end Go.Proofs.YtckkfjdkaimmhaaGreatDoor.PX
namespace Go.Proofs.YtckkfjdkaimmhaaGreatDoor.PX
open Go.RowKit Go.Proofs.YtckkfjdkaimmhaaGreatDoor.G Go.Proofs.YtckkfjdkaimmhaaGreatDoorW.PrintWords Go.Proofs.YtckkfjdkaimmhaaGreatDoorW.PrintLast Go.Proofs.YtckkfjdkaimmhaaGreatDoorW.PrintMore
attribute [local go_sem] max2_int min2_int Yv Yx Xm Xl X9 Yb   -- for this text's walks alone
set_option linter.unusedVariables false
set_option linter.unusedSimpArgs false
def Jp.l0 : Nat → Int → Int → List Int → Int → Int → Int → ByteArray → Option (Int × ByteArray × Int × Int)
 | 0, _, _, _, _, _, _, _ => none
 | k + 1, x3, x5, x1000, aG, aH, aC, aA => if x5 < (wrap64 (Int.tdiv (wrap64 ((wrap64 (x3 * (wrap64 (x3 - 1)))) * (wrap64 (x3 - 2)))) 6)) then ((Xk.f x1000 aG aH (([(⟨#[43]⟩ : ByteArray), (⟨#[45]⟩ : ByteArray), (⟨#[43]⟩ : ByteArray)] : List ByteArray))).bind fun aD => (if aA.size + aD.1.size ≤ 9223372036854775807 then (Jp.l0 k x3 (wrap64 (x5 + 1)) x1000 aD.2.1 aD.2.2 aC (aA ++ aD.1)) else (none))) else (some (aC, aA, aG, aH))
def Jp.f (k : Nat) (aG : List Int) (aI : Int) (aJ : Int) : Option (Int × ByteArray × Int × Int) := (Zw.f aG aI aJ 5).bind fun aA => (if aA.1 = true then ((Q5.f aG aA.2.1 aA.2.2 3).bind fun aC => (Jp.l0 k (wrap64 (3 + aC.1)) 0 aG aC.2.1 aC.2.2 (wrap64 (3 + aC.1)) (⟨#[]⟩ : ByteArray))) else ((Qi.f k aG aA.2.1 aA.2.2).bind fun aD => ((Qz.f k aD.1).bind fun aH => (some (aH.1, aH.2.1, aD.2.1, aD.2.2)))))
def Jp.T7 : Bool × List (List Nat × List Nat) := (true, [([], []), ([0], [0]), ([], []), ([], []), ([2, 3], [2, 3]), ([1, 4], [1, 4]), ([0, 1, 2, 3, 4, 5], []), ([6, 5, 4, 0, 1, 2, 3, 4, 5], [5, 6])])
def Jp.B7 : List Nat := [0, 1, 0, 0, 12, 31, 63, 127]
theorem Jp.tab7 : Vv .any (opsOf Tryz.f73 7) = Jp.T7 := by kernel_rfl
theorem Jp.bits7 : Zz Jp.T7.2 Jp.B7 = true := by kernel_rfl
theorem jBm {p q : Prop} (g : p) (h : p → q := by intro zg_; repeat (first | (with_reducible first | exact zg_ | apply Qc.alloc | apply Qc.drewN | apply Qc.drew | apply Qc.set_1 | apply Qc.set_2) | exact zg_)) : q := h g
theorem jBw {p q : Prop} (g : p) (h : p → q := by intro zg_; repeat (first | (with_reducible first | exact zg_ | apply Ql.set_ | apply Z5 | apply Zr | apply Z6) | exact zg_)) : q := h g
theorem Ub {p q p0 : Prop} (g : p) (g0 : p0) (h : p → p0 → q := by intro zg_ aA; repeat (first | (with_reducible first | exact zg_ | apply Qc.alloc | apply Qc.drewN | apply Qc.drew | apply Qc.set_1 | apply Qc.set_2 | refine Qc.far ?_ aA _) | exact zg_)) : q := h g g0
theorem jE6 {p q p0 p1 : Prop} (g : p) (g0 : p0) (g1 : p1) (h : p → p0 → p1 → q := by intro zg_ aA aC; repeat (first | (with_reducible first | exact zg_ | apply Qv | apply Qr | apply Qo | refine Qf ?_ aA | refine Qf ?_ aC) | exact zg_)) : q := h g g0 g1
theorem Kq {p q p0 : Prop} (g : p) (g0 : p0) (h : p → p0 → q := by intro zg_ aA; repeat (first | (with_reducible first | exact zg_ | apply Ql.set_ | apply Z5 | apply Zr | apply Z6 | refine Ki ?_ aA _) | exact zg_)) : q := h g g0
theorem jAn {p q p0 p1 : Prop} (g : p) (g0 : p0) (g1 : p1) (h : p → p0 → p1 → q := by intro zg_ aA aC; repeat (first | (with_reducible first | exact zg_ | apply Qc.alloc | apply Qc.drewN | apply Qc.drew | apply Qc.set_1 | apply Qc.set_2 | refine Qc.far ?_ aA _ | refine Qc.far ?_ aC _) | exact zg_)) : q := h g g0 g1
theorem jA3 {p q p0 p1 : Prop} (g : p) (g0 : p0) (g1 : p1) (h : p → p0 → p1 → q := by intro zg_ aA aC; repeat (first | (with_reducible first | exact zg_ | apply Ql.set_ | apply Z5 | apply Zr | apply Z6 | refine Ki ?_ aA _ | refine Ki ?_ aC _) | exact zg_)) : q := h g g0 g1
theorem jMf {p q p0 p1 p2 : Prop} (g : p) (g0 : p0) (g1 : p1) (g2 : p2) (h : p → p0 → p1 → p2 → q := by intro zg_ aA aC aD; repeat (first | (with_reducible first | exact zg_ | apply Qv | apply Qr | apply Qo | refine Qf ?_ aA | refine Qf ?_ aC | refine Qf ?_ aD) | exact zg_)) : q := h g g0 g1 g2
set_option maxHeartbeats 8000000 in
set_option maxRecDepth 100000 in
theorem Jp.calls (k : Nat) (g : Nat) (aQ : List Int) (bE : Int) (bF : Int) (r1 : Int) (r2 : ByteArray) (r3 : Int) (r4 : Int) (w0 w : World) (hI : Qc w0 w g aQ bE bF) (hB : Below w0.heap.size w0 w) (h : Jp.f k aQ bE bF = some (r1, r2, r3, r4)) :
  Calls Tryz.prog 73 #[.pointer (some ⟨g, 0, none⟩)] w fun e w' => e = .returned (.agg #[.int .i64 r1, .string r2]) ∧ Qc w0 w' g aQ r3 r4 ∧ Below w0.heap.size w0 w' ∧ Ql w w' g none := by
 have gT := Tryz.underlying25
 have HI0 := Qa.mk hI
 have HK := Qa.mk (Ql.refl w g none)
 have HL := Qa.mk hB.size
 clear hI
 have HW0 := Qa.mk hB.size
 have HB := Qa.mk hB
 clear hB
 have H := h
 unfold Jp.f at H
 clear h
 obtain ⟨⟨fE, bV, bW⟩, A2, H⟩ := zO H
 dsimp only at H
 by_cases c3 : fE = true
 ·subst c3
  replace H := (if_pos rfl).symm.trans H
  obtain ⟨⟨bP, bX, bY⟩, A4, H⟩ := zO H
  dsimp only at H
  have H' := Qa.mk H; clear H
  go_enter Tryz.func73, Tryz.ntmps73
  go_wp2_with (first | ((with_reducible refine Qm (N := 2) rfl ?_); refine zBx (N := 2) #[.int .i64 0, .string (⟨#[]⟩ : ByteArray)] 25 ?_; intro aJ hg w5 hbox hb; have bG := Qa.mk (Qc.below (jBm HI0.out) hb); have bH := Qa.mk (Ql.trans (jBw HK.out) (Ql.of_below hb g none) (.inl rfl)); have bI := Qa.mk (Qg (zG (Qc.ge HI0.out)) hb); have bJ := Qa.mk (hbox); have bK := Qa.mk ((by rw [hg]; exact (Jt (w := w) (g := g) (row := none) (jBw HK.out)) : w.heap.size ≤ aJ)); have bN := Qa.mk ((Nat.le_trans HW0.out (by rw [hg]; exact (Jt (w := w) (g := g) (row := none) (jBw HK.out)) : w.heap.size ≤ aJ) : w0.heap.size ≤ aJ)); have bR := Qa.mk ((by rw [hg]; exact Nat.ne_of_lt (Qc.lt (show Qc w0 _ g aQ bE bF from (jBm HI0.out))) : g ≠ aJ)); have bS := Qa.mk ((by rw [hg]; exact Nat.ne_of_gt (Qc.lt (show Qc w0 _ g aQ bE bF from (jBm HI0.out))) : aJ ≠ g)); clear HI0; clear HK; clear HB; have HI0 := bG; have HK := bH; have HB := bI; have aA := bJ; have aD := bK; have aK := bN; have aC := bR; have aM := bS; clear bG bH bI bJ bK bN bR bS; clear hb hbox hg) | ((with_reducible refine Qd (f := 53) rfl ?_); refine zD (some 9) Tryz.func53 _ ((Zw.calls g aQ bE bF 5 true bV bW w0 _ ?aT ?aU A2.out).mono ?_); (case aT => exact (Ub HI0.out aC.out)); (case aU => exact (jE6 HB.out (Qc.ge HI0.out) aK.out)); rintro e w6 ⟨rfl, hi, hb, hk⟩; refine ⟨_, rfl, ?_⟩; replace aA := zKB hk aA.out aM.out; replace HK := Qa.mk (Ql.trans (Kq HK.out aD.out) hk (.inl rfl)); replace HI0 := Qa.mk (hi); replace HB := Qa.mk (hb); (try clear hb); (try clear hk); (try clear hi)) | ((with_reducible refine Qd (f := 51) rfl ?_); refine zD (some 11) Tryz.func51 _ ((Q5.calls g aQ bV bW 3 bP bX bY w0 _ ?aT ?aU A4.out).mono ?_); (case aT => exact (Ub HI0.out aC.out)); (case aU => exact (jE6 HB.out (Qc.ge HI0.out) aK.out)); rintro e w7 ⟨rfl, hi, hb, hk⟩; refine ⟨_, rfl, ?_⟩; replace aA := zKB hk aA.out aM.out; replace HK := Qa.mk (Ql.trans (Kq HK.out aD.out) hk (.inl rfl)); replace HI0 := Qa.mk (hi); replace HB := Qa.mk (hb); (try clear hb); (try clear hk); (try clear hi)) | ((with_reducible refine Qm (N := 4) rfl ?_); refine zBx (N := 4) #[.int .i64 0, .string (⟨#[]⟩ : ByteArray)] 25 ?_; intro aV hg w8 hbox hb; have bG := Qa.mk (Qc.below (Ub HI0.out aC.out) hb); have bH := zV aA.out hb; have bI := Qa.mk (Ql.trans (Kq HK.out aD.out) (Ql.of_below hb g none) (.inl rfl)); have bJ := Qa.mk (Qg (zG2 (Qc.ge HI0.out) aK.out) hb); have bK := Qa.mk (hbox); have bN := Qa.mk ((by rw [hg]; exact (Jt (w := w) (g := g) (row := none) (Kq HK.out aD.out)) : w.heap.size ≤ aV)); have bR := Qa.mk ((Nat.le_trans HW0.out (by rw [hg]; exact (Jt (w := w) (g := g) (row := none) (Kq HK.out aD.out)) : w.heap.size ≤ aV) : w0.heap.size ≤ aV)); have bS := zL hg aA.out; have dJ := zLg hg aA.out; have dK := Qa.mk ((by rw [hg]; exact Nat.ne_of_lt (Qc.lt (show Qc w0 _ g aQ bX bY from (Ub HI0.out aC.out))) : g ≠ aV)); have bT := Qa.mk ((by rw [hg]; exact Nat.ne_of_gt (Qc.lt (show Qc w0 _ g aQ bX bY from (Ub HI0.out aC.out))) : aV ≠ g)); clear HI0; clear aA; clear HK; clear HB; have HI0 := bG; have aA := bH; have HK := bI; have HB := bJ; have aH := bK; have bB := bN; have bL := bR; have aI := bS; have aZ := dJ; have aN := dK; have bD := bT; clear bG bH bI bJ bK bN bR bS dJ dK bT; clear hb hbox hg; have gU := aZ.out; have gV := aI.out; have fM := bD.out; have fO := aN.out; obtain ⟨bZ, cB, cK, cO⟩ := zq2 aH.out))
  go_loopg [5] k (fun kq v5 w' => ∃ (cZ : Int) (aW : Int) (aX : Int) (aG : ByteArray), v5 = .int .i64 cZ ∧ Qa (Jp.l0 kq (wrap64 (3 + bP)) cZ aQ aW aX (wrap64 (3 + bP)) aG = some (r1, r2, r3, r4)) ∧ Qa (kq ≤ k) ∧ Qa (w'.heap[aJ]? = some (.cells #[.int .i64 0, .string (⟨#[]⟩ : ByteArray)] 25 (0, 0))) ∧ Qa (w'.heap[aV]? = some (.cells #[.int .i64 (wrap64 (3 + bP)), .string aG] 25 (0, 0))) ∧ Qa (Qc w0 w' g aQ aW aX) ∧ Qa (Ql w w' g none) ∧ Qa (Below w0.heap.size w0 w'))
  case atStart => exact ⟨(0), (bX), (bY), ((⟨#[]⟩ : ByteArray)), zF, H', ⟨Nat.le_refl _⟩, ⟨zk2 aA.out aI.out aI.out⟩, ⟨zk0 aH.out⟩, ⟨(jAn HI0.out aC.out aN.out)⟩, ⟨(jA3 HK.out aD.out bB.out)⟩, ⟨zG3 (Qc.ge HI0.out) aK.out bL.out⟩⟩
  case round =>
  clear H'
  try clear c3
  try clear bZ
  try clear cB
  try clear cK
  try clear cO
  obtain ⟨cZ, aW, aX, aG, rfl, HA, fP, aA, aH, HI0, HK, HB⟩ := hrel
  cases gk with
  | zero => exact absurd HA.out (by simp [Jp.l0])
  | succ k1 =>
  have H := HA.out
  clear HA
  simp only [Jp.l0] at H
  replace H := Xr H
  rcases H with ⟨dL, H⟩ | ⟨dL, H⟩
  ·generalize dD : (([(⟨#[43]⟩ : ByteArray), (⟨#[45]⟩ : ByteArray), (⟨#[43]⟩ : ByteArray)] : List ByteArray) : List ByteArray) = dM at H
   have dE := Qa.mk dD.symm
   clear dD
   obtain ⟨⟨dF, dN, dO⟩, gW, H⟩ := zO H
   dsimp only at H
   replace H := Yj H
   rcases H with ⟨c14, fQ, fT, H⟩ | ⟨c14, H⟩
   ·try have fU : (9223372036854775807 < aG.size + dF.size) = False := eq_false (Nat.not_lt.2 c14)
    have H' := Qa.mk H; clear H
    try go_wp2
    replace aA := Qa.mk (Qk aA.out)
    replace aH := Qa.mk (Qk aH.out)
    replace HI0 := Qa.mk (Qc.drew HI0.out)
    replace HK := Qa.mk (Zr HK.out)
    replace HB := Qa.mk (Qo HB.out)
    refine Xe (n := 8) (S := fun w' => w'.cell? ⟨aV, 0, none⟩ = some (.int .i64 (wrap64 (3 + bP))) ∧ w'.cell? ⟨aV, 1, none⟩ = some (.string aG)) (ds := [7]) #[false, false, false, false, false, false, false, false] (by kernel_rfl) rfl rfl ⟨(Qj aH.out 0).trans rfl, (Qj aH.out 1).trans rfl⟩ (fun hHeld => ?_); refine J6 Jp.tab7 Jp.bits7 (fun HT_ HW_ => ?_)
    generalize wr.drew = iG at aA aH HI0 HK HB hHeld ⊢
    refine zP 0 (some 27) rfl rfl ?_
    refine zP 2 (some 29) rfl rfl ?_
    refine zY2 1 (some 28) rfl rfl hHeld ?_
    refine zU 3 (some 30) rfl rfl (fun K hK => ?_)
    refine Kd.R_lit_step Kd.string _ 9 ?hg (N := 30) ?hd (xs := ([(⟨#[43]⟩ : ByteArray), (⟨#[45]⟩ : ByteArray), (⟨#[43]⟩ : ByteArray)] : List ByteArray)) (inner := [.string (⟨#[43]⟩ : ByteArray), .string (⟨#[45]⟩ : ByteArray), .string (⟨#[43]⟩ : ByteArray)]) (ok := fun _ => True) (okp := fun _ => True) ?hr ?hp (fun _ hk => hk) trivial (Below.refl _ _) (Nat.le_refl _) (by simp) ?_; (case hd => rfl); (case hg => rfl); (case hr => first | (go_simp; done) | (go_simp; rfl)); (case hp => exact (Z0.one (show Kd.M Kd.string _ _ _ (⟨#[43]⟩ : ByteArray) [.string (⟨#[43]⟩ : ByteArray)] from rfl) (Z0.one (show Kd.M Kd.string _ _ _ (⟨#[45]⟩ : ByteArray) [.string (⟨#[45]⟩ : ByteArray)] from rfl) (Z0.one (show Kd.M Kd.string _ _ _ (⟨#[43]⟩ : ByteArray) [.string (⟨#[43]⟩ : ByteArray)] from rfl) (Z0.none _ _)))))
    intro gX w16 bU hb hg_ hnew_
    clear hg_ hnew_
    (first | rw [← dE.out] at bU | (simp only [Int.reduceToNat] at bU; rw [← dE.out] at bU))
    have bG := Qa.mk (Kd.R_lower bU (Jt (w := w) (g := g) (row := none) (jA3 HK.out aD.out bB.out)))
    have bH := zV aA.out hb
    have bI := zV aH.out hb
    have bJ := Qa.mk (Qc.below (jAn HI0.out aC.out aN.out) hb)
    have bK := Qa.mk (Ql.trans (jA3 HK.out aD.out bB.out) (Ql.of_below hb g none) (.inl rfl))
    have bN := Qa.mk (Qg (zG3 (Qc.ge HI0.out) aK.out bL.out) hb)
    clear aA
    clear aH
    clear HI0
    clear HK
    clear HB
    have bC := bG
    have aA := bH
    have aH := bI
    have HI0 := bJ
    have HK := bK
    have HB := bN
    clear bG bH bI bJ bK bN
    clear hb bU
    obtain ⟨fF, fG, dP⟩ := Kd.R_slice bC.out
    (first | subst dP | (injection dP with fV gY fZ; have gZ := fV.symm; have iA := fZ.symm; clear fV gY fZ; subst gZ; subst iA))
    refine hK.out _ _ (zh2 aH.out) (fun hHeld => ?_)
    clear hK K
    refine zN ?_
    refine zU 4 (some 31) rfl rfl (fun K hK => ?_)
    refine X0 Tryz.func101 (by kernel_rfl) rfl #[.pointer (some ⟨g, 0, none⟩), .slice fF dM.length fG] (by rfl) rfl rfl zM ?_
    with_reducible refine (Xk.calls g aQ aW aX _ _ dM dF dN dO w0 _ ?aT ?aU ?dQ ?dR ?dS gW.out).mono ?_
    (case aT => exact (jAn HI0.out aC.out aN.out))
    (case aU => exact (jMf HB.out (Qc.ge HI0.out) aK.out bL.out))
    (case dQ => exact zc ((Kd.R_reads' bC.out).2.2))
    (case dR => exact (Kd.R_reads' bC.out).2.1)
    (case dS => exact K5 (Qc.own_ne HI0.out bC.out (by decide)))
    rintro e iB ⟨rfl, hi, hb, hk⟩
    refine ⟨_, rfl, ?_⟩
    replace aA := zKB hk aA.out aM.out
    replace aH := zKB hk aH.out bD.out
    replace bC := Qa.mk (Kd.R_mono (Kd.R_keep (Qc.apart (show Qc w0 _ g aQ aW aX from (jAn HI0.out aC.out aN.out)) (zR bC.out) (by decide)) hk (fun _ h => h.2)) (fun _ h => h.1))
    replace HK := Qa.mk (Ql.trans (jA3 HK.out aD.out bB.out) hk (.inl rfl))
    replace HI0 := Qa.mk (hi)
    replace HB := Qa.mk (hb)
    (try clear hb)
    (try clear hk)
    (try clear hi)
    refine hK.out _ _ (zh2 aH.out) (fun hHeld => ?_)
    clear hK K
    refine zN ?_
    refine zP 5 (some 32) rfl rfl ?_
    refine zP 6 (some 33) rfl rfl ?_
    refine jFn (i := 7) (N := none) #[true, true, true, true, true, true, true, true] rfl rfl (jAm HT_.out (by kernel_rfl)) (by decide) (fun K hK => ?_)
    have iC : iB.cell? ⟨aV, 1, none⟩ = some (.string aG) := (Qj aH.out 1).trans rfl
    have gB := J8 aH.out 1
    have dY := aI.out
    have dZ := aZ.out
    refine jA2 (w1 := ?_) (by rfl) rfl ?_ ?_
    rotate_left
    ·go_simp
     rfl
    refine hK.out _ _ ?_
    clear hK K
    refine Yp (Zu HT_.out (by kernel_rfl)) ?_
    try go_wp2
    go_roundg k1
    case measure => have := fP.out; omega
    case rel => exact ⟨(wrap64 (cZ + 1)), (dN), (dO), (aG ++ dF), zF, H', ⟨by have := fP.out; omega⟩, ⟨zk1 aA.out aI.out⟩, ⟨zk0 aH.out⟩, ⟨(jAn HI0.out aC.out aN.out)⟩, ⟨(jA3 HK.out aD.out bB.out)⟩, ⟨zG3 (Qc.ge HI0.out) aK.out bL.out⟩⟩
   exact absurd H (by simp)
  simp only [Option.some.injEq, Prod.mk.injEq] at H
  obtain ⟨rfl, rfl, rfl, rfl⟩ := H
  have gD := aZ.out
  have gF := aI.out
  have gG := bD.out
  have gH := aN.out
  obtain ⟨eB, eD, eF, eG⟩ := zq2 aH.out
  have gI := aM.out
  have gJ := aC.out
  obtain ⟨eH, eO, eP, eQ⟩ := zq2 aA.out
  go_wp2
  refine bodyPost_ret (results_cell_row rfl _ _ aJ 25 #[.int .i64 (wrap64 (3 + bP)), .string aG] (0, 0) _ rfl (zk0 aA.out) Tryz.underlying25 rfl (by kernel_rfl)) rfl ?_
  exact ⟨zE, (jAn HI0.out aC.out aN.out), zG3 (Qc.ge HI0.out) aK.out bL.out, (jA3 HK.out aD.out bB.out)⟩
 replace c3 := Bool.eq_false_iff.mpr c3
 subst c3
 replace H := (if_neg zFf).symm.trans H
 obtain ⟨⟨dG, dA, dB⟩, iD, H⟩ := zO H
 dsimp only at H
 obtain ⟨⟨dH, dI, fH⟩, iE, H⟩ := zO H
 replace H : (some (dH, dI, dA, dB)) = some (r1, r2, r3, r4) := H
 simp only [Option.some.injEq, Prod.mk.injEq] at H
 obtain ⟨rfl, rfl, rfl, rfl⟩ := H
 go_enter Tryz.func73, Tryz.ntmps73
 go_wp2_with (first | ((with_reducible refine Qm (N := 2) rfl ?_); refine zBx (N := 2) #[.int .i64 0, .string (⟨#[]⟩ : ByteArray)] 25 ?_; intro aJ hg iH hbox hb; have bG := Qa.mk (Qc.below (jBm HI0.out) hb); have bH := Qa.mk (Ql.trans (jBw HK.out) (Ql.of_below hb g none) (.inl rfl)); have bI := Qa.mk (Qg (zG (Qc.ge HI0.out)) hb); have bJ := Qa.mk (hbox); have bK := Qa.mk ((by rw [hg]; exact (Jt (w := w) (g := g) (row := none) (jBw HK.out)) : w.heap.size ≤ aJ)); have bN := Qa.mk ((Nat.le_trans HW0.out (by rw [hg]; exact (Jt (w := w) (g := g) (row := none) (jBw HK.out)) : w.heap.size ≤ aJ) : w0.heap.size ≤ aJ)); have bR := Qa.mk ((by rw [hg]; exact Nat.ne_of_lt (Qc.lt (show Qc w0 _ g aQ bE bF from (jBm HI0.out))) : g ≠ aJ)); have bS := Qa.mk ((by rw [hg]; exact Nat.ne_of_gt (Qc.lt (show Qc w0 _ g aQ bE bF from (jBm HI0.out))) : aJ ≠ g)); clear HI0; clear HK; clear HB; have HI0 := bG; have HK := bH; have HB := bI; have aA := bJ; have aD := bK; have aK := bN; have aC := bR; have aM := bS; clear bG bH bI bJ bK bN bR bS; clear hb hbox hg) | ((with_reducible refine Qd (f := 53) rfl ?_); refine zD (some 9) Tryz.func53 _ ((Zw.calls g aQ bE bF 5 false bV bW w0 _ ?aT ?aU A2.out).mono ?_); (case aT => exact (Ub HI0.out aC.out)); (case aU => exact (jE6 HB.out (Qc.ge HI0.out) aK.out)); rintro e iI ⟨rfl, hi, hb, hk⟩; refine ⟨_, rfl, ?_⟩; replace aA := zKB hk aA.out aM.out; replace HK := Qa.mk (Ql.trans (Kq HK.out aD.out) hk (.inl rfl)); replace HI0 := Qa.mk (hi); replace HB := Qa.mk (hb); (try clear hb); (try clear hk); (try clear hi)) | ((with_reducible refine Qd (f := 85) rfl ?_); refine zD (some 37) Tryz.func85 _ ((Qi.calls k g aQ bV bW dG dA dB w0 _ ?aT ?aU iD.out).mono ?_); (case aT => exact (Ub HI0.out aC.out)); (case aU => exact (jE6 HB.out (Qc.ge HI0.out) aK.out)); rintro e iJ ⟨iF, rfl, ho0, hi, hb, hk⟩; refine ⟨_, rfl, ?_⟩; replace aA := zKB hk aA.out aM.out; have aY := Qa.mk (Kd.R_lower ho0 (Jt (w := w) (g := g) (row := none) (Kq HK.out aD.out))); replace HK := Qa.mk (Ql.trans (Kq HK.out aD.out) hk (.inl rfl)); replace HI0 := Qa.mk (hi); replace HB := Qa.mk (hb); (try clear hb); (try clear hk); (try clear hi); (try clear ho0); obtain ⟨fI, fJ, fK⟩ := Kd.R_slice aY.out; subst fK) | ((with_reducible refine Qd (f := 9) rfl ?_); refine zD (some 38) Tryz.func9 #[.slice fI dG.length fJ] ((Qz.calls k _ _ dG dH dI fH _ ?aT ?aU iE.out).mono ?_); (case aT => exact zc ((Kd.R_reads' aY.out).2.2)); (case aU => exact (Kd.R_reads' aY.out).2.1); rintro e w32 ⟨rfl, hb⟩; refine ⟨_, rfl, ?_⟩; have bG := zW aY.out hb; have bH := Qa.mk (Qc.below (Ub HI0.out aC.out) hb); have bI := zV aA.out hb; have bJ := Qa.mk (Ql.trans (Kq HK.out aD.out) (Ql.of_below hb g none) (.inl rfl)); have bK := Qa.mk (Qg (zG2 (Qc.ge HI0.out) aK.out) hb); clear aY; clear HI0; clear aA; clear HK; clear HB; have aY := bG; have HI0 := bH; have aA := bI; have HK := bJ; have HB := bK; clear bG bH bI bJ bK; (try clear hb)) | ((with_reducible refine Qm (N := 6) rfl ?_); refine zBx (N := 6) #[.int .i64 0, .string (⟨#[]⟩ : ByteArray)] 25 ?_; intro bM hg iK hbox hb; have bG := zW aY.out hb; have bH := Qa.mk (Qc.below (Ub HI0.out aC.out) hb); have bI := zV aA.out hb; have bJ := Qa.mk (Ql.trans (Kq HK.out aD.out) (Ql.of_below hb g none) (.inl rfl)); have bK := Qa.mk (Qg (zG2 (Qc.ge HI0.out) aK.out) hb); have bN := Qa.mk (hbox); have bR := Qa.mk ((by rw [hg]; exact (Jt (w := w) (g := g) (row := none) (Kq HK.out aD.out)) : w.heap.size ≤ bM)); have bS := Qa.mk ((Nat.le_trans HW0.out (by rw [hg]; exact (Jt (w := w) (g := g) (row := none) (Kq HK.out aD.out)) : w.heap.size ≤ bM) : w0.heap.size ≤ bM)); have dJ := zL hg aA.out; have dK := zLg hg aA.out; have bT := Qa.mk ((by rw [hg]; exact Nat.ne_of_lt (Qc.lt (show Qc w0 _ g aQ dA dB from (Ub HI0.out aC.out))) : g ≠ bM)); have dU := Qa.mk ((by rw [hg]; exact Nat.ne_of_gt (Qc.lt (show Qc w0 _ g aQ dA dB from (Ub HI0.out aC.out))) : bM ≠ g)); clear aY; clear HI0; clear aA; clear HK; clear HB; have aY := bG; have HI0 := bH; have aA := bI; have HK := bJ; have HB := bK; have dV := bN; have dW := bR; have dX := bS; have bA := dJ; have bQ := dK; have bO := bT; have dC := dU; clear bG bH bI bJ bK bN bR bS dJ dK bT dU; clear hb hbox hg; have gK := bQ.out; have gL := bA.out; have gM := dC.out; have gN := bO.out; obtain ⟨eU, eX, eY, eZ⟩ := zq2 dV.out; have gP := aM.out; have gQ := aC.out; obtain ⟨fA, fB, fC, fD⟩ := zq2 aA.out))
 refine bodyPost_ret (results_cell_row rfl _ _ aJ 25 #[.int .i64 dH, .string dI] (0, 0) _ rfl (zk2 aA.out bA.out bA.out) Tryz.underlying25 rfl (by kernel_rfl)) rfl ?_
 exact ⟨zE, (jAn HI0.out aC.out bO.out), zG3 (Qc.ge HI0.out) aK.out dX.out, (jA3 HK.out aD.out dW.out)⟩
def Z8.f (aC : List Int) (aD : Int) (aG : Int) (l1 : List Int) : Option (Int × Int × Int) := (Q5.f aC aD aG (l1.length : Int)).bind fun aA => (if 0 ≤ aA.1 then (if aA.1 < (l1.length : Int) then (some (rd l1 aA.1, aA.2.1, aA.2.2)) else (none)) else (none))
theorem jJ1 {p q : Prop} (g : p) (h : p → q := by intro zg_; repeat (first | (with_reducible first | exact zg_ | apply Qc.alloc | apply Qc.drewN | apply Qc.drew | apply Qc.set_1 | apply Qc.set_2) | exact zg_)) : q := h g
theorem jL7 {p q p0 : Prop} (g : p) (g0 : p0) (h : p → p0 → q := by intro zg_ aA; repeat (first | (with_reducible first | exact zg_ | apply Qv | apply Qr | apply Qo | refine Qf ?_ aA) | exact zg_)) : q := h g g0
theorem jJy {p q : Prop} (g : p) (h : p → q := by intro zg_; repeat (first | (with_reducible first | exact zg_ | apply Ql.set_ | apply Z5 | apply Zr | apply Z6) | exact zg_)) : q := h g
set_option maxHeartbeats 8000000 in
set_option maxRecDepth 100000 in
theorem Z8.calls (g : Nat) (aC : List Int) (aG : Int) (aH : Int) (A1 : Option Addr) (c1 : Nat) (l1 : List Int) (r1 : Int) (r2 : Int) (r3 : Int) (w0 w : World) (hI : Qc w0 w g aC aG aH) (hB : Below w0.heap.size w0 w) (hr1 : Kd.C (Kd.int .i64) w A1 l1.length l1) (hc1 : l1.length ≤ c1) (hf1 : ∀ ad, A1 = some ad → 0 < l1.length → ad.block ≠ g) (h : Z8.f aC aG aH l1 = some (r1, r2, r3)) :
  Calls Tryz.prog 88 #[.pointer (some ⟨g, 0, none⟩), .slice A1 l1.length c1] w fun e w' => e = .returned (.int .i64 r1) ∧ Qc w0 w' g aC r2 r3 ∧ Below w0.heap.size w0 w' ∧ Ql w w' g none := by
 have HR1 := Qa.mk hr1
 have aW := Qa.mk hc1
 clear hr1 hc1
 have HI0 := Qa.mk hI
 have HK := Qa.mk (Ql.refl w g none)
 have HL := Qa.mk hB.size
 clear hI
 have HW0 := Qa.mk hB.size
 have HB := Qa.mk hB
 clear hB
 have H := h
 unfold Z8.f at H
 clear h
 obtain ⟨⟨aD, aQ, aT⟩, A3, H⟩ := zO H
 dsimp only at H
 replace H := J5 H
 rcases H with ⟨aU, H⟩ | ⟨c4, H⟩
 ·replace H := J5 H
  rcases H with ⟨aV, H⟩ | ⟨c5, H⟩
  ·simp only [Option.some.injEq, Prod.mk.injEq] at H
   obtain ⟨rfl, rfl, rfl⟩ := H
   go_enter Tryz.func88, Tryz.ntmps88
   go_wp2_with (first | ((with_reducible refine Qd (f := 51) rfl ?_); refine zD (some 9) Tryz.func51 _ ((Q5.calls g aC aG aH (l1.length : Int) aD aQ aT w0 _ ?aK ?aM A3.out).mono ?_); (case aK => exact (jJ1 HI0.out)); (case aM => exact (jL7 HB.out (Qc.ge HI0.out))); rintro e w6 ⟨rfl, hi, hb, hk⟩; refine ⟨_, rfl, ?_⟩; replace HK := Qa.mk (Ql.trans (jJy HK.out) hk (.inl rfl)); replace HI0 := Qa.mk (hi); replace HB := Qa.mk (hb); (try clear hb); (try clear hk); (try clear hi); have aI : 0 ≤ (aD : Int) := zA; have aJ : aD < (l1.length : Int) := zA; obtain ⟨aN, e197, aA⟩ := Kd.at_int HR1.out aD aI aJ; cases e197; replace aA := jA4 HK.out aA (by first | (rw [add_block]; exact hf1 _ rfl (by omega)) | exact hf1 _ rfl (by omega) | exact hf1 aN rfl (by omega)); replace aI := eq_true aI; replace aJ := eq_true aJ))
   go_ret
   exact ⟨zE, (jJ1 HI0.out), zG (Qc.ge HI0.out), (jJy HK.out)⟩
  exact absurd H (by simp)
 exact absurd H (by simp)
def Jz.f (k : Nat) (aH : List Int) (aI : Int) (aJ : Int) : Option (Int × ByteArray × Int × Int) := (Jp.f k aH aI aJ).bind fun aA => ((Q5.f aH aA.2.2.1 aA.2.2.2 18).bind fun aC => (if aC.1 = 0 then ((Z8.f aH aC.2.1 aC.2.2 (([2, 8, 4, 5] : List Int))).bind fun aG => (some (aG.1, aA.2.1, aG.2.1, aG.2.2))) else (if aC.1 = 1 then ((Xk.f aH aC.2.1 aC.2.2 (([(⟨#[43]⟩ : ByteArray), (⟨#[48]⟩ : ByteArray)] : List ByteArray))).bind fun aD => (if aA.2.1.size + aD.1.size ≤ 9223372036854775807 then (some (aA.1, aA.2.1 ++ aD.1, aD.2.1, aD.2.2)) else (none))) else (some (aA.1, aA.2.1, aC.2.1, aC.2.2)))))
def Jz.T6 : Bool × List (List Nat × List Nat) := (true, [([], []), ([0], [0]), ([], []), ([], []), ([2, 3], [2, 3]), ([1, 4], [1, 4]), ([0, 1, 2, 3, 4, 5], []), ([6, 5, 4, 0, 1, 2, 3, 4, 5], [5, 6])])
def Jz.B6 : List Nat := [0, 1, 0, 0, 12, 31, 63, 127]
theorem Jz.tab6 : Vv .any (opsOf Tryz.f50 6) = Jz.T6 := by kernel_rfl
theorem Jz.bits6 : Zz Jz.T6.2 Jz.B6 = true := by kernel_rfl
theorem U0 {p q : Prop} (g : p) (h : p → q := by intro zg_; repeat (first | (with_reducible first | exact zg_ | apply Qc.alloc | apply Qc.drewN | apply Qc.drew | apply Qc.set_1 | apply Qc.set_2) | exact zg_)) : q := h g
theorem Uz {p q : Prop} (g : p) (h : p → q := by intro zg_; repeat (first | (with_reducible first | exact zg_ | apply Ql.set_ | apply Z5 | apply Zr | apply Z6) | exact zg_)) : q := h g
theorem Kv {p q p0 : Prop} (g : p) (g0 : p0) (h : p → p0 → q := by intro zg_ aA; repeat (first | (with_reducible first | exact zg_ | apply Qc.alloc | apply Qc.drewN | apply Qc.drew | apply Qc.set_1 | apply Qc.set_2 | refine Qc.far ?_ aA _) | exact zg_)) : q := h g g0
theorem jG8 {p q p0 p1 : Prop} (g : p) (g0 : p0) (g1 : p1) (h : p → p0 → p1 → q := by intro zg_ aA aC; repeat (first | (with_reducible first | exact zg_ | apply Qv | apply Qr | apply Qo | refine Qf ?_ aA | refine Qf ?_ aC) | exact zg_)) : q := h g g0 g1
theorem Kw {p q p0 : Prop} (g : p) (g0 : p0) (h : p → p0 → q := by intro zg_ aA; repeat (first | (with_reducible first | exact zg_ | apply Ql.set_ | apply Z5 | apply Zr | apply Z6 | refine Ki ?_ aA _) | exact zg_)) : q := h g g0
theorem Kr {p q p0 p1 : Prop} (g : p) (g0 : p0) (g1 : p1) (h : p → p0 → p1 → q := by intro zg_ aA aC; repeat (first | (with_reducible first | exact zg_ | apply Qc.alloc | apply Qc.drewN | apply Qc.drew | apply Qc.set_1 | apply Qc.set_2 | refine Qc.far ?_ aA _ | refine Qc.far ?_ aC _) | exact zg_)) : q := h g g0 g1
theorem jDu {p q p0 p1 p2 : Prop} (g : p) (g0 : p0) (g1 : p1) (g2 : p2) (h : p → p0 → p1 → p2 → q := by intro zg_ aA aC aD; repeat (first | (with_reducible first | exact zg_ | apply Qv | apply Qr | apply Qo | refine Qf ?_ aA | refine Qf ?_ aC | refine Qf ?_ aD) | exact zg_)) : q := h g g0 g1 g2
theorem Ku {p q p0 p1 : Prop} (g : p) (g0 : p0) (g1 : p1) (h : p → p0 → p1 → q := by intro zg_ aA aC; repeat (first | (with_reducible first | exact zg_ | apply Ql.set_ | apply Z5 | apply Zr | apply Z6 | refine Ki ?_ aA _ | refine Ki ?_ aC _) | exact zg_)) : q := h g g0 g1
set_option maxHeartbeats 8000000 in
set_option maxRecDepth 100000 in
theorem Jz.calls (k : Nat) (g : Nat) (aT : List Int) (bC : Int) (bD : Int) (r1 : Int) (r2 : ByteArray) (r3 : Int) (r4 : Int) (w0 w : World) (hI : Qc w0 w g aT bC bD) (hB : Below w0.heap.size w0 w) (h : Jz.f k aT bC bD = some (r1, r2, r3, r4)) :
  Calls Tryz.prog 50 #[.pointer (some ⟨g, 0, none⟩)] w fun e w' => e = .returned (.agg #[.int .i64 r1, .string r2]) ∧ Qc w0 w' g aT r3 r4 ∧ Below w0.heap.size w0 w' ∧ Ql w w' g none := by
 have iD := Tryz.underlying25
 have HI0 := Qa.mk hI
 have HK := Qa.mk (Ql.refl w g none)
 have HL := Qa.mk hB.size
 clear hI
 have HW0 := Qa.mk hB.size
 have HB := Qa.mk hB
 clear hB
 have H := h
 unfold Jz.f at H
 clear h
 obtain ⟨⟨bM, aZ, bA, bB⟩, A2, H⟩ := zO H
 dsimp only at H
 obtain ⟨⟨cZ, bQ, bR⟩, A3, H⟩ := zO H
 dsimp only at H
 replace H := Zc H
 rcases H with ⟨fK, fM, H⟩ | ⟨c4, fK, fM, H⟩
 ·generalize bX : (([2, 8, 4, 5] : List Int) : List Int) = dC at H
  have bY := Qa.mk bX.symm
  clear bX
  obtain ⟨⟨dA, dD, dE⟩, A5, H⟩ := zO H
  replace H : (some (dA, aZ, dD, dE)) = some (r1, r2, r3, r4) := H
  simp only [Option.some.injEq, Prod.mk.injEq] at H
  obtain ⟨rfl, rfl, rfl, rfl⟩ := H
  go_enter Tryz.func50, Tryz.ntmps50
  go_wp2_with (first | ((with_reducible refine Qm (N := 2) rfl ?_); refine zBx (N := 2) #[.int .i64 0, .string (⟨#[]⟩ : ByteArray)] 25 ?_; intro aJ hg w6 hbox hb; have bE := Qa.mk (Qc.below (U0 HI0.out) hb); have bF := Qa.mk (Ql.trans (Uz HK.out) (Ql.of_below hb g none) (.inl rfl)); have bG := Qa.mk (Qg (zG (Qc.ge HI0.out)) hb); have bH := Qa.mk (hbox); have bI := Qa.mk ((by rw [hg]; exact (Jt (w := w) (g := g) (row := none) (Uz HK.out)) : w.heap.size ≤ aJ)); have bJ := Qa.mk ((Nat.le_trans HW0.out (by rw [hg]; exact (Jt (w := w) (g := g) (row := none) (Uz HK.out)) : w.heap.size ≤ aJ) : w0.heap.size ≤ aJ)); have bN := Qa.mk ((by rw [hg]; exact Nat.ne_of_lt (Qc.lt (show Qc w0 _ g aT bC bD from (U0 HI0.out))) : g ≠ aJ)); have bO := Qa.mk ((by rw [hg]; exact Nat.ne_of_gt (Qc.lt (show Qc w0 _ g aT bC bD from (U0 HI0.out))) : aJ ≠ g)); clear HI0; clear HK; clear HB; have HI0 := bE; have HK := bF; have HB := bG; have aC := bH; have aI := bI; have aN := bJ; have aA := bN; have aM := bO; clear bE bF bG bH bI bJ bN bO; clear hb hbox hg) | ((with_reducible refine Qd (f := 73) rfl ?_); refine zD (some 5) Tryz.func73 _ ((Jp.calls k g aT bC bD bM aZ bA bB w0 _ ?aV ?aW A2.out).mono ?_); (case aV => exact (Kv HI0.out aA.out)); (case aW => exact (jG8 HB.out (Qc.ge HI0.out) aN.out)); rintro e w7 ⟨rfl, hi, hb, hk⟩; refine ⟨_, rfl, ?_⟩; replace aC := zKB hk aC.out aM.out; replace HK := Qa.mk (Ql.trans (Kw HK.out aI.out) hk (.inl rfl)); replace HI0 := Qa.mk (hi); replace HB := Qa.mk (hb); (try clear hb); (try clear hk); (try clear hi)) | ((with_reducible refine Qm (N := 3) rfl ?_); refine zBx (N := 3) #[.int .i64 0, .string (⟨#[]⟩ : ByteArray)] 25 ?_; intro aK hg w8 hbox hb; have bE := Qa.mk (Qc.below (Kv HI0.out aA.out) hb); have bF := zV aC.out hb; have bG := Qa.mk (Ql.trans (Kw HK.out aI.out) (Ql.of_below hb g none) (.inl rfl)); have bH := Qa.mk (Qg (zG2 (Qc.ge HI0.out) aN.out) hb); have bI := Qa.mk (hbox); have bJ := Qa.mk ((by rw [hg]; exact (Jt (w := w) (g := g) (row := none) (Kw HK.out aI.out)) : w.heap.size ≤ aK)); have bN := Qa.mk ((Nat.le_trans HW0.out (by rw [hg]; exact (Jt (w := w) (g := g) (row := none) (Kw HK.out aI.out)) : w.heap.size ≤ aK) : w0.heap.size ≤ aK)); have bO := zL hg aC.out; have bZ := zLg hg aC.out; have cB := Qa.mk ((by rw [hg]; exact Nat.ne_of_lt (Qc.lt (show Qc w0 _ g aT bA bB from (Kv HI0.out aA.out))) : g ≠ aK)); have bP := Qa.mk ((by rw [hg]; exact Nat.ne_of_gt (Qc.lt (show Qc w0 _ g aT bA bB from (Kv HI0.out aA.out))) : aK ≠ g)); clear HI0; clear aC; clear HK; clear HB; have HI0 := bE; have aC := bF; have HK := bG; have HB := bH; have aG := bI; have aX := bJ; have aY := bN; have aD := bO; have aU := bZ; have aH := cB; have aQ := bP; clear bE bF bG bH bI bJ bN bO bZ cB bP; clear hb hbox hg; have iE := aU.out; have iF := aD.out; have gB := aQ.out; have gD := aH.out; obtain ⟨dJ, dK, dL, dM⟩ := zq2 aG.out) | ((with_reducible refine Qd (f := 51) rfl ?_); refine zD (some 7) Tryz.func51 _ ((Q5.calls g aT bA bB 18 cZ bQ bR w0 _ ?aV ?aW A3.out).mono ?_); (case aV => exact (Kr HI0.out aA.out aH.out)); (case aW => exact (jDu HB.out (Qc.ge HI0.out) aN.out aY.out)); rintro e iO ⟨rfl, hi, hb, hk⟩; refine ⟨_, rfl, ?_⟩; replace aC := Qa.mk (Ql.blk hk (g' := aJ) (o := .cells #[.int .i64 0, .string (⟨#[]⟩ : ByteArray)] 25 (0, 0)) (zk2 aC.out aD.out aD.out) aM.out (by simp)); replace aG := Qa.mk (Ql.blk hk (g' := aK) (o := .cells #[.int .i64 bM, .string aZ] 25 (0, 0)) (zk0 aG.out) aQ.out (by simp)); replace HK := Qa.mk (Ql.trans (Ku HK.out aI.out aX.out) hk (.inl rfl)); replace HI0 := Qa.mk (hi); replace HB := Qa.mk (hb); (try clear hb); (try clear hk); (try clear hi)) | ((with_reducible refine Qm (N := 11) rfl ?_); refine Kd.R_lit (Kd.int .i64) _ 3 ?hg (N := 11) ?hd (xs := ([2, 8, 4, 5] : List Int)) (inner := [.int .i64 2, .int .i64 8, .int .i64 4, .int .i64 5]) (ok := fun _ => True) (okp := fun _ => True) ?hr ?hp (fun _ hk => hk) trivial (Below.refl _ _) (Nat.le_refl _) (by simp) ?_; (case hd => rfl); (case hg => rfl); (case hr => first | (go_simp; done) | (go_simp; rfl)); (case hp => exact (Z0.one (show Kd.M (Kd.int .i64) _ _ _ 2 [.int .i64 2] from rfl) (Z0.one (show Kd.M (Kd.int .i64) _ _ _ 8 [.int .i64 8] from rfl) (Z0.one (show Kd.M (Kd.int .i64) _ _ _ 4 [.int .i64 4] from rfl) (Z0.one (show Kd.M (Kd.int .i64) _ _ _ 5 [.int .i64 5] from rfl) (Z0.none _ _)))))); intro v208 iP bS hb hg_ hnew_; clear hg_ hnew_; (first | rw [← bY.out] at bS | (simp only [Int.reduceToNat] at bS; rw [← bY.out] at bS)); have bE := Qa.mk (Kd.R_lower bS (Jt (w := w) (g := g) (row := none) (Ku HK.out aI.out aX.out))); have bF := Qa.mk (Qc.below (Kr HI0.out aA.out aH.out) hb); have bG := zV aC.out hb; have bH := zV aG.out hb; have bI := Qa.mk (Ql.trans (Ku HK.out aI.out aX.out) (Ql.of_below hb g none) (.inl rfl)); have bJ := Qa.mk (Qg (zG3 (Qc.ge HI0.out) aN.out aY.out) hb); clear HI0; clear aC; clear aG; clear HK; clear HB; have bK := bE; have HI0 := bF; have aC := bG; have aG := bH; have HK := bI; have HB := bJ; clear bE bF bG bH bI bJ; clear hb bS; obtain ⟨fO, fP, fQ⟩ := Kd.R_slice bK.out; subst fQ) | ((with_reducible refine Qd (f := 88) rfl ?_); refine zD (some 12) Tryz.func88 #[.pointer (some ⟨g, 0, none⟩), .slice fO dC.length fP] ((Z8.calls g aT bQ bR _ _ dC dA dD dE w0 _ ?aV ?aW ?bT ?bU ?bV A5.out).mono ?_); (case aV => exact (Kr HI0.out aA.out aH.out)); (case aW => exact (jDu HB.out (Qc.ge HI0.out) aN.out aY.out)); (case bT => exact zc ((Kd.R_reads' bK.out).2.2)); (case bU => exact (Kd.R_reads' bK.out).2.1); (case bV => exact K5 (Qc.own_ne HI0.out bK.out (by decide))); rintro e w16 ⟨rfl, hi, hb, hk⟩; refine ⟨_, rfl, ?_⟩; replace aC := zKB hk aC.out aM.out; replace aG := zKB hk aG.out aQ.out; replace bK := Qa.mk (Kd.R_mono (Kd.R_keep (Qc.apart (show Qc w0 _ g aT bQ bR from (Kr HI0.out aA.out aH.out)) (zR bK.out) (by decide)) hk (fun _ h => h.2)) (fun _ h => h.1)); replace HK := Qa.mk (Ql.trans (Ku HK.out aI.out aX.out) hk (.inl rfl)); replace HI0 := Qa.mk (hi); replace HB := Qa.mk (hb); (try clear hb); (try clear hk); (try clear hi); obtain ⟨dN, dO, dP, dQ⟩ := zq2 aG.out; have gF := aM.out; have gG := aA.out; obtain ⟨dR, dS, dU, dV⟩ := zq2 aC.out))
  refine bodyPost_ret (results_cell_row rfl _ _ aJ 25 #[.int .i64 dA, .string aZ] (0, 0) _ rfl (zk1 aC.out aD.out) Tryz.underlying25 rfl (by kernel_rfl)) rfl ?_
  exact ⟨zE, (Kr HI0.out aA.out aH.out), zG3 (Qc.ge HI0.out) aN.out aY.out, (Ku HK.out aI.out aX.out)⟩
 replace H := Zc H
 rcases H with ⟨dF, dG, H⟩ | ⟨c20, dF, dG, H⟩
 ·generalize cK : (([(⟨#[43]⟩ : ByteArray), (⟨#[48]⟩ : ByteArray)] : List ByteArray) : List ByteArray) = dH at H
  have cO := Qa.mk cK.symm
  clear cK
  obtain ⟨⟨dB, fT, fU⟩, iG, H⟩ := zO H
  dsimp only at H
  replace H := Yj H
  rcases H with ⟨gH, gI, gJ, H⟩ | ⟨gH, H⟩
  ·try have gK : (9223372036854775807 < aZ.size + dB.size) = False := eq_false (Nat.not_lt.2 gH)
   simp only [Option.some.injEq, Prod.mk.injEq] at H
   obtain ⟨rfl, rfl, rfl, rfl⟩ := H
   go_enter Tryz.func50, Tryz.ntmps50
   try go_wp2_with (first | ((with_reducible refine Qm (N := 2) rfl ?_); refine zBx (N := 2) #[.int .i64 0, .string (⟨#[]⟩ : ByteArray)] 25 ?_; intro aJ hg iQ hbox hb; have bE := Qa.mk (Qc.below (U0 HI0.out) hb); have bF := Qa.mk (Ql.trans (Uz HK.out) (Ql.of_below hb g none) (.inl rfl)); have bG := Qa.mk (Qg (zG (Qc.ge HI0.out)) hb); have bH := Qa.mk (hbox); have bI := Qa.mk ((by rw [hg]; exact (Jt (w := w) (g := g) (row := none) (Uz HK.out)) : w.heap.size ≤ aJ)); have bJ := Qa.mk ((Nat.le_trans HW0.out (by rw [hg]; exact (Jt (w := w) (g := g) (row := none) (Uz HK.out)) : w.heap.size ≤ aJ) : w0.heap.size ≤ aJ)); have bN := Qa.mk ((by rw [hg]; exact Nat.ne_of_lt (Qc.lt (show Qc w0 _ g aT bC bD from (U0 HI0.out))) : g ≠ aJ)); have bO := Qa.mk ((by rw [hg]; exact Nat.ne_of_gt (Qc.lt (show Qc w0 _ g aT bC bD from (U0 HI0.out))) : aJ ≠ g)); clear HI0; clear HK; clear HB; have HI0 := bE; have HK := bF; have HB := bG; have aC := bH; have aI := bI; have aN := bJ; have aA := bN; have aM := bO; clear bE bF bG bH bI bJ bN bO; clear hb hbox hg) | ((with_reducible refine Qd (f := 73) rfl ?_); refine zD (some 5) Tryz.func73 _ ((Jp.calls k g aT bC bD bM aZ bA bB w0 _ ?aV ?aW A2.out).mono ?_); (case aV => exact (Kv HI0.out aA.out)); (case aW => exact (jG8 HB.out (Qc.ge HI0.out) aN.out)); rintro e iR ⟨rfl, hi, hb, hk⟩; refine ⟨_, rfl, ?_⟩; replace aC := zKB hk aC.out aM.out; replace HK := Qa.mk (Ql.trans (Kw HK.out aI.out) hk (.inl rfl)); replace HI0 := Qa.mk (hi); replace HB := Qa.mk (hb); (try clear hb); (try clear hk); (try clear hi)) | ((with_reducible refine Qm (N := 3) rfl ?_); refine zBx (N := 3) #[.int .i64 0, .string (⟨#[]⟩ : ByteArray)] 25 ?_; intro aK hg iT hbox hb; have bE := Qa.mk (Qc.below (Kv HI0.out aA.out) hb); have bF := zV aC.out hb; have bG := Qa.mk (Ql.trans (Kw HK.out aI.out) (Ql.of_below hb g none) (.inl rfl)); have bH := Qa.mk (Qg (zG2 (Qc.ge HI0.out) aN.out) hb); have bI := Qa.mk (hbox); have bJ := Qa.mk ((by rw [hg]; exact (Jt (w := w) (g := g) (row := none) (Kw HK.out aI.out)) : w.heap.size ≤ aK)); have bN := Qa.mk ((Nat.le_trans HW0.out (by rw [hg]; exact (Jt (w := w) (g := g) (row := none) (Kw HK.out aI.out)) : w.heap.size ≤ aK) : w0.heap.size ≤ aK)); have bO := zL hg aC.out; have bZ := zLg hg aC.out; have cB := Qa.mk ((by rw [hg]; exact Nat.ne_of_lt (Qc.lt (show Qc w0 _ g aT bA bB from (Kv HI0.out aA.out))) : g ≠ aK)); have bP := Qa.mk ((by rw [hg]; exact Nat.ne_of_gt (Qc.lt (show Qc w0 _ g aT bA bB from (Kv HI0.out aA.out))) : aK ≠ g)); clear HI0; clear aC; clear HK; clear HB; have HI0 := bE; have aC := bF; have HK := bG; have HB := bH; have aG := bI; have aX := bJ; have aY := bN; have aD := bO; have aU := bZ; have aH := cB; have aQ := bP; clear bE bF bG bH bI bJ bN bO bZ cB bP; clear hb hbox hg; have gL := aU.out; have gM := aD.out; have gN := aQ.out; have gP := aH.out; obtain ⟨dW, dX, dY, dZ⟩ := zq2 aG.out) | ((with_reducible refine Qd (f := 51) rfl ?_); refine zD (some 7) Tryz.func51 _ ((Q5.calls g aT bA bB 18 cZ bQ bR w0 _ ?aV ?aW A3.out).mono ?_); (case aV => exact (Kr HI0.out aA.out aH.out)); (case aW => exact (jDu HB.out (Qc.ge HI0.out) aN.out aY.out)); rintro e iH ⟨rfl, hi, hb, hk⟩; refine ⟨_, rfl, ?_⟩; replace aC := Qa.mk (Ql.blk hk (g' := aJ) (o := .cells #[.int .i64 0, .string (⟨#[]⟩ : ByteArray)] 25 (0, 0)) (zk2 aC.out aD.out aD.out) aM.out (by simp)); replace aG := Qa.mk (Ql.blk hk (g' := aK) (o := .cells #[.int .i64 bM, .string aZ] 25 (0, 0)) (zk0 aG.out) aQ.out (by simp)); replace HK := Qa.mk (Ql.trans (Ku HK.out aI.out aX.out) hk (.inl rfl)); replace HI0 := Qa.mk (hi); replace HB := Qa.mk (hb); (try clear hb); (try clear hk); (try clear hi)))
   replace aC := Qa.mk (Qk aC.out)
   replace aG := Qa.mk (Qk aG.out)
   replace HI0 := Qa.mk (Qc.drew HI0.out)
   replace HK := Qa.mk (Zr HK.out)
   replace HB := Qa.mk (Qo HB.out)
   refine Xe (n := 8) (S := fun w' => w'.cell? ⟨aK, 0, none⟩ = some (.int .i64 bM) ∧ w'.cell? ⟨aK, 1, none⟩ = some (.string aZ)) (ds := [7]) #[false, false, false, false, false, false, false, false] (by kernel_rfl) rfl rfl ⟨(Qj aG.out 0).trans rfl, (Qj aG.out 1).trans rfl⟩ (fun hHeld => ?_); refine J6 Jz.tab6 Jz.bits6 (fun HT_ HW_ => ?_)
   generalize iH.drew = iU at aC aG HI0 HK HB hHeld ⊢
   refine zP 0 (some 16) rfl rfl ?_
   refine zP 2 (some 18) rfl rfl ?_
   refine zY2 1 (some 17) rfl rfl hHeld ?_
   refine zU 3 (some 19) rfl rfl (fun K hK => ?_)
   refine Kd.R_lit_step Kd.string _ 9 ?hg (N := 19) ?hd (xs := ([(⟨#[43]⟩ : ByteArray), (⟨#[48]⟩ : ByteArray)] : List ByteArray)) (inner := [.string (⟨#[43]⟩ : ByteArray), .string (⟨#[48]⟩ : ByteArray)]) (ok := fun _ => True) (okp := fun _ => True) ?hr ?hp (fun _ hk => hk) trivial (Below.refl _ _) (Nat.le_refl _) (by simp) ?_; (case hd => rfl); (case hg => rfl); (case hr => first | (go_simp; done) | (go_simp; rfl)); (case hp => exact (Z0.one (show Kd.M Kd.string _ _ _ (⟨#[43]⟩ : ByteArray) [.string (⟨#[43]⟩ : ByteArray)] from rfl) (Z0.one (show Kd.M Kd.string _ _ _ (⟨#[48]⟩ : ByteArray) [.string (⟨#[48]⟩ : ByteArray)] from rfl) (Z0.none _ _))))
   intro iI iV bW hb hg_ hnew_
   clear hg_ hnew_
   (first | rw [← cO.out] at bW | (simp only [Int.reduceToNat] at bW; rw [← cO.out] at bW))
   have bE := Qa.mk (Kd.R_lower bW (Jt (w := w) (g := g) (row := none) (Ku HK.out aI.out aX.out)))
   have bF := Qa.mk (Qc.below (Kr HI0.out aA.out aH.out) hb)
   have bG := zV aC.out hb
   have bH := zV aG.out hb
   have bI := Qa.mk (Ql.trans (Ku HK.out aI.out aX.out) (Ql.of_below hb g none) (.inl rfl))
   have bJ := Qa.mk (Qg (zG3 (Qc.ge HI0.out) aN.out aY.out) hb)
   clear HI0
   clear aC
   clear aG
   clear HK
   clear HB
   have bL := bE
   have HI0 := bF
   have aC := bG
   have aG := bH
   have HK := bI
   have HB := bJ
   clear bE bF bG bH bI bJ
   clear hb bW
   obtain ⟨fV, fZ, dI⟩ := Kd.R_slice bL.out
   (first | subst dI | (injection dI with gQ iJ gT; have iK := gQ.symm; have iL := gT.symm; clear gQ iJ gT; subst iK; subst iL))
   refine hK.out _ _ (zh2 aG.out) (fun hHeld => ?_)
   clear hK K
   refine zN ?_
   refine zU 4 (some 20) rfl rfl (fun K hK => ?_)
   refine X0 Tryz.func101 (by kernel_rfl) rfl #[.pointer (some ⟨g, 0, none⟩), .slice fV dH.length fZ] (by rfl) rfl rfl zM ?_
   with_reducible refine (Xk.calls g aT bQ bR _ _ dH dB fT fU w0 _ ?aV ?aW ?bT ?bU ?bV iG.out).mono ?_
   (case aV => exact (Kr HI0.out aA.out aH.out))
   (case aW => exact (jDu HB.out (Qc.ge HI0.out) aN.out aY.out))
   (case bT => exact zc ((Kd.R_reads' bL.out).2.2))
   (case bU => exact (Kd.R_reads' bL.out).2.1)
   (case bV => exact K5 (Qc.own_ne HI0.out bL.out (by decide)))
   rintro e iM ⟨rfl, hi, hb, hk⟩
   refine ⟨_, rfl, ?_⟩
   replace aC := zKB hk aC.out aM.out
   replace aG := zKB hk aG.out aQ.out
   replace bL := Qa.mk (Kd.R_mono (Kd.R_keep (Qc.apart (show Qc w0 _ g aT bQ bR from (Kr HI0.out aA.out aH.out)) (zR bL.out) (by decide)) hk (fun _ h => h.2)) (fun _ h => h.1))
   replace HK := Qa.mk (Ql.trans (Ku HK.out aI.out aX.out) hk (.inl rfl))
   replace HI0 := Qa.mk (hi)
   replace HB := Qa.mk (hb)
   (try clear hb)
   (try clear hk)
   (try clear hi)
   refine hK.out _ _ (zh2 aG.out) (fun hHeld => ?_)
   clear hK K
   refine zN ?_
   refine zP 5 (some 21) rfl rfl ?_
   refine zP 6 (some 22) rfl rfl ?_
   refine jFn (i := 7) (N := none) #[true, true, true, true, true, true, true, true] rfl rfl (jAm HT_.out (by kernel_rfl)) (by decide) (fun K hK => ?_)
   have iN : iM.cell? ⟨aK, 1, none⟩ = some (.string aZ) := (Qj aG.out 1).trans rfl
   have gU := J8 aG.out 1
   have eB := aD.out
   have eD := aU.out
   refine jA2 (w1 := ?_) (by rfl) rfl ?_ ?_
   rotate_left
   ·go_simp
    rfl
   refine hK.out _ _ ?_
   clear hK K
   refine Yp (Zu HT_.out (by kernel_rfl)) ?_
   obtain ⟨eF, eG, eH, eO⟩ := zq2 aG.out
   have gV := aM.out
   have gW := aA.out
   obtain ⟨eP, eQ, eU, eX⟩ := zq2 aC.out
   try go_wp2
   refine bodyPost_ret (results_cell_row rfl _ _ aJ 25 #[.int .i64 bM, .string (aZ ++ dB)] (0, 0) _ rfl (zk1 aC.out aD.out) Tryz.underlying25 rfl (by kernel_rfl)) rfl ?_
   exact ⟨zE, (Kr HI0.out aA.out aH.out), zG3 (Qc.ge HI0.out) aN.out aY.out, (Ku HK.out aI.out aX.out)⟩
  exact absurd H (by simp)
 simp only [Option.some.injEq, Prod.mk.injEq] at H
 obtain ⟨rfl, rfl, rfl, rfl⟩ := H
 go_enter Tryz.func50, Tryz.ntmps50
 go_wp2_with (first | ((with_reducible refine Qm (N := 2) rfl ?_); refine zBx (N := 2) #[.int .i64 0, .string (⟨#[]⟩ : ByteArray)] 25 ?_; intro aJ hg iW hbox hb; have bE := Qa.mk (Qc.below (U0 HI0.out) hb); have bF := Qa.mk (Ql.trans (Uz HK.out) (Ql.of_below hb g none) (.inl rfl)); have bG := Qa.mk (Qg (zG (Qc.ge HI0.out)) hb); have bH := Qa.mk (hbox); have bI := Qa.mk ((by rw [hg]; exact (Jt (w := w) (g := g) (row := none) (Uz HK.out)) : w.heap.size ≤ aJ)); have bJ := Qa.mk ((Nat.le_trans HW0.out (by rw [hg]; exact (Jt (w := w) (g := g) (row := none) (Uz HK.out)) : w.heap.size ≤ aJ) : w0.heap.size ≤ aJ)); have bN := Qa.mk ((by rw [hg]; exact Nat.ne_of_lt (Qc.lt (show Qc w0 _ g aT bC bD from (U0 HI0.out))) : g ≠ aJ)); have bO := Qa.mk ((by rw [hg]; exact Nat.ne_of_gt (Qc.lt (show Qc w0 _ g aT bC bD from (U0 HI0.out))) : aJ ≠ g)); clear HI0; clear HK; clear HB; have HI0 := bE; have HK := bF; have HB := bG; have aC := bH; have aI := bI; have aN := bJ; have aA := bN; have aM := bO; clear bE bF bG bH bI bJ bN bO; clear hb hbox hg) | ((with_reducible refine Qd (f := 73) rfl ?_); refine zD (some 5) Tryz.func73 _ ((Jp.calls k g aT bC bD bM aZ bA bB w0 _ ?aV ?aW A2.out).mono ?_); (case aV => exact (Kv HI0.out aA.out)); (case aW => exact (jG8 HB.out (Qc.ge HI0.out) aN.out)); rintro e iX ⟨rfl, hi, hb, hk⟩; refine ⟨_, rfl, ?_⟩; replace aC := zKB hk aC.out aM.out; replace HK := Qa.mk (Ql.trans (Kw HK.out aI.out) hk (.inl rfl)); replace HI0 := Qa.mk (hi); replace HB := Qa.mk (hb); (try clear hb); (try clear hk); (try clear hi)) | ((with_reducible refine Qm (N := 3) rfl ?_); refine zBx (N := 3) #[.int .i64 0, .string (⟨#[]⟩ : ByteArray)] 25 ?_; intro aK hg iY hbox hb; have bE := Qa.mk (Qc.below (Kv HI0.out aA.out) hb); have bF := zV aC.out hb; have bG := Qa.mk (Ql.trans (Kw HK.out aI.out) (Ql.of_below hb g none) (.inl rfl)); have bH := Qa.mk (Qg (zG2 (Qc.ge HI0.out) aN.out) hb); have bI := Qa.mk (hbox); have bJ := Qa.mk ((by rw [hg]; exact (Jt (w := w) (g := g) (row := none) (Kw HK.out aI.out)) : w.heap.size ≤ aK)); have bN := Qa.mk ((Nat.le_trans HW0.out (by rw [hg]; exact (Jt (w := w) (g := g) (row := none) (Kw HK.out aI.out)) : w.heap.size ≤ aK) : w0.heap.size ≤ aK)); have bO := zL hg aC.out; have bZ := zLg hg aC.out; have cB := Qa.mk ((by rw [hg]; exact Nat.ne_of_lt (Qc.lt (show Qc w0 _ g aT bA bB from (Kv HI0.out aA.out))) : g ≠ aK)); have bP := Qa.mk ((by rw [hg]; exact Nat.ne_of_gt (Qc.lt (show Qc w0 _ g aT bA bB from (Kv HI0.out aA.out))) : aK ≠ g)); clear HI0; clear aC; clear HK; clear HB; have HI0 := bE; have aC := bF; have HK := bG; have HB := bH; have aG := bI; have aX := bJ; have aY := bN; have aD := bO; have aU := bZ; have aH := cB; have aQ := bP; clear bE bF bG bH bI bJ bN bO bZ cB bP; clear hb hbox hg; have gX := aU.out; have gY := aD.out; have gZ := aQ.out; have iA := aH.out; obtain ⟨eY, eZ, fA, fB⟩ := zq2 aG.out) | ((with_reducible refine Qd (f := 51) rfl ?_); refine zD (some 7) Tryz.func51 _ ((Q5.calls g aT bA bB 18 cZ bQ bR w0 _ ?aV ?aW A3.out).mono ?_); (case aV => exact (Kr HI0.out aA.out aH.out)); (case aW => exact (jDu HB.out (Qc.ge HI0.out) aN.out aY.out)); rintro e iZ ⟨rfl, hi, hb, hk⟩; refine ⟨_, rfl, ?_⟩; replace aC := Qa.mk (Ql.blk hk (g' := aJ) (o := .cells #[.int .i64 0, .string (⟨#[]⟩ : ByteArray)] 25 (0, 0)) (zk2 aC.out aD.out aD.out) aM.out (by simp)); replace aG := Qa.mk (Ql.blk hk (g' := aK) (o := .cells #[.int .i64 bM, .string aZ] 25 (0, 0)) (zk0 aG.out) aQ.out (by simp)); replace HK := Qa.mk (Ql.trans (Ku HK.out aI.out aX.out) hk (.inl rfl)); replace HI0 := Qa.mk (hi); replace HB := Qa.mk (hb); (try clear hb); (try clear hk); (try clear hi); obtain ⟨fC, fD, fE, fF⟩ := zq2 aG.out; have iB := aM.out; have iC := aA.out; obtain ⟨fG, fH, fI, fJ⟩ := zq2 aC.out))
 refine bodyPost_ret (results_cell_row rfl _ _ aJ 25 #[.int .i64 bM, .string aZ] (0, 0) _ rfl (zk0 aC.out) Tryz.underlying25 rfl (by kernel_rfl)) rfl ?_
 exact ⟨zE, (Kr HI0.out aA.out aH.out), zG3 (Qc.ge HI0.out) aN.out aY.out, (Ku HK.out aI.out aX.out)⟩
def X5.f (a0 : Bool) : Option (Int) := if a0 = true then (some 1) else (some 0)
set_option maxHeartbeats 8000000 in
set_option maxRecDepth 100000 in
theorem X5.calls (a0 : Bool) (r : Int) (w : World) (h : X5.f a0 = some r) :
  Calls Tryz.prog 52 #[.bool a0] w fun e w' => e = .returned (.int .i64 r) ∧ Jj w w' := by
 have H := h
 unfold X5.f at H
 clear h
 by_cases c2 : a0 = true
 ·subst c2
  replace H := (if_pos rfl).symm.trans H
  obtain rfl := Option.some.inj H
  go_enter Tryz.func52, Tryz.ntmps52
  go_wp2
  go_ret
  exact ⟨by first | rfl | (simp; done) | (simp [*]; done), by repeat (first | exact Jj.refl _ | apply Jj.step)⟩
 replace c2 := Bool.eq_false_iff.mpr c2
 subst c2
 replace H := (if_neg zFf).symm.trans H
 obtain rfl := Option.some.inj H
 go_enter Tryz.func52, Tryz.ntmps52
 go_wp2
 go_ret
 exact ⟨by first | rfl | (simp; done) | (simp [*]; done), by repeat (first | exact Jj.refl _ | apply Jj.step)⟩
def Xp.f (k : Nat) (l0 : List Int) : Option (Int × ByteArray × Int × Int × Int) := (J4.f k l0).bind fun aA => ((Jz.f k aA.1 aA.2.1 aA.2.2).bind fun aC => ((Q5.f aA.1 aC.2.2.1 aC.2.2.2 6).bind fun aD => ((Zw.f aA.1 aD.2.1 aD.2.2 16).bind fun aG => ((X5.f aG.1).bind fun aJ => ((Q5.f aA.1 aG.2.1 aG.2.2 6).bind fun aH => ((Q5.f aA.1 aH.2.1 aH.2.2 6).bind fun aI => (some (aC.1, aC.2.1, wrap64 (aD.1 - aJ), aH.1, aI.1))))))))
theorem jLx {p q p0 : Prop} (g : p) (g0 : p0) (h : p → p0 → q := by intro zg_ aA; repeat (first | (with_reducible first | exact zg_ | apply Qv | apply Qr | apply Qo | refine Qf ?_ aA) | exact zg_)) : q := h g g0
theorem jBq {p q p0 : Prop} (g : p) (g0 : p0) (h : p → p0 → q := by intro zg_ aA; repeat (first | (with_reducible first | exact zg_ | apply Qc.alloc | apply Qc.drewN | apply Qc.drew | apply Qc.set_1 | apply Qc.set_2 | refine Qc.far ?_ aA _) | exact zg_)) : q := h g g0
theorem jC5 {p q p0 p1 : Prop} (g : p) (g0 : p0) (g1 : p1) (h : p → p0 → p1 → q := by intro zg_ aA aC; repeat (first | (with_reducible first | exact zg_ | apply Qv | apply Qr | apply Qo | refine Qf ?_ aA | refine Qf ?_ aC) | exact zg_)) : q := h g g0 g1
set_option maxHeartbeats 8000000 in
set_option maxRecDepth 100000 in
theorem Xp.calls (k : Nat) (A0 : Option Addr) (c0 : Nat) (l0 : List Int) (r1 : Int) (r2 : ByteArray) (r3 : Int) (r4 : Int) (r5 : Int) (w : World) (hr0 : Kd.C (Kd.int .u8) w A0 l0.length l0) (hc0 : l0.length ≤ c0) (h : Xp.f k l0 = some (r1, r2, r3, r4, r5)) :
  Calls Tryz.prog 6 #[.slice A0 l0.length c0] w fun e w' => e = .returned (.tuple #[.agg #[.int .i64 r1, .string r2], .int .i64 r3, .int .i64 r4, .int .i64 r5]) ∧ Below w.heap.size w w' := by
 have bX := Tryz.underlying25
 have bY := Qa.mk hr0
 have bZ := Qa.mk hc0
 clear hr0 hc0
 have HB := Qa.mk (Below.refl w.heap.size w)
 have H := h
 unfold Xp.f at H
 clear h
 obtain ⟨⟨aM, aX, aY⟩, A2, H⟩ := zO H
 dsimp only at H
 obtain ⟨⟨aQ, aT, aZ, bA⟩, A3, H⟩ := zO H
 dsimp only at H
 obtain ⟨⟨bB, bC, bD⟩, A4, H⟩ := zO H
 dsimp only at H
 obtain ⟨⟨bE, aU, aV⟩, A5, H⟩ := zO H
 dsimp only at H
 obtain ⟨bF, A6, H⟩ := zO H
 obtain ⟨⟨bG, bH, bI⟩, A7, H⟩ := zO H
 dsimp only at H
 obtain ⟨⟨bJ, bP, bQ⟩, A8, H⟩ := zO H
 replace H : (some (aQ, aT, wrap64 (bB - bF), bG, bJ)) = some (r1, r2, r3, r4, r5) := H
 simp only [Option.some.injEq, Prod.mk.injEq] at H
 obtain ⟨rfl, rfl, rfl, rfl, rfl⟩ := H
 go_enter Tryz.func6, Tryz.ntmps6
 go_wp2_with (first | ((with_reducible refine Qm (N := 2) rfl ?_); refine zBx (N := 2) #[.int .i64 0, .string (⟨#[]⟩ : ByteArray)] 25 ?_; intro aK hg w9 hbox hb; have aC := Qa.mk (hbox); have bR := zS hg; have aJ := zS hg; replace HB := zX hb; clear hb hbox hg) | ((with_reducible refine Qd (f := 49) rfl ?_); refine zD (some 8) Tryz.func49 #[.slice A0 l0.length c0] ((J4.calls k _ _ l0 aM aX aY w _ ?aH ?aI ?bK A2.out).mono ?_); (case aH => exact (jLx HB.out aJ.out)); (case aI => exact bY.out); (case bK => exact bZ.out); rintro e cB ⟨aN, rfl, hi, hb, hb2⟩; refine ⟨_, rfl, ?_⟩; have aA := Qa.mk (hi); have aD := Qa.mk (Qc.ne_blk hi (Qh (g := aK) (o := .cells #[.int .i64 0, .string (⟨#[]⟩ : ByteArray)] 25 (0, 0)) (zK aC.out) hb2) (by decide)); have aG := Qa.mk (Ne.symm (Qc.ne_blk hi (Qh (g := aK) (o := .cells #[.int .i64 0, .string (⟨#[]⟩ : ByteArray)] 25 (0, 0)) (zK aC.out) hb2) (by decide))); replace aC := Qa.mk (Qh (g := aK) (o := .cells #[.int .i64 0, .string (⟨#[]⟩ : ByteArray)] 25 (0, 0)) (zK aC.out) hb2); replace HB := Qa.mk (hb); (try clear hb); (try clear hb2); (try clear hi)) | ((with_reducible refine Qd (f := 50) rfl ?_); refine zD (some 10) Tryz.func50 _ ((Jz.calls k aN aM aX aY aQ aT aZ bA w _ ?aH ?aI A3.out).mono ?_); (case aH => exact (jBq aA.out aD.out)); (case aI => exact (jC5 HB.out (Qc.ge aA.out) aJ.out)); rintro e cK ⟨rfl, hi, hb, hk⟩; refine ⟨_, rfl, ?_⟩; replace aC := zKB hk aC.out aG.out; replace aA := Qa.mk (hi); replace HB := Qa.mk (hb); (try clear hb); (try clear hk); (try clear hi)) | ((with_reducible refine Qd (f := 51) rfl ?_); refine zD (some 12) Tryz.func51 _ ((Q5.calls aN aM aZ bA 6 bB bC bD w _ ?aH ?aI A4.out).mono ?_); (case aH => exact (jBq aA.out aD.out)); (case aI => exact (jC5 HB.out (Qc.ge aA.out) aJ.out)); rintro e cO ⟨rfl, hi, hb, hk⟩; refine ⟨_, rfl, ?_⟩; replace aC := zKB hk aC.out aG.out; replace aA := Qa.mk (hi); replace HB := Qa.mk (hb); (try clear hb); (try clear hk); (try clear hi)) | ((with_reducible refine Qd (f := 53) rfl ?_); refine zD (some 14) Tryz.func53 _ ((Zw.calls aN aM bC bD 16 bE aU aV w _ ?aH ?aI A5.out).mono ?_); (case aH => exact (jBq aA.out aD.out)); (case aI => exact (jC5 HB.out (Qc.ge aA.out) aJ.out)); rintro e aW ⟨rfl, hi, hb, hk⟩; refine ⟨_, rfl, ?_⟩; replace aC := zKB hk aC.out aG.out; replace aA := Qa.mk (hi); replace HB := Qa.mk (hb); (try clear hb); (try clear hk); (try clear hi)) | ((with_reducible refine Qd (f := 52) rfl ?_); refine zD (some 15) Tryz.func52 _ ((X5.calls bE bF _ A6.out).mono ?_); rintro e w' ⟨rfl, ⟨nd, rfl⟩⟩; refine ⟨_, rfl, ?_⟩; (try (rw [jB0 aW]; generalize hq_ : World.drewN aW _ = aW; have bS : Qa (aW.heap[aK]? = some (.cells #[.int .i64 0, .string (⟨#[]⟩ : ByteArray)] 25 (0, 0))) := ⟨by rw [← hq_]; exact (zK aC.out)⟩; have bT : Qa (Qc w aW aN aM aU aV) := ⟨by rw [← hq_]; exact (jBq aA.out aD.out)⟩; have bU : Qa (Below w.heap.size w aW) := ⟨by rw [← hq_]; exact (zG2 (Qc.ge aA.out) aJ.out)⟩; clear aC aA HB hq_; have aC := bS; have aA := bT; have HB := bU; clear bS bT bU))) | ((with_reducible refine Qd (f := 51) rfl ?_); refine zD (some 18) Tryz.func51 _ ((Q5.calls aN aM aU aV 6 bG bH bI w _ ?aH ?aI A7.out).mono ?_); (case aH => exact (jBq aA.out aD.out)); (case aI => exact (jC5 HB.out (Qc.ge aA.out) aJ.out)); rintro e cZ ⟨rfl, hi, hb, hk⟩; refine ⟨_, rfl, ?_⟩; replace aC := zKB hk aC.out aG.out; replace aA := Qa.mk (hi); replace HB := Qa.mk (hb); (try clear hb); (try clear hk); (try clear hi)) | ((with_reducible refine Qd (f := 51) rfl ?_); refine zD (some 20) Tryz.func51 _ ((Q5.calls aN aM bH bI 6 bJ bP bQ w _ ?aH ?aI A8.out).mono ?_); (case aH => exact (jBq aA.out aD.out)); (case aI => exact (jC5 HB.out (Qc.ge aA.out) aJ.out)); rintro e dA ⟨rfl, hi, hb, hk⟩; refine ⟨_, rfl, ?_⟩; replace aC := zKB hk aC.out aG.out; replace aA := Qa.mk (hi); replace HB := Qa.mk (hb); (try clear hb); (try clear hk); (try clear hi); have bV := aG.out; have bW := aD.out; obtain ⟨bL, bM, bN, bO⟩ := zq2 aC.out))
 refine bodyPost_ret (jDo (rs := [.cell 2 25, .tmp 3, .tmp 4, .tmp 5]) rfl (by simp) (.cell aK 25 #[.int .i64 aQ, .string aT] (0, 0) _ rfl (zk0 aC.out) Tryz.underlying25 rfl (by kernel_rfl) (.tmp (.tmp (.tmp .nil))))) rfl ?_
 exact ⟨zE, zG2 (Qc.ge aA.out) aJ.out⟩
end Go.Proofs.YtckkfjdkaimmhaaGreatDoor.PX
