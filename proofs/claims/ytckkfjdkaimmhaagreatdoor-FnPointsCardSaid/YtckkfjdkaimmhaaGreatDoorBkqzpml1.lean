/- A part of proofs about signs and points: what some functions answer, and that their calls answer so. No condition. -/
import Derived.Test.YtckkfjdkaimmhaaGreatDoorProg
import Derived.Below
import Derived.Deep.Draws
import Derived.Deep.AppendLies
import Derived.Maps.AppendAt
import Derived.OwnWalk
import Derived.Laws.BytesArg
import Derived.Laws.MakeOwn
import Derived.Laws.OwnMore
import Derived.Deep.OwnRows
import Derived.Tactics
import Derived.Lib.ConvBytes
import Derived.Laws.Slices
import Derived.WalkKit
import Derived.KernelRfl
import Derived.RowKit3
import Derived.Deep.LoopGhost
import Derived.Deep.QuietTactic
import Derived.BigQuiet
import Derived.WideLaws
import Derived.Deep.DeepCutAuto
import Derived.Deep.CutBlock
import Derived.Deep.RegionHeld3
import Derived.Laws.Rows
import Derived.Lib.AppendStr
import Derived.ArgAppend
import Derived.Laws.IdiomCopy
import Derived.OrdersHeld
import Derived.Laws.BitsLemmas
import Derived.RowKit
import Derived.Laws.Tables
import Derived.Lib.QuietBelow
import Derived.Shelf.Strconv.Itoa3
import Derived.Shelf.Strconv.AtoiAll
import Derived.Shelf.Strings.Cut
import Derived.Shelf.Strings.OnBuilder
import Derived.Lib.SmallJoins
import Derived.Lib.AppendIntMem
import Derived.Test.YtckkfjdkaimmhaaGreatDoorRows
import Derived.ProofKit
import Derived.LaidMore
import Derived.OpenShut
import Derived.Stop.Joined
import Derived.Stop.LaidErr
import Derived.Lib.LaidTab
import Derived.LaidHandle
import Derived.Handed
import Derived.HandedShaped
import Derived.SizedLaws
import Derived.LaidLaws
import Derived.Shelf.Vars
import Derived.Shelf.SlSortCmp.SmallK
import Derived.Shelf.SlicesE.Clone
import Derived.Shelf.Small.Bits
import Derived.Lib.OwnBridge
import Derived.Test.YtckkfjdkaimmhaaGreatDoorV1
set_option linter.unusedVariables false
set_option linter.unusedSimpArgs false
namespace Go.Proofs.YtckkfjdkaimmhaaGreatDoor.G
open Go.RowKit Go.Proofs.YtckkfjdkaimmhaaGreatDoorW.PrintWords
theorem jCp (A : Option Addr) (n n' c c' : Nat) : (Value.slice A n c).ownBlock = (Value.slice A n' c').ownBlock := by cases A <;> rfl
section
variable {P : Program} {ops : Array Oper} {rest : List Oper} {o : Oper} {a : Act} {Q : Exit → Act → World → Prop}
end
end Go.Proofs.YtckkfjdkaimmhaaGreatDoor.G
namespace Go.Proofs.YtckkfjdkaimmhaaGreatDoor.G
open Go.RowKit Go.Proofs.YtckkfjdkaimmhaaGreatDoorW.PrintWords
set_option linter.unusedVariables false
theorem Ut {w c : World} (h : w.drawn ≤ c.drawn) : w.drawn ≤ c.drew.drawn := Nat.le_succ_of_le h
theorem Uk {w c : World} (n : Nat) (h : w.drawn ≤ c.drawn) : w.drawn ≤ (c.drewN n).drawn := Nat.le_trans h (Nat.le_add_right _ _)
theorem jB4 {w c c' : World} (h : w.drawn ≤ c.drawn) (h' : c.drawn ≤ c'.drawn) : w.drawn ≤ c'.drawn := Nat.le_trans h h'
theorem Wt {P : Program} {ops : Array Oper} {rest : List Oper} {o : Oper} {a : Act} {Q : Exit → Act → World → Prop} {W : World} (hgd : o.guard = none) {N : Tmp} (_ : o.dst = some N) {cs : Array Value} {t : TypeId}
  (hrun : (execOp a.eval o).run P W = .ok (.value (.pointer (some ⟨W.heap.size, 0, none⟩))) (W.alloc (.cells cs t (0, 0))))
  (h : ∀ g, g = W.heap.size → ∀ w1, w1.heap[g]? = some (.cells cs t (0, 0)) → Below W.heap.size W w1 → W.drawn ≤ w1.drawn → wpList P ops Q rest (a.put o.dst (.pointer (some ⟨g, 0, none⟩))) w1) : wpList P ops Q (o :: rest) a W :=
 Kd.event_run hgd hrun (h _ rfl _ (jB8 W _) (Qw (Below.refl _ _) _) (Nat.le_refl _))
theorem jBz {P : Program} {ops : Array Oper} {o : Oper} {a : Act} {Q : Exit → Act → World → Prop} {Kc : Act → World → Prop} {α : Type} (d : Kd α) {w0 W : World} (base e : Nat) (hw : Region.wanted o (yielded ops a.tmps) = true) {N : Tmp} (_ : o.dst = some N) {xs : List α} {inner : List Value} {ok okp : Nat → Prop}
  (hrun : (execOp a.eval o).run P W = .ok (.value (.slice (some ⟨W.heap.size, 0, none⟩) xs.length xs.length)) (W.alloc (.cells inner.toArray e)))
  (hrep : J6 (d.M W base okp) d.sz xs inner) (hok : ∀ k, okp k → ok k) (hfresh : ok W.heap.size) (HB : Below base w0 W) (hbase : base ≤ W.heap.size) (hm : xs.length ≤ 9223372036854775807)
  (h : ∀ v1 w1, d.R e w1 base ok v1 xs → Below base w0 w1 → W.grownBy w1 none → (∃ b, v1.ownBlock = some b ∧ W.heap.size ≤ b) → W.drawn ≤ w1.drawn → Kc (a.put o.dst v1) w1) : if Region.wanted o (yielded ops a.tmps) = true then Oper.wp P o a W Kc Q else Kc (a.put o.dst undef) W := by
 refine Ws hw hrun (h _ _ ⟨fun k hk => ?_, inner, ?_, ?_⟩ (HB.alloc hbase _) (World.grownBy_alloc W _ none) ⟨W.heap.size, by simp [Value.ownBlock], Nat.le_refl _⟩ (Nat.le_refl _))
 ·have : W.heap.size = k := by simpa [Value.ownBlock] using hk
  subst this
  exact hfresh
 ·have h2 := World.ownsRow_lit (base := base) (e := e) (size := d.sz) W inner.toArray xs.length hbase (by simpa [maxLen] using hm) (by simpa using hrep.1)
  simpa using h2
 ·refine hrep.imp_ (fun p c hp => d.M_mono (fun k hk => ⟨hok k hk.1, fun he => ?_⟩) (Kd.M_below (d.M_bound hp) (Qw (Below.refl _ _) _)))
  have h3 : k = W.heap.size := by simpa [Value.ownBlock] using he
  have := hk.2.2.1
  omega
theorem grown_of {w w' : World} (h : Below w.heap.size w w') (hd : w.drawn ≤ w'.drawn) : ∃ q os', w' = Go.Sort.grow (w.drewN q) os' := by
 obtain ⟨p, rfl⟩ := regrown_of_below h
 refine ⟨p.d - w.drawn, p.os, ?_⟩
 have hd' : w.drawn ≤ p.d := hd
 have e : redrawn w p.d = w.drewN (p.d - w.drawn) := by
  unfold redrawn World.drewN
  congr 1
  omega
 rw [e]
end Go.Proofs.YtckkfjdkaimmhaaGreatDoor.G
namespace Go.Proofs
open Go.Shelf
set_option linter.unusedVariables false
def Tryz.lays156_ren : Go.Shelf.Ren := ⟨fun | 156 => 115 | 165 => 131 | 166 => 132 | 169 => 133 | 240 => 146 | 241 => 147 | 276 => 160 | 277 => 161 | n => n, fun | 31 => 93 | 9 => 9 | 3 => 3 | 4 => 4 | 0 => 0 | 20 => 20 | 72 => 143 | 76 => 126 | 70 => 141 | 37 => 22 | 75 => 125 | 127 => 155 | 164 => 171 | 5 => 5 | 80 => 145 | n => n, fun | n => n⟩
theorem Tryz.lays156 : Go.Proofs.Lays.n156 Tryz.prog Tryz.lays156_ren := {
 mixed := by kernel_rfl
 f156 := Tryz.func115.trans (congrArg some (by kernel_rfl))
 f165 := Tryz.func131.trans (congrArg some (by kernel_rfl))
 f166 := Tryz.func132.trans (congrArg some (by kernel_rfl))
 f169 := Tryz.func133.trans (congrArg some (by kernel_rfl))
 f240 := Tryz.func146.trans (congrArg some (by kernel_rfl))
 f241 := Tryz.func147.trans (congrArg some (by kernel_rfl))
 f276 := Tryz.func160.trans (congrArg some (by kernel_rfl))
 f277 := Tryz.func161.trans (congrArg some (by kernel_rfl))
 t0 := Tryz.underlying0
 a0 := Tryz.isAgg0
 z0 := Tryz.sizeOf0
 v0 := Tryz.zeroValue0
 t3 := Tryz.underlying3
 a3 := Tryz.isAgg3
 z3 := Tryz.sizeOf3
 v3 := Tryz.zeroValue3
 t4 := Tryz.underlying4
 a4 := Tryz.isAgg4
 z4 := Tryz.sizeOf4
 v4 := Tryz.zeroValue4
 t9 := Tryz.underlying9
 a9 := Tryz.isAgg9
 z9 := Tryz.sizeOf9
 v9 := Tryz.zeroValue9
 t20 := Tryz.underlying20
 a20 := Tryz.isAgg20
 z20 := Tryz.sizeOf20
 v20 := Tryz.zeroValue20
 t31 := Tryz.underlying93
 a31 := Tryz.isAgg93
 z31 := Tryz.sizeOf93
 v31 := Tryz.zeroValue93
 t37 := Tryz.underlying22
 a37 := Tryz.isAgg22
 z37 := Tryz.sizeOf22
 v37 := Tryz.zeroValue22
 t70 := Tryz.underlying141
 a70 := Tryz.isAgg141
 z70 := Tryz.sizeOf141
 v70 := Tryz.zeroValue141
 t72 := Tryz.underlying143
 a72 := Tryz.isAgg143
 z72 := Tryz.sizeOf143
 v72 := Tryz.zeroValue143
 t75 := Tryz.underlying125
 a75 := Tryz.isAgg125
 z75 := Tryz.sizeOf125
 v75 := Tryz.zeroValue125
 t76 := Tryz.underlying126
 a76 := Tryz.isAgg126
 z76 := Tryz.sizeOf126
 v76 := Tryz.zeroValue126
 t127 := Tryz.underlying155
 a127 := Tryz.isAgg155
 z127 := Tryz.sizeOf155
 v127 := Tryz.zeroValue155
 t164 := Tryz.underlying171
 a164 := Tryz.isAgg171
 z164 := Tryz.sizeOf171
 v164 := Tryz.zeroValue171 }
theorem Tryz.Builder_Extra_156 : Builder.Extra Tryz.prog Tryz.lays156_ren := {
 sizeBuilder := by kernel_rfl
 liesBuilder := by kernel_rfl
 t5 := Tryz.underlying5
 a5 := Tryz.isAgg5
 z5 := Tryz.sizeOf5
 v5 := Tryz.zeroValue5
 infoByte := by kernel_rfl
 cellsByte := by kernel_rfl
 sizeByte := by kernel_rfl
 neB5 := by decide }
open Go.RowKit in
theorem Tryz.strings_Join_none (a : Option Addr) (c : Nat) (sep : ByteArray) (w : World) :
  Calls Tryz.prog 115 #[.slice a 0 c, .string sep] w fun e w' => e = .returned (.string ⟨#[]⟩) ∧ w' = w := Any.strings_Join_none Tryz.lays156 Tryz.Builder_Extra_156 a c sep w
open Go.RowKit in
theorem Tryz.strings_Join (bk o c : Nat) (xs : List ByteArray) (sep : ByteArray) (w : World) (hcells : ∀ (j : Nat) x, xs[j]? = some x → w.cell? ⟨bk, o + j, none⟩ = some (.string x)) (hbk : bk < w.heap.size) (hN : xs.length ≤ 140737488355328) (hcap : xs.length ≤ c) (hlen : (Lib.join (xs.map (·.data.toList)) sep.data.toList).length ≤ 140737488355328) :
  Calls Tryz.prog 115 #[.slice (some ⟨bk, o, none⟩) xs.length c, .string sep] w fun e w' => e = .returned (.string ⟨(Lib.join (xs.map (·.data.toList)) sep.data.toList).toArray⟩) ∧ Below w.heap.size w w' := Any.strings_Join Tryz.lays156 Tryz.Builder_Extra_156 bk o c xs sep w hcells hbk hN hcap hlen
def Tryz.laysM171_ren : Go.Shelf.Ren := ⟨fun | 171 => 108 | 243 => 118 | 246 => 136 | 283 => 153 | 284 => 154 | 285 => 155 | 286 => 156 | 129 => 130 | 317 => 165 | 318 => 166 | 319 => 167 | 320 => 168 | 337 => 171 | 338 => 172 | n => n, fun | 3 => 3 | 9 => 9 | 2 => 2 | 4 => 4 | 171 => 162 | 0 => 0 | 53 => 140 | 37 => 22 | 5 => 5 | 173 => 164 | 212 => 179 | 51 => 138 | 20 => 20 | 213 => 180 | 46 => 121 | 232 => 186 | 233 => 187 | n => n, fun | 17 => 3 | 18 => 4 | 19 => 5 | n => n⟩
theorem Tryz.laysM171 : Go.Proofs.LaysM.n171 Tryz.prog Tryz.laysM171_ren := {
 mixed := by kernel_rfl
 f129 := Tryz.func130.trans (congrArg some (by kernel_rfl))
 f171 := Tryz.func108.trans (congrArg some (by kernel_rfl))
 f243 := Tryz.func118.trans (congrArg some (by kernel_rfl))
 f246 := Tryz.func136.trans (congrArg some (by kernel_rfl))
 f283 := Tryz.func153.trans (congrArg some (by kernel_rfl))
 f284 := Tryz.func154.trans (congrArg some (by kernel_rfl))
 f285 := Tryz.func155.trans (congrArg some (by kernel_rfl))
 f286 := Tryz.func156.trans (congrArg some (by kernel_rfl))
 f317 := Tryz.func165.trans (congrArg some (by kernel_rfl))
 f318 := Tryz.func166.trans (congrArg some (by kernel_rfl))
 f319 := Tryz.func167.trans (congrArg some (by kernel_rfl))
 f320 := Tryz.func168.trans (congrArg some (by kernel_rfl))
 f337 := Tryz.func171.trans (congrArg some (by kernel_rfl))
 f338 := Tryz.func172.trans (congrArg some (by kernel_rfl))
 t0 := Tryz.underlying0
 a0 := Tryz.isAgg0
 z0 := Tryz.sizeOf0
 v0 := Tryz.zeroValue0
 t2 := Tryz.underlying2
 a2 := Tryz.isAgg2
 z2 := Tryz.sizeOf2
 v2 := Tryz.zeroValue2
 t3 := Tryz.underlying3
 a3 := Tryz.isAgg3
 z3 := Tryz.sizeOf3
 v3 := Tryz.zeroValue3
 t4 := Tryz.underlying4
 a4 := Tryz.isAgg4
 z4 := Tryz.sizeOf4
 v4 := Tryz.zeroValue4
 t5 := Tryz.underlying5
 a5 := Tryz.isAgg5
 z5 := Tryz.sizeOf5
 v5 := Tryz.zeroValue5
 t9 := Tryz.underlying9
 a9 := Tryz.isAgg9
 z9 := Tryz.sizeOf9
 v9 := Tryz.zeroValue9
 t20 := Tryz.underlying20
 a20 := Tryz.isAgg20
 z20 := Tryz.sizeOf20
 v20 := Tryz.zeroValue20
 t37 := Tryz.underlying22
 a37 := Tryz.isAgg22
 z37 := Tryz.sizeOf22
 v37 := Tryz.zeroValue22
 t46 := Tryz.underlying121
 a46 := Tryz.isAgg121
 z46 := Tryz.sizeOf121
 v46 := Tryz.zeroValue121
 t51 := Tryz.underlying138
 a51 := Tryz.isAgg138
 z51 := Tryz.sizeOf138
 v51 := Tryz.zeroValue138
 t53 := Tryz.underlying140
 a53 := Tryz.isAgg140
 z53 := Tryz.sizeOf140
 v53 := Tryz.zeroValue140
 t171 := Tryz.underlying162
 a171 := Tryz.isAgg162
 z171 := Tryz.sizeOf162
 v171 := Tryz.zeroValue162
 t173 := Tryz.underlying164
 a173 := Tryz.isAgg164
 z173 := Tryz.sizeOf164
 v173 := Tryz.zeroValue164
 t212 := Tryz.underlying179
 a212 := Tryz.isAgg179
 z212 := Tryz.sizeOf179
 v212 := Tryz.zeroValue179
 t213 := Tryz.underlying180
 a213 := Tryz.isAgg180
 z213 := Tryz.sizeOf180
 t232 := Tryz.underlying186
 a232 := Tryz.isAgg186
 z232 := Tryz.sizeOf186
 v232 := Tryz.zeroValue186
 t233 := Tryz.underlying187
 a233 := Tryz.isAgg187
 z233 := Tryz.sizeOf187
 v233 := Tryz.zeroValue187
 g17 := by kernel_rfl
 g18 := by kernel_rfl
 g19 := by kernel_rfl
 i0 := by kernel_rfl
 i2 := by kernel_rfl
 i3 := by kernel_rfl
 i4 := by kernel_rfl
 i5 := by kernel_rfl
 i9 := by kernel_rfl
 i20 := by kernel_rfl
 i37 := by kernel_rfl
 i46 := by kernel_rfl
 i51 := by kernel_rfl
 i53 := by kernel_rfl
 i171 := by kernel_rfl
 i173 := by kernel_rfl
 i212 := by kernel_rfl
 i232 := by kernel_rfl
 i233 := by kernel_rfl
 m17 := by kernel_rfl
 m18 := by kernel_rfl
 m19 := by kernel_rfl }
open Go.RowKit Go.Sort Go.Lib in
theorem Tryz.strconv_Itoa (n : Int) (h0 : -9223372036854775808 ≤ n) (h1 : n ≤ 9223372036854775807) (w : World) (htab : Lib.TabIs Tryz.prog w "internal/strconv.uint64pow10" .u64 Lib.pow10Tab) :
  Calls Tryz.prog 108 #[.int .i64 n] w fun e w' => e = .returned (.string ⟨(Lib.itoa n).toArray⟩) ∧ ∃ k os, w' = grow (w.drewN k) os := Any.strconv_Itoa Tryz.laysM171 n h0 h1 w htab
def Tryz.laysC172_ren : Go.Shelf.Ren := ⟨fun | 172 => 117 | 244 => 134 | 245 => 135 | 247 => 148 | 279 => 149 | 280 => 150 | 281 => 151 | 282 => 152 | 287 => 162 | 316 => 163 | 171 => 108 | 205 => 164 | 321 => 169 | 322 => 170 | 243 => 118 | 246 => 136 | 283 => 153 | 284 => 154 | 285 => 155 | 286 => 156 | 129 => 130 | 317 => 165 | 318 => 166 | 319 => 167 | 320 => 168 | 337 => 171 | 338 => 172 | n => n, fun | 9 => 9 | 3 => 3 | 75 => 125 | 76 => 126 | 4 => 4 | 5 => 5 | 167 => 156 | 37 => 22 | 0 => 0 | 85 => 157 | 2 => 2 | 168 => 159 | 53 => 140 | 175 => 174 | 46 => 121 | 210 => 177 | 127 => 155 | 145 => 185 | 143 => 183 | 21 => 21 | 171 => 162 | 173 => 164 | 212 => 179 | 51 => 138 | 20 => 20 | 213 => 180 | 232 => 186 | 233 => 187 | 80 => 145 | n => n, fun | 15 => 1 | 16 => 2 | 17 => 3 | 18 => 4 | 19 => 5 | n => n⟩
theorem Tryz.laysC172 : Go.Proofs.LaysC.n172 Tryz.prog Tryz.laysC172_ren := {
 mixed := by kernel_rfl
 f129 := Tryz.func130.trans (congrArg some (by kernel_rfl))
 f171 := Tryz.func108.trans (congrArg some (by kernel_rfl))
 f172 := Tryz.func117.trans (congrArg some (by kernel_rfl))
 f205 := Tryz.func164.trans (congrArg some (by kernel_rfl))
 f243 := Tryz.func118.trans (congrArg some (by kernel_rfl))
 f244 := Tryz.func134.trans (congrArg some (by kernel_rfl))
 f245 := Tryz.func135.trans (congrArg some (by kernel_rfl))
 f246 := Tryz.func136.trans (congrArg some (by kernel_rfl))
 f247 := Tryz.func148.trans (congrArg some (by kernel_rfl))
 f279 := Tryz.func149.trans (congrArg some (by kernel_rfl))
 f280 := Tryz.func150.trans (congrArg some (by kernel_rfl))
 f281 := Tryz.func151.trans (congrArg some (by kernel_rfl))
 f282 := Tryz.func152.trans (congrArg some (by kernel_rfl))
 f283 := Tryz.func153.trans (congrArg some (by kernel_rfl))
 f284 := Tryz.func154.trans (congrArg some (by kernel_rfl))
 f285 := Tryz.func155.trans (congrArg some (by kernel_rfl))
 f286 := Tryz.func156.trans (congrArg some (by kernel_rfl))
 f287 := Tryz.func162.trans (congrArg some (by kernel_rfl))
 f316 := Tryz.func163.trans (congrArg some (by kernel_rfl))
 f317 := Tryz.func165.trans (congrArg some (by kernel_rfl))
 f318 := Tryz.func166.trans (congrArg some (by kernel_rfl))
 f319 := Tryz.func167.trans (congrArg some (by kernel_rfl))
 f320 := Tryz.func168.trans (congrArg some (by kernel_rfl))
 f321 := Tryz.func169.trans (congrArg some (by kernel_rfl))
 f322 := Tryz.func170.trans (congrArg some (by kernel_rfl))
 f337 := Tryz.func171.trans (congrArg some (by kernel_rfl))
 f338 := Tryz.func172.trans (congrArg some (by kernel_rfl))
 t0 := Tryz.underlying0
 a0 := Tryz.isAgg0
 z0 := Tryz.sizeOf0
 v0 := Tryz.zeroValue0
 t2 := Tryz.underlying2
 a2 := Tryz.isAgg2
 z2 := Tryz.sizeOf2
 v2 := Tryz.zeroValue2
 t3 := Tryz.underlying3
 a3 := Tryz.isAgg3
 z3 := Tryz.sizeOf3
 v3 := Tryz.zeroValue3
 t4 := Tryz.underlying4
 a4 := Tryz.isAgg4
 z4 := Tryz.sizeOf4
 v4 := Tryz.zeroValue4
 t5 := Tryz.underlying5
 a5 := Tryz.isAgg5
 z5 := Tryz.sizeOf5
 v5 := Tryz.zeroValue5
 t9 := Tryz.underlying9
 a9 := Tryz.isAgg9
 z9 := Tryz.sizeOf9
 v9 := Tryz.zeroValue9
 t20 := Tryz.underlying20
 a20 := Tryz.isAgg20
 z20 := Tryz.sizeOf20
 v20 := Tryz.zeroValue20
 t21 := Tryz.underlying21
 a21 := Tryz.isAgg21
 z21 := Tryz.sizeOf21
 v21 := Tryz.zeroValue21
 t37 := Tryz.underlying22
 a37 := Tryz.isAgg22
 z37 := Tryz.sizeOf22
 v37 := Tryz.zeroValue22
 t46 := Tryz.underlying121
 a46 := Tryz.isAgg121
 z46 := Tryz.sizeOf121
 v46 := Tryz.zeroValue121
 t51 := Tryz.underlying138
 a51 := Tryz.isAgg138
 z51 := Tryz.sizeOf138
 v51 := Tryz.zeroValue138
 t53 := Tryz.underlying140
 a53 := Tryz.isAgg140
 z53 := Tryz.sizeOf140
 v53 := Tryz.zeroValue140
 t75 := Tryz.underlying125
 a75 := Tryz.isAgg125
 z75 := Tryz.sizeOf125
 v75 := Tryz.zeroValue125
 t76 := Tryz.underlying126
 a76 := Tryz.isAgg126
 z76 := Tryz.sizeOf126
 v76 := Tryz.zeroValue126
 t85 := Tryz.underlying157
 a85 := Tryz.isAgg157
 z85 := Tryz.sizeOf157
 v85 := Tryz.zeroValue157
 t127 := Tryz.underlying155
 a127 := Tryz.isAgg155
 z127 := Tryz.sizeOf155
 v127 := Tryz.zeroValue155
 t143 := Tryz.underlying183
 a143 := Tryz.isAgg183
 z143 := Tryz.sizeOf183
 v143 := Tryz.zeroValue183
 t145 := Tryz.underlying185
 a145 := Tryz.isAgg185
 z145 := Tryz.sizeOf185
 v145 := Tryz.zeroValue185
 t167 := Tryz.underlying156
 a167 := Tryz.isAgg156
 z167 := Tryz.sizeOf156
 v167 := Tryz.zeroValue156
 t168 := Tryz.underlying159
 a168 := Tryz.isAgg159
 z168 := Tryz.sizeOf159
 v168 := Tryz.zeroValue159
 t171 := Tryz.underlying162
 a171 := Tryz.isAgg162
 z171 := Tryz.sizeOf162
 v171 := Tryz.zeroValue162
 t173 := Tryz.underlying164
 a173 := Tryz.isAgg164
 z173 := Tryz.sizeOf164
 v173 := Tryz.zeroValue164
 t175 := Tryz.underlying174
 a175 := Tryz.isAgg174
 z175 := Tryz.sizeOf174
 v175 := Tryz.zeroValue174
 t210 := Tryz.underlying177
 a210 := Tryz.isAgg177
 z210 := Tryz.sizeOf177
 v210 := Tryz.zeroValue177
 t212 := Tryz.underlying179
 a212 := Tryz.isAgg179
 z212 := Tryz.sizeOf179
 v212 := Tryz.zeroValue179
 t213 := Tryz.underlying180
 a213 := Tryz.isAgg180
 z213 := Tryz.sizeOf180
 t232 := Tryz.underlying186
 a232 := Tryz.isAgg186
 z232 := Tryz.sizeOf186
 v232 := Tryz.zeroValue186
 t233 := Tryz.underlying187
 a233 := Tryz.isAgg187
 z233 := Tryz.sizeOf187
 v233 := Tryz.zeroValue187
 g15 := by kernel_rfl
 g16 := by kernel_rfl
 g17 := by kernel_rfl
 g18 := by kernel_rfl
 g19 := by kernel_rfl
 t80 := Tryz.underlying145
 a80 := Tryz.isAgg145
 z80 := Tryz.sizeOf145
 v80 := Tryz.zeroValue145
 i0 := by kernel_rfl
 i2 := by kernel_rfl
 i3 := by kernel_rfl
 i4 := by kernel_rfl
 i5 := by kernel_rfl
 i9 := by kernel_rfl
 i20 := by kernel_rfl
 i21 := by kernel_rfl
 i37 := by kernel_rfl
 i46 := by kernel_rfl
 i51 := by kernel_rfl
 i53 := by kernel_rfl
 i75 := by kernel_rfl
 i76 := by kernel_rfl
 i80 := by kernel_rfl
 i85 := by kernel_rfl
 i127 := by kernel_rfl
 i143 := by kernel_rfl
 i145 := by kernel_rfl
 i167 := by kernel_rfl
 i168 := by kernel_rfl
 i171 := by kernel_rfl
 i173 := by kernel_rfl
 i175 := by kernel_rfl
 i210 := by kernel_rfl
 i212 := by kernel_rfl
 i232 := by kernel_rfl
 i233 := by kernel_rfl
 m15 := by kernel_rfl
 m16 := by kernel_rfl
 m17 := by kernel_rfl
 m18 := by kernel_rfl
 m19 := by kernel_rfl
 c0 := by kernel_rfl
 c2 := by kernel_rfl
 c3 := by kernel_rfl
 c4 := by kernel_rfl
 c5 := by kernel_rfl
 c9 := by kernel_rfl
 c20 := by kernel_rfl
 c21 := by kernel_rfl
 c37 := by kernel_rfl
 c46 := by kernel_rfl
 c51 := by kernel_rfl
 c53 := by kernel_rfl
 c75 := by kernel_rfl
 c76 := by kernel_rfl
 c80 := by kernel_rfl
 c85 := by kernel_rfl
 c127 := by kernel_rfl
 c143 := by kernel_rfl
 c145 := by kernel_rfl
 c167 := by kernel_rfl
 c168 := by kernel_rfl
 c171 := by kernel_rfl
 c173 := by kernel_rfl
 c175 := by kernel_rfl
 c210 := by kernel_rfl
 c212 := by kernel_rfl
 c213 := by kernel_rfl
 c232 := by kernel_rfl
 c233 := by kernel_rfl }
open Go.RowKit in
theorem Tryz.strconv_Atoi_ok (s : ByteArray) (hmax : s.size ≤ 9223372036854775806) (v : Int) (h : Lib.atoiAll s.data.toList = .ok v) (w : World) :
  Calls Tryz.prog 117 #[.string s] w fun e w' => e = .returned (.tuple #[.int .i64 v, .nilIface]) ∧ (w' = w ∨ ∃ t, w' = Lib.bytesWorld w 5 t) := Any.strconv_Atoi_ok Tryz.laysC172 s hmax v h w
def Tryz.lays145_ren : Go.Shelf.Ren := ⟨fun | 145 => 86 | 220 => 111 | 219 => 120 | 217 => 137 | 225 => 138 | 224 => 139 | 267 => 140 | 266 => 157 | 314 => 158 | n => n, fun | 9 => 9 | 4 => 4 | 59 => 99 | 3 => 3 | 5 => 5 | 46 => 121 | 146 => 166 | 51 => 138 | n => n, fun | 1 => 0 | n => n⟩
theorem Tryz.lays145 : Go.Proofs.Lays.n145 Tryz.prog Tryz.lays145_ren := {
 mixed := by kernel_rfl
 f145 := Tryz.func86.trans (congrArg some (by kernel_rfl))
 f217 := Tryz.func137.trans (congrArg some (by kernel_rfl))
 f219 := Tryz.func120.trans (congrArg some (by kernel_rfl))
 f220 := Tryz.func111.trans (congrArg some (by kernel_rfl))
 f224 := Tryz.func139.trans (congrArg some (by kernel_rfl))
 f225 := Tryz.func138.trans (congrArg some (by kernel_rfl))
 f266 := Tryz.func157.trans (congrArg some (by kernel_rfl))
 f267 := Tryz.func140.trans (congrArg some (by kernel_rfl))
 f314 := Tryz.func158.trans (congrArg some (by kernel_rfl))
 t3 := Tryz.underlying3
 a3 := Tryz.isAgg3
 z3 := Tryz.sizeOf3
 v3 := Tryz.zeroValue3
 t4 := Tryz.underlying4
 a4 := Tryz.isAgg4
 z4 := Tryz.sizeOf4
 v4 := Tryz.zeroValue4
 t5 := Tryz.underlying5
 a5 := Tryz.isAgg5
 z5 := Tryz.sizeOf5
 v5 := Tryz.zeroValue5
 t9 := Tryz.underlying9
 a9 := Tryz.isAgg9
 z9 := Tryz.sizeOf9
 v9 := Tryz.zeroValue9
 t46 := Tryz.underlying121
 a46 := Tryz.isAgg121
 z46 := Tryz.sizeOf121
 v46 := Tryz.zeroValue121
 t51 := Tryz.underlying138
 a51 := Tryz.isAgg138
 z51 := Tryz.sizeOf138
 v51 := Tryz.zeroValue138
 t59 := Tryz.underlying99
 a59 := Tryz.isAgg99
 z59 := Tryz.sizeOf99
 v59 := Tryz.zeroValue99
 t146 := Tryz.underlying166
 a146 := Tryz.isAgg166
 z146 := Tryz.sizeOf166
 v146 := Tryz.zeroValue166
 g1 := by kernel_rfl }
open Go.RowKit Go.Lib in
theorem Tryz.strings_Cut (s sep : ByteArray) (m : Int) (w : World) (hs : s.size < 4294967281) (hm : w.cell? ⟨0, 0, none⟩ = some (.int .i64 m)) :
  Calls Tryz.prog 86 #[.string s, .string sep] w fun e w' => e = .returned (.tuple #[.string ⟨(Lib.cut s.data.toList sep.data.toList).1.toArray⟩, .string ⟨(Lib.cut s.data.toList sep.data.toList).2.1.toArray⟩, .bool (Lib.cut s.data.toList sep.data.toList).2.2]) ∧ ∃ n, w' = w.drewN n := Any.strings_Cut Tryz.lays145 s sep m w hs hm
end Go.Proofs
namespace Go.Proofs.YtckkfjdkaimmhaaGreatDoor.G
open Go.RowKit Go.Proofs.YtckkfjdkaimmhaaGreatDoorW.PrintWords Go.Proofs.YtckkfjdkaimmhaaGreatDoorW.PrintLast Go.Proofs.YtckkfjdkaimmhaaGreatDoorW.PrintMore
set_option linter.unusedVariables false
set_option linter.unusedSimpArgs false
def K8 (l : List ByteArray) (s : ByteArray) : ByteArray := ⟨(Lib.join (l.map (·.data.toList)) s.data.toList).toArray⟩
def Y0.f (l : List ByteArray) (s : ByteArray) : Option ByteArray := if l.length ≤ 10000000 ∧ (Lib.join (l.map (·.data.toList)) s.data.toList).length ≤ 100000000000000 then some (K8 l s) else none
theorem jEz {w : World} {a : Addr} {v : Value} (h : w.cell? a = some v) : a.spot = none := by
 unfold World.cell? at h
 split at h
 ·split at h
  ·cases h
  rename_i hs
  cases e : a.spot with
  | none => rfl
  | some x => rw [e] at hs; exact absurd rfl hs
 cases h
set_option maxHeartbeats 8000000 in
set_option maxRecDepth 100000 in
theorem Y0.calls (A0 : Option Addr) (c0 : Nat) (l0 : List ByteArray) (a1 : ByteArray) (r : ByteArray) (w : World) (hr0 : Kd.C Kd.string w A0 l0.length l0) (hc0 : l0.length ≤ c0) (h : Y0.f l0 a1 = some r) :
  Calls Tryz.prog 99 #[.slice A0 l0.length c0, .string a1] w fun e w' => e = .returned (.string r) ∧ Below w.heap.size w w' := by
 unfold Y0.f at h
 by_cases hs : l0.length ≤ 10000000 ∧ (Lib.join (l0.map (·.data.toList)) a1.data.toList).length ≤ 100000000000000
 ·rw [if_pos hs] at h
  obtain rfl := Option.some.inj h
  clear h
  obtain ⟨hl, hj⟩ := hs
  have key : Calls Tryz.prog 115 #[.slice A0 l0.length c0, .string a1] w fun e w' => e = .returned (.string (K8 l0 a1)) ∧ Below w.heap.size w w' := by
   cases l0 with
   | nil => exact (Tryz.strings_Join_none A0 c0 a1 w).mono fun e w' ⟨he, hw⟩ => ⟨he, hw ▸ Below.refl _ _⟩
   | cons x xs =>
    obtain ⟨ad, rfl, hx⟩ := Kd.at_string hr0 0 (Int.le_refl 0) (by simp)
    have hsp : ad.spot = none := jEz (a := ad) (by
     have : ad.add (0 : Int).toNat = ad := if_pos rfl
     rwa [this] at hx)
    obtain ⟨b, o, sp⟩ := ad
    cases hsp
    have hcell : ∀ (j : Nat) y, (x :: xs)[j]? = some y → w.cell? ⟨b, o + j, none⟩ = some (.string y) := by
     intro j y hy
     obtain ⟨hjl, rfl⟩ := List.getElem?_eq_some_iff.1 hy
     obtain ⟨ad', e, hx'⟩ := Kd.at_string hr0 (j : Int) (by omega) (by omega)
     cases e
     have e1 : (⟨b, o, none⟩ : Addr).add (j : Int).toNat = ⟨b, o + j, none⟩ := by
      unfold Addr.add
      rw [Int.toNat_natCast]
      split
      ·rename_i h0; subst h0; rfl
      ·rfl
     rw [e1] at hx'
     rw [hx']
     unfold Yr
     rw [Int.toNat_natCast, List.getD_eq_getElem?_getD, hy]
     rfl
    exact Tryz.strings_Join b o c0 (x :: xs) a1 w hcell (World.block_lt_of_cell? w _ (hcell 0 x rfl)) (by omega) hc0 (by omega)
  go_enter Tryz.func99, Tryz.ntmps99
  go_wp2_with (go_at_call 115; refine key.mono ?_; rintro e w1 ⟨rfl, hb1⟩; have HB1 := Qa.mk hb1; clear hb1)
  go_ret
  exact ⟨rfl, HB1.out⟩
 rw [if_neg hs] at h
 cases h
end Go.Proofs.YtckkfjdkaimmhaaGreatDoor.G
namespace Go.Proofs.YtckkfjdkaimmhaaGreatDoor.G
open Go.RowKit Go.Proofs.YtckkfjdkaimmhaaGreatDoorW.PrintWords Go.Proofs.YtckkfjdkaimmhaaGreatDoorW.PrintLast Go.Proofs.YtckkfjdkaimmhaaGreatDoorW.PrintMore
set_option linter.unusedVariables false
set_option linter.unusedSimpArgs false
noncomputable def gOf (n : String) : Nat := (Tryz.prog.globalNamed n).getD 0
def T1 (w : World) : Prop := Lib.TabIs Tryz.prog w "internal/strconv.uint64pow10" .u64 Lib.pow10Tab
def T2 (w : World) : Prop := T1 w ∧ (∃ ev, w.cell? ⟨gOf "strconv.ErrSyntax", 0, none⟩ = some ev ∧ (ev = .nilIface ∨ ∃ te pe, ev = .iface te pe)) ∧ (∃ ev, w.cell? ⟨gOf "strconv.ErrRange", 0, none⟩ = some ev ∧ (ev = .nilIface ∨ ∃ te pe, ev = .iface te pe))
def T3 (w : World) : Prop := T2 w ∧ ∃ m, w.cell? ⟨gOf "internal/bytealg.MaxLen", 0, none⟩ = some (.int .i64 m)
theorem T1.below {w w' : World} (h : T1 w) (hb : Below w.heap.size w w') : T1 w' := Go.Joins.tab_stays (g := gOf "internal/strconv.uint64pow10") (by kernel_rfl) h hb (Nat.le_refl _)
theorem K6 {w w' : World} {g : Nat} {v : Value} (h : w.cell? ⟨g, 0, none⟩ = some v) (hb : Below w.heap.size w w') : w'.cell? ⟨g, 0, none⟩ = some v := (hb.cell (World.block_lt_of_cell? w _ h)).trans h
theorem T2.below {w w' : World} (h : T2 w) (hb : Below w.heap.size w w') : T2 w' := by
 obtain ⟨h1, ⟨e, he, h2⟩, ⟨e', he', h3⟩⟩ := h
 exact ⟨h1.below hb, ⟨e, K6 he hb, h2⟩, ⟨e', K6 he' hb, h3⟩⟩
theorem T3.below {w w' : World} (h : T3 w) (hb : Below w.heap.size w w') : T3 w' := by
 obtain ⟨h1, m, hm⟩ := h
 exact ⟨h1.below hb, m, K6 hm hb⟩
theorem T2.to1 {w : World} (h : T2 w) : T1 w := h.1
theorem T3.to2 {w : World} (h : T3 w) : T2 w := h.1
theorem T3.to1 {w : World} (h : T3 w) : T1 w := h.1.1
def Zl (n : Int) : ByteArray := ⟨(Lib.itoa n).toArray⟩
theorem K3 {n : Int} (h0 : -9223372036854775808 ≤ n) (h1 : n ≤ 9223372036854775807) {w : World} (hT : T1 w) : Calls Tryz.prog 108 #[.int .i64 n] w fun e w' => e = .returned (.string (Zl n)) ∧ Below w.heap.size w w' :=
 (Tryz.strconv_Itoa n h0 h1 w hT).mono fun e w' ⟨he, k, os, hw⟩ => ⟨he, hw ▸ Lib.below_grow _ w (Nat.le_refl _) k os⟩
def Zp.f (n : Int) : Option ByteArray := if -9223372036854775808 ≤ n ∧ n ≤ 9223372036854775807 then some (Zl n) else none
theorem Zp.calls (a0 : Int) (r : ByteArray) (w : World) (h : Zp.f a0 = some r) (hT : T1 w) :
  Calls Tryz.prog 79 #[.int .i64 a0] w fun e w' => e = .returned (.string r) ∧ Below w.heap.size w w' := by
 unfold Zp.f at h
 by_cases hs : -9223372036854775808 ≤ a0 ∧ a0 ≤ 9223372036854775807
 ·rw [if_pos hs] at h
  obtain rfl := Option.some.inj h
  clear h
  go_enter Tryz.func79, Tryz.ntmps79
  go_wp2_with (go_at_call 108; refine (K3 hs.1 hs.2 hT).mono ?_; rintro e w1 ⟨rfl, hb1⟩; have HB1 := Qa.mk hb1; clear hb1)
  go_ret
  exact ⟨rfl, HB1.out⟩
 rw [if_neg hs] at h
 cases h
def Xo.f (s : ByteArray) (least most : Int) : Option (Int × Bool) :=
 if s.size ≤ 281474976710656 then
  match Lib.atoiAll s.data.toList with
  | .ok v => if v < least then some (0, false) else if v > most then some (0, false) else if (Zl v).toList = s.toList then some (v, true) else some (0, false)
  | _ => some (0, false)
 else none
theorem Y6 {w w' : World} {t : TypeId} {s : ByteArray} (h : w' = w ∨ ∃ t', w' = Lib.bytesWorld w t t') : Below w.heap.size w w' := by
 rcases h with rfl | ⟨s, rfl⟩
 ·exact Below.refl _ _
 exact jB0 (Below.refl _ _) (Nat.le_refl _) _ _
theorem jFm {s : ByteArray} (hs : s.size ≤ 281474976710656) (h : ∀ v, Lib.atoiAll s.data.toList ≠ .ok v) {w : World} (hT : T2 w) :
  Calls Tryz.prog 117 #[.string s] w fun e w' => ∃ v t p, e = .returned (.tuple #[.int .i64 v, .iface t p]) ∧ Below w.heap.size w w' := by
 obtain ⟨hT1, ⟨e1, he1, k1⟩, ⟨e2, he2, k2⟩⟩ := hT
 cases ha : Lib.atoiAll s.data.toList
 ·exact absurd ha (h _)
 ·exact (Any.strconv_Atoi_syntax Tryz.laysC172 s hs ha e1 w he1 k1).mono fun e w' ⟨N, he, _, _, hb⟩ => ⟨_, _, _, he, hb⟩
 exact (Any.strconv_Atoi_range Tryz.laysC172 s hs ha e2 w he2 k2).mono fun e w' ⟨N, he, _, _, hb⟩ => ⟨_, _, _, he, hb⟩
theorem Xo.calls (a0 : ByteArray) (a1 : Int) (a2 : Int) (r1 : Int) (r2 : Bool) (w : World) (h : Xo.f a0 a1 a2 = some (r1, r2)) (hT : T2 w) :
  Calls Tryz.prog 105 #[.string a0, .int .i64 a1, .int .i64 a2] w fun e w' => e = .returned (.tuple #[.int .i64 r1, .bool r2]) ∧ Below w.heap.size w w' := by
 unfold Xo.f at h
 by_cases hs : a0.size ≤ 281474976710656
 ·rw [if_pos hs] at h
  by_cases ha' : ∀ v, Lib.atoiAll a0.data.toList ≠ .ok v
  ·have A := jFm hs ha' hT
   have h' : some ((0 : Int), false) = some (r1, r2) := by
    revert h
    cases ha : Lib.atoiAll a0.data.toList
    ·exact absurd ha (ha' _)
    ·exact id
    ·exact id
   simp only [Option.some.injEq, Prod.mk.injEq] at h'
   obtain ⟨rfl, rfl⟩ := h'
   clear h ha'
   go_enter Tryz.func105, Tryz.ntmps105
   go_wp2_with (go_at_call 117; refine A.mono ?_; rintro e w1 ⟨v, t, p, rfl, hb1⟩; have HB1 := Qa.mk hb1; clear hb1)
   go_ret2
   exact ⟨rfl, HB1.out⟩
  obtain ⟨v, ha⟩ : ∃ v, Lib.atoiAll a0.data.toList = .ok v := Classical.byContradiction fun hn => ha' fun v hv => hn ⟨v, hv⟩
  clear ha'
  have hT1 := hT.to1
  rw [ha] at h
  simp only at h
  have vb : -9223372036854775808 ≤ v ∧ v ≤ 9223372036854775807 := Lib.atoiAll_bounds ha
  have A := (Tryz.strconv_Atoi_ok a0 (by omega) v ha w)
  by_cases c1 : v < a1
  ·rw [if_pos c1] at h
   have aD : decide (v < a1) = true := decide_eq_true c1
   simp only [Option.some.injEq, Prod.mk.injEq] at h
   obtain ⟨rfl, rfl⟩ := h
   go_enter Tryz.func105, Tryz.ntmps105
   go_wp2_with (go_at_call 117; refine A.mono ?_; rintro e w1 ⟨rfl, hb1⟩; have HB1 := Qa.mk (Y6 (s := a0) hb1); clear hb1)
   go_ret2
   exact ⟨rfl, HB1.out⟩
  rw [if_neg c1] at h
  have aD : decide (v < a1) = false := decide_eq_false c1
  by_cases c2 : v > a2
  ·rw [if_pos c2] at h
   have aG : decide (a2 < v) = true := decide_eq_true c2
   simp only [Option.some.injEq, Prod.mk.injEq] at h
   obtain ⟨rfl, rfl⟩ := h
   go_enter Tryz.func105, Tryz.ntmps105
   go_wp2_with (go_at_call 117; refine A.mono ?_; rintro e w1 ⟨rfl, hb1⟩; have HB1 := Qa.mk (Y6 (s := a0) hb1); clear hb1)
   go_ret2
   exact ⟨rfl, HB1.out⟩
  rw [if_neg c2] at h
  have aG : decide (a2 < v) = false := decide_eq_false c2
  by_cases c3 : (Zl v).toList = a0.toList
  ·rw [if_pos c3] at h
   have aA := beq_iff_eq.mpr c3
   have aC := bne_eq_false_iff_eq.mpr c3
   simp only [Option.some.injEq, Prod.mk.injEq] at h
   obtain ⟨rfl, rfl⟩ := h
   go_enter Tryz.func105, Tryz.ntmps105
   go_wp2_with (first | (go_at_call 117; refine A.mono ?_; rintro e w1 ⟨rfl, hb1⟩; have HB1 := Qa.mk (Y6 (s := a0) hb1); clear hb1) | (go_at_call 108; refine (K3 vb.1 vb.2 (hT1.below HB1.out)).mono ?_; rintro e w2 ⟨rfl, hb2⟩; have HB2 := Qa.mk (Qk HB1.out hb2); clear hb2))
   go_ret2
   exact ⟨rfl, HB2.out⟩
  rw [if_neg c3] at h
  have aA := beq_eq_false_iff_ne.mpr c3
  have aC := bne_iff_ne.mpr c3
  simp only [Option.some.injEq, Prod.mk.injEq] at h
  obtain ⟨rfl, rfl⟩ := h
  go_enter Tryz.func105, Tryz.ntmps105
  go_wp2_with (first | (go_at_call 117; refine A.mono ?_; rintro e w1 ⟨rfl, hb1⟩; have HB1 := Qa.mk (Y6 (s := a0) hb1); clear hb1) | (go_at_call 108; refine (K3 vb.1 vb.2 (hT1.below HB1.out)).mono ?_; rintro e w2 ⟨rfl, hb2⟩; have HB2 := Qa.mk (Qk HB1.out hb2); clear hb2))
  go_ret2
  exact ⟨rfl, HB2.out⟩
 rw [if_neg hs] at h
 cases h
def strings_Cut.f (s t : ByteArray) : Option (ByteArray × ByteArray × Bool) :=
 if s.size < 4294967281 then some (⟨(Lib.cut s.data.toList t.data.toList).1.toArray⟩, ⟨(Lib.cut s.data.toList t.data.toList).2.1.toArray⟩, (Lib.cut s.data.toList t.data.toList).2.2) else none
theorem strings_Cut.calls (a0 : ByteArray) (a1 : ByteArray) (r1 : ByteArray) (r2 : ByteArray) (r3 : Bool) (w : World) (h : strings_Cut.f a0 a1 = some (r1, r2, r3)) (hT : T3 w) :
  Calls Tryz.prog 86 #[.string a0, .string a1] w fun e w' => e = .returned (.tuple #[.string r1, .string r2, .bool r3]) ∧ Below w.heap.size w w' := by
 unfold strings_Cut.f at h
 by_cases hs : a0.size < 4294967281
 ·rw [if_pos hs] at h
  simp only [Option.some.injEq, Prod.mk.injEq] at h
  obtain ⟨rfl, rfl, rfl⟩ := h
  obtain ⟨_, m, hm⟩ := hT
  refine (Tryz.strings_Cut a0 a1 m w hs hm).mono fun e w' ⟨he, k, hw⟩ => ⟨he, ?_⟩
  subst hw
  exact Lib.below_grow _ w (Nat.le_refl _) k #[]
 rw [if_neg hs] at h
 cases h
end Go.Proofs.YtckkfjdkaimmhaaGreatDoor.G
namespace Go.Proofs.YtckkfjdkaimmhaaGreatDoor.G
open Go.RowKit
set_option linter.unusedVariables false
def l5 : List (String × DataW Unit) := [("math/bits.deBruijn32tab", Rows.laid_math_bits_deBruijn32tab), ("math/bits.deBruijn64tab", Rows.laid_math_bits_deBruijn64tab), ("internal/strconv.uint64pow10", Rows.laid_internal_strconv_uint64pow10), ("strconv.ErrRange", Rows.laid_strconv_ErrRange), ("strconv.ErrSyntax", Rows.laid_strconv_ErrSyntax)]
noncomputable def jJr : Nat := ((Tryz.prog.globals[gOf "internal/strconv.uint64pow10"]?).map (·.type)).getD 0
theorem jHu {r : List (String × DataW Unit)} {W : World} (h : laidMet Tryz.prog (("internal/strconv.uint64pow10", Rows.laid_internal_strconv_uint64pow10) :: r) W) : T1 W :=
 Lib.tabIs_of_head (g := gOf "internal/strconv.uint64pow10") (t := jJr) (e := 140) (n := 20) (by kernel_rfl) (by kernel_rfl) (by kernel_rfl) (by kernel_rfl) (by kernel_rfl) (by kernel_rfl) h
theorem star : "*" ++ "errors.errorString" = "*errors.errorString" := by decide
theorem jJq (u : TypeId) (h : Tryz.prog.typeName? 3 u = some "*errors.errorString") : u = 183 :=
 typeName_ptr_named (nm := "errors.errorString") (by rw [star]; kernel_rfl) (by kernel_rfl) (by decide) u (by rw [star]; exact h)
theorem jGk {n : String} {text : List UInt8} {r : List (String × DataW Unit)} {W : World} (hg : Tryz.prog.globalNamed n = some (gOf n)) (ht : (Tryz.prog.globals[gOf n]?).map (·.type) = some 125)
  (h : laidMet Tryz.prog ((n, .iface "*errors.errorString" (.ptr (.agg [.lit (.string text)]))) :: r) W) : ∃ ev, W.cell? ⟨gOf n, 0, none⟩ = some ev ∧ (ev = .nilIface ∨ ∃ te pe, ev = .iface te pe) := by
 obtain ⟨a, s, hv, _⟩ := laid_sentinel h hg ht Tryz.underlying125 jJq Tryz.underlying183 Tryz.underlying185 rfl rfl Tryz.underlying9 (by kernel_rfl) (by kernel_rfl)
 exact ⟨_, by simpa using World.var?_cell hg hv 0, .inr ⟨_, _, rfl⟩⟩
theorem jF7 {W : World} (h : laidMetH Tryz.prog l5 W) : T1 W := by
 rw [MakeChecks.laidMetH_plain _ _ _ (by kernel_rfl)] at h
 exact jHu h.tail.tail
theorem jFj {W : World} (h : laidMetH Tryz.prog l5 W) : T2 W := by
 refine ⟨jF7 h, ?_, ?_⟩
 ·rw [MakeChecks.laidMetH_plain _ _ _ (by kernel_rfl)] at h
  exact jGk (by kernel_rfl) (by kernel_rfl) h.tail.tail.tail.tail
 ·rw [MakeChecks.laidMetH_plain _ _ _ (by kernel_rfl)] at h
  exact jGk (by kernel_rfl) (by kernel_rfl) h.tail.tail.tail
set_option maxRecDepth 100000 in
theorem jJt (os : Os) (args : Array Value) : laidMetH Tryz.prog l5 ((World.doorLaid Tryz.prog 62 os).forCall (fun _ _ => 0) ⟨#[], args, []⟩).memory :=
 laidMetH_of_parts3 (fuel := 8) (laidMet_of_run' 8 (by kernel_rfl) (by kernel_rfl)) (by kernel_rfl) (by kernel_rfl)
end Go.Proofs.YtckkfjdkaimmhaaGreatDoor.G
namespace Go.Proofs.YtckkfjdkaimmhaaGreatDoor.PX
open Go.RowKit Go.Proofs.YtckkfjdkaimmhaaGreatDoor.G Go.Proofs.YtckkfjdkaimmhaaGreatDoorW.PrintWords Go.Proofs.YtckkfjdkaimmhaaGreatDoorW.PrintLast Go.Proofs.YtckkfjdkaimmhaaGreatDoorW.PrintMore
attribute [local go_sem] max2_int min2_int Yi Yh Z4 Z7 Xk Xn   -- for this text's walks alone
set_option linter.unusedVariables false
set_option linter.unusedSimpArgs false
def jJm : Option Int → Value
 | none => .nilIface
 | some c => .iface 156 (.int .i64 c)
theorem jBr : jJm none = .nilIface := rfl
theorem jBg (c : Int) : jJm (some c) = .iface 156 (.int .i64 c) := rfl
theorem info5 : (Tryz.prog.info? 5).map (fun i => (i.zero, i.size, i.bytes)) = some (some (.int .u8 0), 1, 1) := by kernel_rfl
theorem jDi : (Tryz.prog.info? 9).map (fun i => (i.zero, i.size, i.bytes)) = some (some (.string ⟨#[]⟩), 1, 16) := by kernel_rfl
theorem Yf : (Tryz.prog.info? 48).map (fun i => (i.zero, i.size, i.bytes)) = some (some (.agg #[(.int .i64 0), (.int .i64 0)]), 2, 16) := by kernel_rfl
theorem jIi : (Tryz.prog.info? 77).map (fun i => (i.zero, i.size, i.bytes)) = some (some (.agg #[(.int .i64 0), (.int .i64 0), (.int .i64 0)]), 3, 24) := by kernel_rfl
structure S48 where
 f0 : Int
 f1 : Int
def z48 : S48 := ⟨(0 : Int), (0 : Int)⟩
def k48 : Kd S48 := Kd.iso (Kd.pair (Kd.int .i64) (Kd.int .i64)) (fun x : S48 => (x.f0, x.f1))
theorem jCx {w : World} {x : S48} {cs : List Value} (h : k48.K w x cs) : cs = [.int .i64 x.f0, .int .i64 x.f1] := by
 obtain ⟨_, _, rfl, rfl, rfl⟩ := h
 exact rfl
theorem jBb {w : World} {base : Nat} {ok : Nat → Prop} {x : S48} {cs : List Value} (h : k48.M w base ok x cs) : cs = [.int .i64 x.f0, .int .i64 x.f1] := by
 obtain ⟨_, _, rfl, rfl, rfl⟩ := h
 exact rfl
theorem Z0 (w : World) (base : Nat) (ok : Nat → Prop) (x : S48)  : k48.M w base ok x [.int .i64 x.f0, .int .i64 x.f1] := ⟨[.int .i64 x.f0], [.int .i64 x.f1], rfl, rfl, rfl⟩
def Qb (xs : List S48) (i : Int) : S48 := xs.getD i.toNat z48
theorem Jj {w : World} {A : Option Addr} {n : Nat} {xs : List S48} (h : Kd.C k48 w A n xs) (i : Int) (h0 : 0 ≤ i) (h1 : i < n) : ∃ ad , A = some ad ∧ w.cell? (ad.add (i.toNat * 2)) = some (.int .i64 (Qb xs i).f0) ∧ w.cell? ⟨(ad.add (i.toNat * 2)).block, (ad.add (i.toNat * 2)).off + 1, none⟩ = some (.int .i64 (Qb xs i).f1) := by
 obtain ⟨ad, c, e, _, hK, hc0⟩ := Kd.C_get h z48 i h0 h1
 have hc : ∀ j u, c[j]? = some u → w.cell? (ad.add (i.toNat * 2 + j)) = some u := hc0
 obtain rfl := jCx hK
 exact ⟨ad, e, hc 0 _ rfl, by rw [← Uu _ _ 1 (by omega)]; exact hc 1 _ rfl⟩
structure S77 where
 f0 : Int
 f1 : Int
 f2 : Int
def z77 : S77 := ⟨(0 : Int), (0 : Int), (0 : Int)⟩
def k77 : Kd S77 := Kd.iso (Kd.pair (Kd.int .i64) (Kd.pair (Kd.int .i64) (Kd.int .i64))) (fun x : S77 => (x.f0, x.f1, x.f2))
theorem jFu {w : World} {x : S77} {cs : List Value} (h : k77.K w x cs) : cs = [.int .i64 x.f0, .int .i64 x.f1, .int .i64 x.f2] := by
 obtain ⟨_, _, rfl, rfl, ⟨_, _, rfl, rfl, rfl⟩⟩ := h
 exact rfl
theorem jHi (w : World) (base : Nat) (ok : Nat → Prop) (x : S77)  : k77.M w base ok x [.int .i64 x.f0, .int .i64 x.f1, .int .i64 x.f2] := ⟨[.int .i64 x.f0], [.int .i64 x.f1, .int .i64 x.f2], rfl, rfl, ⟨[.int .i64 x.f1], [.int .i64 x.f2], rfl, rfl, rfl⟩⟩
def Qt (xs : List S77) (i : Int) : S77 := xs.getD i.toNat z77
theorem jGo {w : World} {A : Option Addr} {n : Nat} {xs : List S77} (h : Kd.C k77 w A n xs) (i : Int) (h0 : 0 ≤ i) (h1 : i < n) : ∃ ad , A = some ad ∧ w.cell? (ad.add (i.toNat * 3)) = some (.int .i64 (Qt xs i).f0) ∧ w.cell? ⟨(ad.add (i.toNat * 3)).block, (ad.add (i.toNat * 3)).off + 1, none⟩ = some (.int .i64 (Qt xs i).f1) ∧ w.cell? ⟨(ad.add (i.toNat * 3)).block, (ad.add (i.toNat * 3)).off + 2, none⟩ = some (.int .i64 (Qt xs i).f2) := by
 obtain ⟨ad, c, e, _, hK, hc0⟩ := Kd.C_get h z77 i h0 h1
 have hc : ∀ j u, c[j]? = some u → w.cell? (ad.add (i.toNat * 3 + j)) = some u := hc0
 obtain rfl := jFu hK
 exact ⟨ad, e, hc 0 _ rfl, by rw [← Uu _ _ 1 (by omega)]; exact hc 1 _ rfl, by rw [← Uu _ _ 2 (by omega)]; exact hc 2 _ rfl⟩
end Go.Proofs.YtckkfjdkaimmhaaGreatDoor.PX
namespace Go.Proofs.YtckkfjdkaimmhaaGreatDoor.G
open Go.RowKit Go.Proofs.YtckkfjdkaimmhaaGreatDoorW.PrintWords Go.Proofs.YtckkfjdkaimmhaaGreatDoorW.PrintLast Go.Proofs.YtckkfjdkaimmhaaGreatDoorW.PrintMore Go.Proofs.YtckkfjdkaimmhaaGreatDoor.PX
set_option linter.unusedVariables false
set_option linter.unusedSimpArgs false
def jCu (x most : Int) : Bool := decide (x < wrap64 (-most)) || decide (most < x)
set_option maxHeartbeats 8000000 in
set_option maxRecDepth 100000 in
theorem jEg (most : Int) (B : Nat) (w : World) (x y : Int) (hB : B < w.heap.size) (hc : w.cell? ⟨B, 0, none⟩ = some (.int .i64 most)) :
  Calls Tryz.prog 110 #[.agg #[.int .i64 x, .int .i64 y], .pointer (some ⟨B, 0, none⟩)] w fun e w' => e = .returned (.bool (jCu x most || jCu y most)) ∧ Below w.heap.size w w' := by
 have hu := Tryz.underlying48
 have hne : B ≠ w.heap.size := by omega
 go_enter Tryz.func110, Tryz.ntmps110
 go_wp2
 all_goals (go_ret; exact ⟨by unfold jCu; simp_all; try omega, (Below.refl _ w).alloc (Nat.le_refl _) _⟩)
def Yo (most : Int) (l : List S48) : Nat → Int → Int
 | 0, _ => -1
 | d + 1, i => if (jCu (Qb l i).f0 most || jCu (Qb l i).f1 most) = true then i else Yo most l d (i + 1)
set_option maxHeartbeats 8000000 in
set_option maxRecDepth 100000 in
theorem jDm (most : Int) (B : Nat) (w : World) (A : Option Addr) (c : Nat) (l : List S48) (hB : B < w.heap.size) (hc : w.cell? ⟨B, 0, none⟩ = some (.int .i64 most)) (hr : Kd.C k48 w A l.length l) (hl : l.length ≤ c) :
  Calls Tryz.prog 119 #[.slice A l.length c, .func (.func 110) #[] #[.pointer (some ⟨B, 0, none⟩)]] w fun e w' => e = .returned (.int .i64 (Yo most l l.length 0)) ∧ Below w.heap.size w w' := by
 have hu := Tryz.underlying48
 go_enter Tryz.func119, Tryz.ntmps119
 go_wp2
 have HR := Qa.mk hr
 have HC := Qa.mk hc
 have HB0 := Qa.mk (Below.refl w.heap.size w)
 clear hr hc
 go_loopg [8] (l.length + 1) (fun kq v8 w' => ∃ (i : Nat), v8 = .int .i64 (i : Int) ∧ Qa (i + kq = l.length + 1) ∧ Qa (1 ≤ kq) ∧ Qa (Yo most l (l.length - i) (i : Int) = Yo most l l.length 0) ∧ Qa (Below w.heap.size w w'))
 case atStart => exact ⟨0, rfl, ⟨by omega⟩, ⟨by omega⟩, ⟨rfl⟩, HB0⟩
 case round =>
 obtain ⟨i, rfl, HI, HK, HN, HB⟩ := hrel
 cases gk with
 | zero => exact absurd HK.out (by omega)
 | succ k1 =>
 by_cases g : i < l.length
 ·have g' : decide ((i : Int) < (l.length : Int)) = true := decide_eq_true (by omega)
  obtain ⟨ad, e, hx0, hx1⟩ := Jj (Kd.C_below HR.out HB.out) (i : Int) (by omega) (by omega)
  cases e
  have hcw : wr.cell? ⟨B, 0, none⟩ = some (.int .i64 most) := (HB.out.cell (p := ⟨B, 0, none⟩) hB).trans HC.out
  simp only [Int.toNat_natCast] at hx0 hx1
  have hBw : B < wr.heap.size := Nat.lt_of_lt_of_le hB HB.out.size
  have hp := jEg most B wr (Qb l (i : Int)).f0 (Qb l (i : Int)).f1 hBw hcw
  have hd : l.length - i = (l.length - (i + 1)) + 1 := by omega
  have HN' := HN.out
  rw [hd, Yo] at HN'
  cases hq : (jCu (Qb l (i : Int)).f0 most || jCu (Qb l (i : Int)).f1 most) with
  | true =>
   rw [hq] at hp
   rw [hq, if_pos rfl] at HN'
   have aA := Qa.mk HN'
   clear HN'
   go_wp2_with (go_at_call 110; refine hp.mono ?_; rintro e w1 ⟨rfl, hb1⟩; have HB1 := Qa.mk (HB.out.trans (hb1.mono HB.out.size)))
   go_ret
   exact ⟨by rw [← aA.out]; rfl, HB1.out⟩
  | false =>
  rw [hq] at hp
  rw [hq, if_neg (by decide)] at HN'
  have aA := Qa.mk HN'
  clear HN'
  go_wp2_with (go_at_call 110; refine hp.mono ?_; rintro e w1 ⟨rfl, hb1⟩; have HB1 := Qa.mk (HB.out.trans (hb1.mono HB.out.size)))
  have wrap_i : wrap64 ((i : Int) + 1) = ((i + 1 : Nat) : Int) := by
   have hx := HR.out.2.1
   unfold wrap64
   omega
  go_roundg k1
  case measure => exact Nat.lt_succ_self _
  case rel => exact ⟨i + 1, by rw [wrap_i], ⟨by have := HI.out; omega⟩, ⟨by have := HI.out; omega⟩, aA, HB1⟩
 have g' : decide ((i : Int) < (l.length : Int)) = false := decide_eq_false (by omega)
 have g2 : decide (i < l.length) = false := decide_eq_false g
 have g3 : l.length ≤ i := by omega
 go_wp2
 go_ret
 have e : l.length - i = 0 := by omega
 have HN' := HN.out
 rw [e] at HN'
 exact ⟨by rw [← HN']; rfl, HB.out⟩
set_option maxHeartbeats 8000000 in
set_option maxRecDepth 100000 in
theorem jAm (most : Int) (B : Nat) (w : World) (A : Option Addr) (c : Nat) (l : List S48) (hB : B < w.heap.size) (hc : w.cell? ⟨B, 0, none⟩ = some (.int .i64 most)) (hr : Kd.C k48 w A l.length l) (hl : l.length ≤ c) :
  Calls Tryz.prog 109 #[.slice A l.length c, .func (.func 110) #[] #[.pointer (some ⟨B, 0, none⟩)]] w fun e w' => e = .returned (.bool (decide (0 ≤ Yo most l l.length 0))) ∧ Below w.heap.size w w' := by
 have hi := jDm most B w A c l hB hc hr hl
 generalize Yo most l l.length 0 = v at hi ⊢
 go_enter Tryz.func109, Tryz.ntmps109
 go_wp2_with (go_at_call 119; refine hi.mono ?_; rintro e w1 ⟨rfl, hb1⟩; have HB1 := Qa.mk hb1; clear hb1)
 go_ret
 exact ⟨by first | rfl | simp, HB1.out⟩
def Jy.f (most : Int) (l : List S48) : Option Bool := some (!decide (0 ≤ Yo most l l.length 0))
set_option maxHeartbeats 8000000 in
set_option maxRecDepth 100000 in
theorem Jy.calls (a0 : Int) (A1 : Option Addr) (c1 : Nat) (l1 : List S48) (r : Bool) (w : World) (hr1 : Kd.C k48 w A1 l1.length l1) (hc1 : l1.length ≤ c1) (h : Jy.f a0 l1 = some r) :
  Calls Tryz.prog 81 #[.int .i64 a0, .slice A1 l1.length c1] w fun e w' => e = .returned (.bool r) ∧ Below w.heap.size w w' := by
 obtain rfl := Option.some.inj h
 clear h
 have hcon := fun W h1 h2 h3 => jAm a0 w.heap.size W A1 c1 l1 h1 h2 h3 hc1
 generalize Yo a0 l1 l1.length 0 = v at hcon ⊢
 have HR := Qa.mk hr1
 have HC := Qa.mk hcon
 clear hr1 hcon
 go_enter Tryz.func81, Tryz.ntmps81
 go_wp2_with (go_at_call 109; refine (HC.out _ ?h1 ?h2 ?h3).mono ?_; (case h1 => simp); (case h2 => simp); (case h3 => exact Kd.C_below HR.out ((Below.refl _ w).alloc (Nat.le_refl _) _)); rintro e w1 ⟨rfl, hb1⟩; have HB1 := Qa.mk (((Below.refl w.heap.size w).alloc (Nat.le_refl _) _).trans (hb1.mono (by simp))); clear hb1)
 go_ret
 exact ⟨by first | rfl | simp, HB1.out⟩
end Go.Proofs.YtckkfjdkaimmhaaGreatDoor.G
namespace Go.Proofs.YtckkfjdkaimmhaaGreatDoor.G
open Go.RowKit
set_option linter.unusedVariables false
theorem Ky {H : Type} {enc : TypeId × Value → H} {a : Assume} {C : Checked} {os : Os} {f : FuncId} {fn : Func} {s : ChangeSpec} {conds : List PathCond} {apart fresh handsOn again : Bool} {X : World → Array Value → Prop}
  (hX : ∀ (w w' : World) (args : Array Value), w.heap = w'.heap → X w args → X w' args)
  (own : ownKnob C.prog.godebug = none) (started : os.Started) (noInit : C.prog.inits.idxOf? f = none) (hfn : C.prog.funcs[f]? = some fn)
  (witness : ∃ (w : World) (tape : Tape) (i : Input), w.os = os ∧ (w.forCall tape i).Shaped C.prog ∧ i.vars = [] ∧ Input.okWide C.prog (w.forCall tape i) .any w.heap.size f i ∧
   ((s.pre enc C.prog fn conds apart (w.forCall tape i).memory i.args ∧ X (w.forCall tape i).memory i.args) ∧ sizedMet enc C.prog fn (OpenSpec.ofChange s) apart (w.forCall tape i).memory i.args) ∧ a.holds C.prog (lone (Frame.enter C.prog f i.args .normal) [] (w.forCall tape i)))
  (contract : ∀ (W : World) (base : Nat) (args : Array Value) (ds gs : List (DataW H)) (before : List MemPlace),
   (∀ (j : Nat) t v, fn.params[j]? = some t → args[j]? = some v → Value.okWide C.prog W .any base t v) →
   DataW.Whole enc C.prog fn.params.toList s.vars apart W args.toList ds gs before →
   conds.all (PathCond.test C.prog ⟨fn.params.toList, ds, s.plain.varTypes C.prog, gs⟩) = true →
   (DataW.weightsEach C.prog (fn.params.toList ++ s.plain.varTypes C.prog) (ds ++ gs)).all (· ≤ reachBytes) = true → X W args → W.ShapedOpen C.prog →
   a.holds C.prog (lone (Frame.enter C.prog f args .normal) [] W) →
   Calls C.prog f args W fun e W' => ∃ v, e = .returned v ∧ s.post enc C.prog fn apart fresh handsOn again W args v W') :
  ReturnsInHanded a C os f .any (fun w args => (s.pre enc C.prog fn conds apart w args ∧ X w args) ∧ sizedMet enc C.prog fn (OpenSpec.ofChange s) apart w args) (s.post enc C.prog fn apart fresh handsOn again) := by
 refine returnsInHanded_of_calls own started noInit witness ?_
 intro w tape i _ hsh _ hok hpre hholds
 obtain ⟨_, _, _, fn', hfn', _, _, _, _, hval⟩ := hok
 have e : fn' = fn := Option.some.inj (hfn'.symm.trans hfn)
 subst e
 obtain ⟨⟨⟨ds, gs, before, hw, hc⟩, hx⟩, hz⟩ := hpre
 have hw' := DataW.Whole.of_heap (w' := w.forCall tape i) (by rfl) hw
 refine (contract (w.forCall tape i) w.heap.size i.args ds gs before hval hw' hc (hz.weights hw) (hX _ _ _ (by rfl) hx) hsh hholds).mono fun e W' ⟨v, he, hp⟩ => ?_
 subst he
 exact ChangeSpec.post_blind hp
theorem jF6 {W : World} (h : laidMetH Tryz.prog l5 W) (hsh : W.ShapedOpen Tryz.prog) : T3 W :=
 ⟨jFj h, Go.Proofs.cell_of_shapedOpen_int (t := 3) (zero := #[.int .i64 0]) hsh (of_decide_eq_true (by kernel_rfl)) (by kernel_rfl) rfl (by kernel_rfl) (by kernel_rfl) Tryz.underlying3⟩
end Go.Proofs.YtckkfjdkaimmhaaGreatDoor.G
namespace Go.Proofs
open Go.Shelf
def Tryz.sortPt_ren : Go.Shelf.Ren := ⟨fun | 6 => 92 | 15 => 113 | 14 => 112 | 28 => 129 | 29 => 130 | 20 => 121 | 21 => 122 | 22 => 123 | 23 => 124 | 24 => 125 | 25 => 126 | 26 => 127 | 27 => 128 | 46 => 141 | 47 => 142 | 48 => 143 | 49 => 144 | 50 => 145 | 57 => 159 | n => n, fun | 22 => 28 | 24 => 48 | 25 => 106 | 3 => 3 | 39 => 121 | 0 => 0 | 53 => 138 | 55 => 140 | 4 => 4 | 46 => 132 | 45 => 131 | 50 => 95 | 5 => 5 | 9 => 9 | 66 => 149 | 70 => 153 | 76 => 168 | 77 => 169 | n => n, fun | n => n⟩
theorem Tryz.sortPt : Go.Proofs.SlLaysF0.n6 Tryz.prog Tryz.sortPt_ren := {
 mixed := by kernel_rfl
 f6 := ⟨Tryz.f92.name, by decide, Tryz.func92.trans (congrArg some (by kernel_rfl))⟩
 f14 := ⟨Tryz.f112.name, by decide, Tryz.func112.trans (congrArg some (by kernel_rfl))⟩
 f15 := Tryz.func113.trans (congrArg some (by kernel_rfl))
 f20 := ⟨Tryz.f121.name, by decide, Tryz.func121.trans (congrArg some (by kernel_rfl))⟩
 f21 := ⟨Tryz.f122.name, by decide, Tryz.func122.trans (congrArg some (by kernel_rfl))⟩
 f22 := ⟨Tryz.f123.name, by decide, Tryz.func123.trans (congrArg some (by kernel_rfl))⟩
 f23 := ⟨Tryz.f124.name, by decide, Tryz.func124.trans (congrArg some (by kernel_rfl))⟩
 f24 := ⟨Tryz.f125.name, by decide, Tryz.func125.trans (congrArg some (by kernel_rfl))⟩
 f25 := ⟨Tryz.f126.name, by decide, Tryz.func126.trans (congrArg some (by kernel_rfl))⟩
 f26 := ⟨Tryz.f127.name, by decide, Tryz.func127.trans (congrArg some (by kernel_rfl))⟩
 f27 := ⟨Tryz.f128.name, by decide, Tryz.func128.trans (congrArg some (by kernel_rfl))⟩
 f28 := Tryz.func129.trans (congrArg some (by kernel_rfl))
 f29 := Tryz.func130.trans (congrArg some (by kernel_rfl))
 f46 := ⟨Tryz.f141.name, by decide, Tryz.func141.trans (congrArg some (by kernel_rfl))⟩
 f47 := Tryz.func142.trans (congrArg some (by kernel_rfl))
 f48 := Tryz.func143.trans (congrArg some (by kernel_rfl))
 f49 := ⟨Tryz.f144.name, by decide, Tryz.func144.trans (congrArg some (by kernel_rfl))⟩
 f50 := ⟨Tryz.f145.name, by decide, Tryz.func145.trans (congrArg some (by kernel_rfl))⟩
 f57 := ⟨Tryz.f159.name, by decide, Tryz.func159.trans (congrArg some (by kernel_rfl))⟩
 t0 := Tryz.underlying0
 a0 := Tryz.isAgg0
 z0 := Tryz.sizeOf0
 v0 := Tryz.zeroValue0
 t3 := Tryz.underlying3
 a3 := Tryz.isAgg3
 z3 := Tryz.sizeOf3
 v3 := Tryz.zeroValue3
 t4 := Tryz.underlying4
 a4 := Tryz.isAgg4
 z4 := Tryz.sizeOf4
 v4 := Tryz.zeroValue4
 t5 := Tryz.underlying5
 a5 := Tryz.isAgg5
 z5 := Tryz.sizeOf5
 v5 := Tryz.zeroValue5
 t9 := Tryz.underlying9
 a9 := Tryz.isAgg9
 z9 := Tryz.sizeOf9
 v9 := Tryz.zeroValue9
 t22 := Tryz.underlying28
 a22 := Tryz.isAgg28
 z22 := Tryz.sizeOf28
 v22 := Tryz.zeroValue28
 t25 := Tryz.underlying106
 a25 := Tryz.isAgg106
 z25 := Tryz.sizeOf106
 v25 := Tryz.zeroValue106
 t39 := Tryz.underlying121
 a39 := Tryz.isAgg121
 z39 := Tryz.sizeOf121
 v39 := Tryz.zeroValue121
 t45 := Tryz.underlying131
 a45 := Tryz.isAgg131
 z45 := Tryz.sizeOf131
 v45 := Tryz.zeroValue131
 t46 := Tryz.underlying132
 a46 := Tryz.isAgg132
 z46 := Tryz.sizeOf132
 v46 := Tryz.zeroValue132
 t50 := Tryz.underlying95
 a50 := Tryz.isAgg95
 z50 := Tryz.sizeOf95
 v50 := Tryz.zeroValue95
 t53 := Tryz.underlying138
 a53 := Tryz.isAgg138
 z53 := Tryz.sizeOf138
 v53 := Tryz.zeroValue138
 t55 := Tryz.underlying140
 a55 := Tryz.isAgg140
 z55 := Tryz.sizeOf140
 v55 := Tryz.zeroValue140
 t66 := Tryz.underlying149
 a66 := Tryz.isAgg149
 z66 := Tryz.sizeOf149
 v66 := Tryz.zeroValue149
 t70 := Tryz.underlying153
 a70 := Tryz.isAgg153
 z70 := Tryz.sizeOf153
 v70 := Tryz.zeroValue153
 t76 := Tryz.underlying168
 a76 := Tryz.isAgg168
 z76 := Tryz.sizeOf168
 v76 := Tryz.zeroValue168
 t77 := Tryz.underlying169
 a77 := Tryz.isAgg169
 z77 := Tryz.sizeOf169
 v77 := Tryz.zeroValue169 }
def Tryz.clonePt_ren : Go.Shelf.Ren := ⟨fun | 41 => 91 | n => n, fun | 22 => 28 | 23 => 48 | 4 => 4 | n => n, fun | n => n⟩
theorem Tryz.clonePt : Go.Proofs.SlLaysE0.n41 Tryz.prog Tryz.clonePt_ren := {
 mixed := by kernel_rfl
 f41 := ⟨Tryz.f91.name, by decide, Tryz.func91.trans (congrArg some (by kernel_rfl))⟩
 t4 := Tryz.underlying4
 a4 := Tryz.isAgg4
 z4 := Tryz.sizeOf4
 v4 := Tryz.zeroValue4
 t22 := Tryz.underlying28
 a22 := Tryz.isAgg28
 z22 := Tryz.sizeOf28
 v22 := Tryz.zeroValue28 }
def Tryz.bitsLen_ren : Go.Shelf.Ren := ⟨fun | 125 => 113 | 128 => 129 | 129 => 130 | n => n, fun | 46 => 121 | 3 => 3 | 51 => 138 | 53 => 140 | 4 => 4 | 5 => 5 | 9 => 9 | n => n, fun | n => n⟩
theorem Tryz.bitsLen : Go.Proofs.Lays.n125 Tryz.prog Tryz.bitsLen_ren := {
 mixed := by kernel_rfl
 f125 := Tryz.func113.trans (congrArg some (by kernel_rfl))
 f128 := Tryz.func129.trans (congrArg some (by kernel_rfl))
 f129 := Tryz.func130.trans (congrArg some (by kernel_rfl))
 t3 := Tryz.underlying3
 a3 := Tryz.isAgg3
 z3 := Tryz.sizeOf3
 v3 := Tryz.zeroValue3
 t4 := Tryz.underlying4
 a4 := Tryz.isAgg4
 z4 := Tryz.sizeOf4
 v4 := Tryz.zeroValue4
 t5 := Tryz.underlying5
 a5 := Tryz.isAgg5
 z5 := Tryz.sizeOf5
 v5 := Tryz.zeroValue5
 t9 := Tryz.underlying9
 a9 := Tryz.isAgg9
 z9 := Tryz.sizeOf9
 v9 := Tryz.zeroValue9
 t46 := Tryz.underlying121
 a46 := Tryz.isAgg121
 z46 := Tryz.sizeOf121
 v46 := Tryz.zeroValue121
 t51 := Tryz.underlying138
 a51 := Tryz.isAgg138
 z51 := Tryz.sizeOf138
 v51 := Tryz.zeroValue138
 t53 := Tryz.underlying140
 a53 := Tryz.isAgg140
 z53 := Tryz.sizeOf140
 v53 := Tryz.zeroValue140 }
end Go.Proofs
namespace Go.Proofs.YtckkfjdkaimmhaaGreatDoor.PX
open Go.RowKit Go.Proofs.YtckkfjdkaimmhaaGreatDoor.G Go.Proofs.YtckkfjdkaimmhaaGreatDoorW.PrintWords Go.Proofs.YtckkfjdkaimmhaaGreatDoorW.PrintLast Go.Proofs.YtckkfjdkaimmhaaGreatDoorW.PrintMore
attribute [local go_sem] max2_int min2_int Yi Yh Z4 Z7 Xk Xn   -- for this text's walks alone
set_option linter.unusedVariables false
set_option linter.unusedSimpArgs false
def Zk.l0 : Nat → Int → List Int → Int → Int → Option (Int)
 | 0, _, _, _, _ => none
 | k + 1, x3, x6, x7, x8 => if x8 < x7 then (if 0 ≤ x8 then (if x8 < (x6.length : Int) then (if (rd x6 x8) = x3 then (Zk.l0 k x3 x6 x7 (wrap64 (x8 + 1))) else (some (rd x6 x8))) else (none)) else (none)) else (some x3)
def Zk.f (k : Nat) (l0 : List Int) : Option (Int) := Zk.l0 k 0 l0 (l0.length : Int) 0
set_option maxHeartbeats 8000000 in
set_option maxRecDepth 100000 in
theorem Zk.calls (k : Nat) (A0 : Option Addr) (c0 : Nat) (l0 : List Int) (r : Int) (w : World) (hr0 : Kd.C (Kd.int .i64) w A0 l0.length l0) (hc0 : l0.length ≤ c0) (h : Zk.f k l0 = some r) :
  Calls Tryz.prog 94 #[.slice A0 l0.length c0] w fun e w' => e = .returned (.int .i64 r) ∧ Jc w w' := by
 have aN := Qa.mk hr0
 have aV := Qa.mk hc0
 clear hr0 hc0
 have H := h
 unfold Zk.f at H
 clear h
 have H' := Qa.mk H; clear H
 go_enter Tryz.func94, Tryz.ntmps94
 go_wp2
 go_loopg [8] k (fun kq v8 w' => ∃ (aD : Int), v8 = .int .i64 aD ∧ Qa (Zk.l0 kq 0 l0 (l0.length : Int) aD = some r) ∧ Qa (kq ≤ k) ∧ Jc w w')
 case atStart => exact ⟨(0), zF, H', ⟨Nat.le_refl _⟩, by repeat (first | exact Jc.refl _ | apply Jc.step)⟩
 case round =>
 clear H'
 obtain ⟨aD, rfl, HA, aQ, ⟨m1, rfl⟩⟩ := hrel
 cases gk with
 | zero => exact absurd HA.out (by simp [Zk.l0])
 | succ k1 =>
 have H := HA.out
 clear HA
 simp only [Zk.l0] at H
 replace H := Xg H
 rcases H with ⟨aJ, H⟩ | ⟨aJ, H⟩
 ·replace H := J9 H
  rcases H with ⟨aT, H⟩ | ⟨c3, H⟩
  ·replace H := J9 H
   rcases H with ⟨aU, H⟩ | ⟨c4, H⟩
   ·replace H := Zb H
    rcases H with ⟨aK, aM, H⟩ | ⟨c5, aK, aM, H⟩
    ·have H' := Qa.mk H; clear H
     have aA : 0 ≤ (aD : Int) := zA
     have aC : aD < (l0.length : Int) := zA
     obtain ⟨aI, aG, aH⟩ := Kd.at_int aN.out aD aA aC
     cases aG
     replace aA := eq_true aA
     replace aC := eq_true aC
     go_wp2
     go_roundg k1
     case measure => have := aQ.out; omega
     case rel => exact ⟨(wrap64 (aD + 1)), zF, H', ⟨by have := aQ.out; omega⟩, by repeat (first | exact Jc.refl _ | apply Jc.step)⟩
    obtain rfl := Option.some.inj H
    have aA : 0 ≤ (aD : Int) := zA
    have aC : aD < (l0.length : Int) := zA
    obtain ⟨aI, aG, aH⟩ := Kd.at_int aN.out aD aA aC
    cases aG
    replace aA := eq_true aA
    replace aC := eq_true aC
    go_wp2
    go_ret
    exact ⟨by first | rfl | (simp; done) | (simp [*]; done), by repeat (first | exact Jc.refl _ | apply Jc.step)⟩
   exact absurd H (by simp)
  exact absurd H (by simp)
 obtain rfl := Option.some.inj H
 go_wp2
 go_ret
 exact ⟨by first | rfl | (simp; done) | (simp [*]; done), by repeat (first | exact Jc.refl _ | apply Jc.step)⟩
def cmp_isNaN_int.f (a0 : Int) : Option (Bool) := some (a0 != a0)
set_option maxHeartbeats 8000000 in
set_option maxRecDepth 100000 in
theorem cmp_isNaN_int.calls (a0 : Int) (r : Bool) (w : World) (h : cmp_isNaN_int.f a0 = some r) :
  Calls Tryz.prog 114 #[.int .i64 a0] w fun e w' => e = .returned (.bool r) ∧ Jc w w' := by
 have H := h
 unfold cmp_isNaN_int.f at H
 clear h
 obtain rfl := Option.some.inj H
 go_enter Tryz.func114, Tryz.ntmps114
 go_wp2
 go_ret
 exact ⟨by first | rfl | (simp; done) | (simp [*]; done), by repeat (first | exact Jc.refl _ | apply Jc.step)⟩
def cmp_Compare_int.f (a0 : Int) (a1 : Int) : Option (Int) := (cmp_isNaN_int.f a0).bind fun aC => ((cmp_isNaN_int.f a1).bind fun aA => (if aC = true then (if aA = true then (some 0) else (some (-1))) else (if aA = true then (some 1) else (if a0 < a1 then (some (-1)) else (if a0 > a1 then (some 1) else (some 0))))))
set_option maxHeartbeats 8000000 in
set_option maxRecDepth 100000 in
theorem cmp_Compare_int.calls (a0 : Int) (a1 : Int) (r : Int) (w : World) (h : cmp_Compare_int.f a0 a1 = some r) :
  Calls Tryz.prog 95 #[.int .i64 a0, .int .i64 a1] w fun e w' => e = .returned (.int .i64 r) ∧ Jc w w' := by
 have H := h
 unfold cmp_Compare_int.f at H
 clear h
 obtain ⟨aC, A3, H⟩ := zO H
 obtain ⟨aA, A4, H⟩ := zO H
 by_cases c5 : aC = true
 ·subst c5
  replace H := (if_pos rfl).symm.trans H
  by_cases c6 : aA = true
  ·subst c6
   replace H := (if_pos rfl).symm.trans H
   obtain rfl := Option.some.inj H
   go_enter Tryz.func95, Tryz.ntmps95
   go_wp2_with (first | ((with_reducible refine Qd (f := 114) rfl ?_); refine zD (some 8) Tryz.func114 _ ((cmp_isNaN_int.calls a0 true _ A3.out).mono ?_); rintro e w' ⟨rfl, ⟨nd, rfl⟩⟩; refine ⟨_, rfl, ?_⟩) | ((with_reducible refine Qd (f := 114) rfl ?_); refine zD (some 10) Tryz.func114 _ ((cmp_isNaN_int.calls a1 true _ A4.out).mono ?_); rintro e w' ⟨rfl, ⟨nd, rfl⟩⟩; refine ⟨_, rfl, ?_⟩))
   go_ret
   exact ⟨by first | rfl | (simp; done) | (simp [*]; done), by repeat (first | exact Jc.refl _ | apply Jc.step)⟩
  replace c6 := Bool.eq_false_iff.mpr c6
  subst c6
  replace H := (if_neg zFf).symm.trans H
  obtain rfl := Option.some.inj H
  go_enter Tryz.func95, Tryz.ntmps95
  go_wp2_with (first | ((with_reducible refine Qd (f := 114) rfl ?_); refine zD (some 8) Tryz.func114 _ ((cmp_isNaN_int.calls a0 true _ A3.out).mono ?_); rintro e w' ⟨rfl, ⟨nd, rfl⟩⟩; refine ⟨_, rfl, ?_⟩) | ((with_reducible refine Qd (f := 114) rfl ?_); refine zD (some 10) Tryz.func114 _ ((cmp_isNaN_int.calls a1 false _ A4.out).mono ?_); rintro e w' ⟨rfl, ⟨nd, rfl⟩⟩; refine ⟨_, rfl, ?_⟩))
  go_ret
  exact ⟨by first | rfl | (simp; done) | (simp [*]; done), by repeat (first | exact Jc.refl _ | apply Jc.step)⟩
 replace c5 := Bool.eq_false_iff.mpr c5
 subst c5
 replace H := (if_neg zFf).symm.trans H
 by_cases c7 : aA = true
 ·subst c7
  replace H := (if_pos rfl).symm.trans H
  obtain rfl := Option.some.inj H
  go_enter Tryz.func95, Tryz.ntmps95
  go_wp2_with (first | ((with_reducible refine Qd (f := 114) rfl ?_); refine zD (some 8) Tryz.func114 _ ((cmp_isNaN_int.calls a0 false _ A3.out).mono ?_); rintro e w' ⟨rfl, ⟨nd, rfl⟩⟩; refine ⟨_, rfl, ?_⟩) | ((with_reducible refine Qd (f := 114) rfl ?_); refine zD (some 10) Tryz.func114 _ ((cmp_isNaN_int.calls a1 true _ A4.out).mono ?_); rintro e w' ⟨rfl, ⟨nd, rfl⟩⟩; refine ⟨_, rfl, ?_⟩))
  go_ret
  exact ⟨by first | rfl | (simp; done) | (simp [*]; done), by repeat (first | exact Jc.refl _ | apply Jc.step)⟩
 replace c7 := Bool.eq_false_iff.mpr c7
 subst c7
 replace H := (if_neg zFf).symm.trans H
 replace H := Xg H
 rcases H with ⟨aD, H⟩ | ⟨aD, H⟩
 ·obtain rfl := Option.some.inj H
  go_enter Tryz.func95, Tryz.ntmps95
  go_wp2_with (first | ((with_reducible refine Qd (f := 114) rfl ?_); refine zD (some 8) Tryz.func114 _ ((cmp_isNaN_int.calls a0 false _ A3.out).mono ?_); rintro e w' ⟨rfl, ⟨nd, rfl⟩⟩; refine ⟨_, rfl, ?_⟩) | ((with_reducible refine Qd (f := 114) rfl ?_); refine zD (some 10) Tryz.func114 _ ((cmp_isNaN_int.calls a1 false _ A4.out).mono ?_); rintro e w' ⟨rfl, ⟨nd, rfl⟩⟩; refine ⟨_, rfl, ?_⟩))
  go_ret
  exact ⟨by first | rfl | (simp; done) | (simp [*]; done), by repeat (first | exact Jc.refl _ | apply Jc.step)⟩
 replace H := Z8 H
 rcases H with ⟨c9, H⟩ | ⟨c9, H⟩
 ·have aG : decide (a1 < a0) = true := decide_eq_true c9
  clear c9
  obtain rfl := Option.some.inj H
  go_enter Tryz.func95, Tryz.ntmps95
  go_wp2_with (first | ((with_reducible refine Qd (f := 114) rfl ?_); refine zD (some 8) Tryz.func114 _ ((cmp_isNaN_int.calls a0 false _ A3.out).mono ?_); rintro e w' ⟨rfl, ⟨nd, rfl⟩⟩; refine ⟨_, rfl, ?_⟩) | ((with_reducible refine Qd (f := 114) rfl ?_); refine zD (some 10) Tryz.func114 _ ((cmp_isNaN_int.calls a1 false _ A4.out).mono ?_); rintro e w' ⟨rfl, ⟨nd, rfl⟩⟩; refine ⟨_, rfl, ?_⟩))
  go_ret
  exact ⟨by first | rfl | (simp; done) | (simp [*]; done), by repeat (first | exact Jc.refl _ | apply Jc.step)⟩
 have aG : decide (a1 < a0) = false := decide_eq_false c9
 clear c9
 obtain rfl := Option.some.inj H
 go_enter Tryz.func95, Tryz.ntmps95
 go_wp2_with (first | ((with_reducible refine Qd (f := 114) rfl ?_); refine zD (some 8) Tryz.func114 _ ((cmp_isNaN_int.calls a0 false _ A3.out).mono ?_); rintro e w' ⟨rfl, ⟨nd, rfl⟩⟩; refine ⟨_, rfl, ?_⟩) | ((with_reducible refine Qd (f := 114) rfl ?_); refine zD (some 10) Tryz.func114 _ ((cmp_isNaN_int.calls a1 false _ A4.out).mono ?_); rintro e w' ⟨rfl, ⟨nd, rfl⟩⟩; refine ⟨_, rfl, ?_⟩))
 go_ret
 exact ⟨by first | rfl | (simp; done) | (simp [*]; done), by repeat (first | exact Jc.refl _ | apply Jc.step)⟩
def Jk.f (k : Nat) (aG : Int) (aH : Int) (aI : Int) (aJ : Int) : Option (Int) := (cmp_Compare_int.f aG aI).bind fun aA => ((cmp_Compare_int.f aH aJ).bind fun aC => ((Zk.f k (([aA, aC] : List Int))).bind fun aD => (some aD)))
def Jk.T1 : Bool × List (List Nat × List Nat) := (true, [([], []), ([0], [0]), ([], []), ([2], [2]), ([1, 3], [1, 3]), ([], []), ([5], [5]), ([], []), ([7], [7]), ([6, 8, 4], [6, 8]), ([4, 9], [4, 9]), ([10, 9], [10]), ([11, 11, 0, 1, 2, 3, 4, 5, 6, 7, 8, 9, 10, 11], [11])])
def Jk.B1 : List Nat := [0, 1, 0, 4, 15, 0, 32, 0, 128, 511, 1023, 2047, 4095]
theorem Jk.tab1 : Vj .any (opsOf Tryz.f93 1) = Jk.T1 := by kernel_rfl
theorem Jk.bits1 : Z5 Jk.T1.2 Jk.B1 = true := by kernel_rfl
set_option maxHeartbeats 8000000 in
set_option maxRecDepth 100000 in
theorem Jk.calls (k : Nat) (aK : Int) (aM : Int) (aN : Int) (aQ : Int) (r : Int) (w : World) (h : Jk.f k aK aM aN aQ = some r) :
  Calls Tryz.prog 93 #[.agg #[.int .i64 aK, .int .i64 aM], .agg #[.int .i64 aN, .int .i64 aQ]] w fun e w' => e = .returned (.int .i64 r) ∧ Below w.heap.size w w' ∧ w.drawn ≤ w'.drawn := by
 have bM := Tryz.underlying48
 have HB := Qa.mk (Below.refl w.heap.size w)
 have HDr := Qa.mk (Nat.le_refl w.drawn)
 have H := h
 unfold Jk.f at H
 clear h
 obtain ⟨aG, A3, H⟩ := zO H
 obtain ⟨aH, A4, H⟩ := zO H
 generalize aT : (([aG, aH] : List Int) : List Int) = aY at H
 have aU := Qa.mk aT.symm
 clear aT
 obtain ⟨bB, A5, H⟩ := zO H
 obtain rfl := Option.some.inj H
 go_enter Tryz.func93, Tryz.ntmps93
 try go_wp2_with (first | ((with_reducible refine Qo (N := 2) rfl ?_); refine Wt ?hg (N := 2) ?hd (cs := #[.int .i64 aK, .int .i64 aM]) (t := 48) ?hr ?_; (case hd => rfl); (case hg => rfl); (case hr => first | (go_simp; done) | (go_simp; rfl)); intro aV hg w6 hbox hb hdr; replace HDr := Qa.mk (jB4 (by repeat (first | exact HDr.out | apply Uk | apply Ut)) hdr); clear hdr; have aA := Qa.mk (hbox); have bF := zS hg; have aD := zS hg; replace HB := zX hb; clear hb hbox hg) | ((with_reducible refine Qo (N := 3) rfl ?_); refine Wt ?hg (N := 3) ?hd (cs := #[.int .i64 aN, .int .i64 aQ]) (t := 48) ?hr ?_; (case hd => rfl); (case hg => rfl); (case hr => first | (go_simp; done) | (go_simp; rfl)); intro aW hg w7 hbox hb hdr; replace HDr := Qa.mk (jB4 (by repeat (first | exact HDr.out | apply Uk | apply Ut)) hdr); clear hdr; have aC := Qa.mk (hbox); have bG := zSg hg (zG aD.out); have aI := zSg hg (zG aD.out); have aZ := zL hg aA.out; have bA := zLg hg aA.out; replace aA := zV aA.out hb; replace HB := zX1 aD.out hb; clear hb hbox hg))
 replace aA := Qa.mk (Q8 aA.out)
 replace aC := Qa.mk (Q8 aC.out)
 replace HB := Qa.mk (Qp HB.out)
 refine Zy (n := 13) (S := fun w' => w'.cell? ⟨aV, 0, none⟩ = some (.int .i64 aK) ∧ w'.cell? ⟨aV, 1, none⟩ = some (.int .i64 aM) ∧ w'.cell? ⟨aW, 0, none⟩ = some (.int .i64 aN) ∧ w'.cell? ⟨aW, 1, none⟩ = some (.int .i64 aQ)) (ds := []) #[false, false, false, false, false, false, false, false, false, false, false, false, false] (by kernel_rfl) rfl rfl ⟨(Qn aA.out 0).trans rfl, (Qn aA.out 1).trans rfl, (Qn aC.out 0).trans rfl, (Qn aC.out 1).trans rfl⟩ (fun hHeld => ?_); refine Jr Jk.tab1 Jk.bits1 (fun HT_ HW_ => ?_)
 replace HDr := Qa.mk (Ut HDr.out)
 generalize w7.drew = w8 at aA aC HB HDr hHeld ⊢
 refine zP 0 (some 5) rfl rfl ?_
 refine zP 2 (some 7) rfl rfl ?_
 refine zP 5 (some 10) rfl rfl ?_
 refine zP 7 (some 12) rfl rfl ?_
 refine zY4 1 (some 6) rfl rfl hHeld ?_
 refine zY4 3 (some 8) rfl rfl hHeld ?_
 refine zY4 6 (some 11) rfl rfl hHeld ?_
 refine zY4 8 (some 13) rfl rfl hHeld ?_
 refine zU 4 (some 9) rfl rfl (fun K hK => ?_)
 refine Xq Tryz.func95 (by kernel_rfl) rfl #[.int .i64 aK, .int .i64 aN] (by rfl) rfl rfl zM ?_
 with_reducible refine (cmp_Compare_int.calls aK aN aG _ A3.out).mono ?_
 rintro e w' ⟨rfl, ⟨nd, rfl⟩⟩
 refine ⟨_, rfl, ?_⟩
 refine hK.out _ _ (zh aA.out (zh2 aC.out)) (fun hHeld => ?_)
 clear hK K
 refine zN ?_
 refine zU 9 (some 14) rfl rfl (fun K hK => ?_)
 refine Xq Tryz.func95 (by kernel_rfl) rfl #[.int .i64 aM, .int .i64 aQ] (by rfl) rfl rfl zM ?_
 with_reducible refine (cmp_Compare_int.calls aM aQ aH _ A4.out).mono ?_
 rintro e w' ⟨rfl, ⟨nd, rfl⟩⟩
 refine ⟨_, rfl, ?_⟩
 refine hK.out _ _ (zh aA.out (zh2 aC.out)) (fun hHeld => ?_)
 clear hK K
 refine zN ?_
 refine zU 10 (some 15) rfl rfl (fun K hK => ?_)
 refine jBz (Kd.int .i64) _ 3 ?hg (N := 15) ?hd (xs := ([aG, aH] : List Int)) (inner := [.int .i64 aG, .int .i64 aH]) (ok := fun _ => True) (okp := fun _ => True) ?hr ?hp (fun _ hk => hk) trivial (Below.refl _ _) (Nat.le_refl _) (by simp) ?_; (case hd => rfl); (case hg => rfl); (case hr => first | (go_simp; done) | (go_simp; rfl)); (case hp => exact (J6.one (show Kd.M (Kd.int .i64) _ _ _ aG [.int .i64 aG] from rfl) (J6.one (show Kd.M (Kd.int .i64) _ _ _ aH [.int .i64 aH] from rfl) (J6.none _ _))))
 intro bJ w9 aX hb hg_ hnew_ hdr
 replace HDr := Qa.mk (jB4 (by repeat (first | exact HDr.out | apply Uk | apply Ut)) hdr)
 clear hdr
 clear hg_ hnew_
 (first | rw [← aU.out] at aX | (simp only [Int.reduceToNat] at aX; rw [← aU.out] at aX))
 have aJ := Qa.mk (Kd.R_lower aX (Ql (zG2 aD.out aI.out)))
 replace aA := zV aA.out hb
 replace aC := zV aC.out hb
 replace HB := Qa.mk (Qk (zG2 aD.out aI.out) hb)
 clear hb aX
 obtain ⟨bH, bI, bC⟩ := Kd.R_slice aJ.out
 (first | subst bC | (injection bC with bK bN bL; have bO := bK.symm; have bP := bL.symm; clear bK bN bL; subst bO; subst bP))
 refine hK.out _ _ (zh aA.out (zh2 aC.out)) (fun hHeld => ?_)
 clear hK K
 refine zN ?_
 refine zU 11 (some 16) rfl rfl (fun K hK => ?_)
 refine Xq Tryz.func94 (by kernel_rfl) rfl #[.slice bH aY.length bI] (by rfl) rfl rfl zM ?_
 with_reducible refine (Zk.calls k _ _ aY bB _ ?bD ?bE A5.out).mono ?_
 (case bD => exact zc ((Kd.R_reads' aJ.out).2.2))
 (case bE => exact (Kd.R_reads' aJ.out).2.1)
 rintro e w' ⟨rfl, ⟨nd, rfl⟩⟩
 refine ⟨_, rfl, ?_⟩
 refine hK.out _ _ (zh aA.out (zh2 aC.out)) (fun hHeld => ?_)
 clear hK K
 refine zN ?_
 refine zP 12 (some 4) rfl rfl ?_
 refine Ya (Zj HT_.out (by kernel_rfl)) ?_
 try go_wp2
 go_ret
 exact ⟨zE, zG2 aD.out aI.out, (by repeat (first | exact HDr.out | apply Uk | apply Ut))⟩
def Xv.f (a0 : Int) : Option (Int) := (cmp_Compare_int.f a0 0).bind fun aA => (some aA)
set_option maxHeartbeats 8000000 in
set_option maxRecDepth 100000 in
theorem Xv.calls (a0 : Int) (r : Int) (w : World) (h : Xv.f a0 = some r) :
  Calls Tryz.prog 82 #[.int .i64 a0] w fun e w' => e = .returned (.int .i64 r) ∧ Jc w w' := by
 have H := h
 unfold Xv.f at H
 clear h
 obtain ⟨aA, A2, H⟩ := zO H
 obtain rfl := Option.some.inj H
 go_enter Tryz.func82, Tryz.ntmps82
 go_wp2_with (first | ((with_reducible refine Qd (f := 95) rfl ?_); refine zD (some 4) Tryz.func95 _ ((cmp_Compare_int.calls a0 0 aA _ A2.out).mono ?_); rintro e w' ⟨rfl, ⟨nd, rfl⟩⟩; refine ⟨_, rfl, ?_⟩))
 go_ret
 exact ⟨by first | rfl | (simp; done) | (simp [*]; done), by repeat (first | exact Jc.refl _ | apply Jc.step)⟩
def Xb.f (aA : Int) (aC : Int) (aD : Int) (aG : Int) (aH : Int) (aI : Int) : Option (Int) := some (wrap64 ((wrap64 ((wrap64 (aD - aA)) * (wrap64 (aI - aC)))) - (wrap64 ((wrap64 (aG - aC)) * (wrap64 (aH - aA))))))
set_option maxHeartbeats 8000000 in
set_option maxRecDepth 100000 in
theorem Xb.calls (aQ : Int) (aT : Int) (aU : Int) (aV : Int) (aW : Int) (aX : Int) (r : Int) (w : World) (h : Xb.f aQ aT aU aV aW aX = some r) :
  Calls Tryz.prog 83 #[.agg #[.int .i64 aQ, .int .i64 aT], .agg #[.int .i64 aU, .int .i64 aV], .agg #[.int .i64 aW, .int .i64 aX]] w fun e w' => e = .returned (.int .i64 r) ∧ Below w.heap.size w w' := by
 have bU := Tryz.underlying48
 have HB := Qa.mk (Below.refl w.heap.size w)
 have H := h
 unfold Xb.f at H
 clear h
 obtain rfl := Option.some.inj H
 go_enter Tryz.func83, Tryz.ntmps83
 go_wp2_with (first | ((with_reducible refine Qo (N := 3) rfl ?_); refine zBx (N := 3) #[.int .i64 aQ, .int .i64 aT] 48 ?_; intro bM hg w4 hbox hb; have aA := Qa.mk (hbox); have bN := zS hg; have aC := zS hg; replace HB := zX hb; clear hb hbox hg) | ((with_reducible refine Qo (N := 4) rfl ?_); refine zBx (N := 4) #[.int .i64 aU, .int .i64 aV] 48 ?_; intro bO hg w5 hbox hb; have aD := Qa.mk (hbox); have bP := zSg hg (zG aC.out); have aG := zSg hg (zG aC.out); have aH := zL hg aA.out; have aI := zLg hg aA.out; replace aA := zV aA.out hb; replace HB := zX1 aC.out hb; clear hb hbox hg) | ((with_reducible refine Qo (N := 5) rfl ?_); refine zBx (N := 5) #[.int .i64 aW, .int .i64 aX] 48 ?_; intro bQ hg w6 hbox hb; have aY := Qa.mk (hbox); have bR := zSg hg (zG2 aC.out aG.out); have aZ := zSg hg (zG2 aC.out aG.out); have aJ := zL hg aA.out; have aK := zLg hg aA.out; replace aA := zV aA.out hb; have aM := zL hg aD.out; have aN := zLg hg aD.out; replace aD := zV aD.out hb; replace HB := Qa.mk (Qk (zG2 aC.out aG.out) hb); clear hb hbox hg; have bV := aI.out; have bW := aH.out; have bX := aM.out; have bY := aN.out; obtain ⟨bI, bJ, bK, bL⟩ := zq2 aD.out; have bS := aJ.out; have bT := aK.out; obtain ⟨bA, bB, bC, bD⟩ := zq2 aA.out; obtain ⟨bE, bF, bG, bH⟩ := zq2 aY.out))
 go_ret
 exact ⟨zE, zG3 aC.out aG.out aZ.out⟩
def Jo.f (aA : Int) (aC : Int) (aD : Int) (aG : Int) (aH : Int) (aI : Int) : Option (Int) := (Jy.f 1000 (([(⟨aA, aC⟩ : S48), (⟨aD, aG⟩ : S48), (⟨aH, aI⟩ : S48)] : List (S48)))).bind fun aJ => (if aJ = true then ((Xb.f aA aC aD aG aH aI).bind fun aK => ((Xv.f aK).bind fun aM => (some aM))) else (some 0))
set_option maxHeartbeats 8000000 in
set_option maxRecDepth 100000 in
theorem Jo.calls (aJ : Int) (aK : Int) (aM : Int) (aN : Int) (aQ : Int) (aT : Int) (r : Int) (w : World) (h : Jo.f aJ aK aM aN aQ aT = some r) :
  Calls Tryz.prog 28 #[.agg #[.int .i64 aJ, .int .i64 aK], .agg #[.int .i64 aM, .int .i64 aN], .agg #[.int .i64 aQ, .int .i64 aT]] w fun e w' => e = .returned (.int .i64 r) ∧ Below w.heap.size w w' := by
 have fF := Tryz.underlying48
 have HB := Qa.mk (Below.refl w.heap.size w)
 have H := h
 unfold Jo.f at H
 clear h
 generalize bK : (([(⟨aJ, aK⟩ : S48), (⟨aM, aN⟩ : S48), (⟨aQ, aT⟩ : S48)] : List (S48)) : List (S48)) = bJ at H
 have bB := Qa.mk bK.symm
 clear bK
 obtain ⟨dW, A4, H⟩ := zO H
 by_cases c5 : dW = true
 ·subst c5
  replace H := (if_pos rfl).symm.trans H
  obtain ⟨bL, A6, H⟩ := zO H
  obtain ⟨dX, A7, H⟩ := zO H
  obtain rfl := Option.some.inj H
  go_enter Tryz.func28, Tryz.ntmps28
  go_wp2_with (first | ((with_reducible refine Qo (N := 3) rfl ?_); refine zBx (N := 3) #[.int .i64 aJ, .int .i64 aK] 48 ?_; intro bC hg w8 hbox hb; have aA := Qa.mk (hbox); have bM := zS hg; have aD := zS hg; replace HB := zX hb; clear hb hbox hg) | ((with_reducible refine Qo (N := 4) rfl ?_); refine zBx (N := 4) #[.int .i64 aM, .int .i64 aN] 48 ?_; intro bD hg w9 hbox hb; have aC := Qa.mk (hbox); have bN := zSg hg (zG aD.out); have aG := zSg hg (zG aD.out); have aV := zL hg aA.out; have aW := zLg hg aA.out; replace aA := zV aA.out hb; replace HB := zX1 aD.out hb; clear hb hbox hg) | ((with_reducible refine Qo (N := 5) rfl ?_); refine zBx (N := 5) #[.int .i64 aQ, .int .i64 aT] 48 ?_; intro bE hg fG hbox hb; have aH := Qa.mk (hbox); have bO := zSg hg (zG2 aD.out aG.out); have aU := zSg hg (zG2 aD.out aG.out); have aX := zL hg aA.out; have aY := zLg hg aA.out; replace aA := zV aA.out hb; have aZ := zL hg aC.out; have bA := zLg hg aC.out; replace aC := zV aC.out hb; replace HB := Qa.mk (Qk (zG2 aD.out aG.out) hb); clear hb hbox hg; have eO := aV.out; have eP := aW.out; have eQ := aX.out; have eU := aY.out; obtain ⟨bP, bQ, bR, bS⟩ := zq2 aA.out; have eX := aZ.out; have eY := bA.out; obtain ⟨bT, bU, bV, bW⟩ := zq2 aC.out; obtain ⟨bX, bY, bZ, cB⟩ := zq2 aH.out) | ((with_reducible refine Qo (N := 10) rfl ?_); refine Kd.R_lit k48 _ 48 ?hg (N := 10) ?hd (xs := ([(⟨aJ, aK⟩ : S48), (⟨aM, aN⟩ : S48), (⟨aQ, aT⟩ : S48)] : List (S48))) (inner := [.int .i64 aJ, .int .i64 aK, .int .i64 aM, .int .i64 aN, .int .i64 aQ, .int .i64 aT]) (ok := fun _ => True) (okp := fun _ => True) ?hr ?hp (fun _ hk => hk) trivial (Below.refl _ _) (Nat.le_refl _) (by simp) ?_; (case hd => rfl); (case hg => rfl); (case hr => first | (go_simp; done) | (go_simp; rfl)); (case hp => exact (J6.c2 (show Kd.M k48 _ _ _ (⟨aJ, aK⟩ : S48) [.int .i64 aJ, .int .i64 aK] from (Z0 _ _ _ (⟨aJ, aK⟩ : S48) )) (J6.c2 (show Kd.M k48 _ _ _ (⟨aM, aN⟩ : S48) [.int .i64 aM, .int .i64 aN] from (Z0 _ _ _ (⟨aM, aN⟩ : S48) )) (J6.c2 (show Kd.M k48 _ _ _ (⟨aQ, aT⟩ : S48) [.int .i64 aQ, .int .i64 aT] from (Z0 _ _ _ (⟨aQ, aT⟩ : S48) )) (J6.none _ _))))); intro dY fH bF hb hg_ hnew_; clear hg_ hnew_; (first | rw [← bB.out] at bF | (simp only [Int.reduceToNat] at bF; rw [← bB.out] at bF)); have aI := Qa.mk (Kd.R_lower (Kd.R_newB (Kd.R_newB (Kd.R_newB bF (g := bC) (o := .cells #[.int .i64 aJ, .int .i64 aK] 48 (0, 0)) (zK aA.out)) (g := bD) (o := .cells #[.int .i64 aM, .int .i64 aN] 48 (0, 0)) (zK aC.out)) (g := bE) (o := .cells #[.int .i64 aQ, .int .i64 aT] 48 (0, 0)) (zK aH.out)) (Ql (zG3 aD.out aG.out aU.out))); replace aA := zV aA.out hb; replace aC := zV aC.out hb; replace aH := zV aH.out hb; replace HB := Qa.mk (Qk (zG3 aD.out aG.out aU.out) hb); clear hb bF; obtain ⟨dZ, eB, eD⟩ := Kd.R_slice aI.out; subst eD) | ((with_reducible refine Qd (f := 81) rfl ?_); refine zD (some 11) Tryz.func81 #[.int .i64 1000, .slice dZ bJ.length eB] ((Jy.calls 1000 _ _ bJ true _ ?bG ?bH A4.out).mono ?_); (case bG => exact zc ((Kd.R_reads' aI.out).2.2)); (case bH => exact (Kd.R_reads' aI.out).2.1); rintro e fI ⟨rfl, hb⟩; refine ⟨_, rfl, ?_⟩; replace aI := zW aI.out hb; replace aA := zV aA.out hb; replace aC := zV aC.out hb; replace aH := zV aH.out hb; replace HB := Qa.mk (Qk (zG3 aD.out aG.out aU.out) hb); (try clear hb); obtain ⟨cK, cO, cZ, dA⟩ := zq2 aA.out; obtain ⟨dB, dC, dD, dE⟩ := zq2 aC.out; obtain ⟨dF, dG, dH, dI⟩ := zq2 aH.out) | ((with_reducible refine Qd (f := 83) rfl ?_); refine zD (some 16) Tryz.func83 _ ((Xb.calls aJ aK aM aN aQ aT bL _ A6.out).mono ?_); rintro e fJ ⟨rfl, hb⟩; refine ⟨_, rfl, ?_⟩; replace aI := zW aI.out hb; replace aA := zV aA.out hb; replace aC := zV aC.out hb; replace aH := zV aH.out hb; replace HB := Qa.mk (Qk (zG3 aD.out aG.out aU.out) hb); (try clear hb)) | ((with_reducible refine Qd (f := 82) rfl ?_); refine zD (some 17) Tryz.func82 _ ((Xv.calls bL dX _ A7.out).mono ?_); rintro e w' ⟨rfl, ⟨nd, rfl⟩⟩; refine ⟨_, rfl, ?_⟩))
  go_ret
  exact ⟨zE, zG3 aD.out aG.out aU.out⟩
 replace c5 := Bool.eq_false_iff.mpr c5
 subst c5
 replace H := (if_neg zFf).symm.trans H
 obtain rfl := Option.some.inj H
 go_enter Tryz.func28, Tryz.ntmps28
 go_wp2_with (first | ((with_reducible refine Qo (N := 3) rfl ?_); refine zBx (N := 3) #[.int .i64 aJ, .int .i64 aK] 48 ?_; intro bC hg fK hbox hb; have aA := Qa.mk (hbox); have bM := zS hg; have aD := zS hg; replace HB := zX hb; clear hb hbox hg) | ((with_reducible refine Qo (N := 4) rfl ?_); refine zBx (N := 4) #[.int .i64 aM, .int .i64 aN] 48 ?_; intro bD hg fM hbox hb; have aC := Qa.mk (hbox); have bN := zSg hg (zG aD.out); have aG := zSg hg (zG aD.out); have aV := zL hg aA.out; have aW := zLg hg aA.out; replace aA := zV aA.out hb; replace HB := zX1 aD.out hb; clear hb hbox hg) | ((with_reducible refine Qo (N := 5) rfl ?_); refine zBx (N := 5) #[.int .i64 aQ, .int .i64 aT] 48 ?_; intro bE hg fO hbox hb; have aH := Qa.mk (hbox); have bO := zSg hg (zG2 aD.out aG.out); have aU := zSg hg (zG2 aD.out aG.out); have aX := zL hg aA.out; have aY := zLg hg aA.out; replace aA := zV aA.out hb; have aZ := zL hg aC.out; have bA := zLg hg aC.out; replace aC := zV aC.out hb; replace HB := Qa.mk (Qk (zG2 aD.out aG.out) hb); clear hb hbox hg; have eZ := aV.out; have fA := aW.out; have fB := aX.out; have fC := aY.out; obtain ⟨dJ, dK, dL, dM⟩ := zq2 aA.out; have fD := aZ.out; have fE := bA.out; obtain ⟨dN, dO, dP, dQ⟩ := zq2 aC.out; obtain ⟨dR, dS, dU, dV⟩ := zq2 aH.out) | ((with_reducible refine Qo (N := 10) rfl ?_); refine Kd.R_lit k48 _ 48 ?hg (N := 10) ?hd (xs := ([(⟨aJ, aK⟩ : S48), (⟨aM, aN⟩ : S48), (⟨aQ, aT⟩ : S48)] : List (S48))) (inner := [.int .i64 aJ, .int .i64 aK, .int .i64 aM, .int .i64 aN, .int .i64 aQ, .int .i64 aT]) (ok := fun _ => True) (okp := fun _ => True) ?hr ?hp (fun _ hk => hk) trivial (Below.refl _ _) (Nat.le_refl _) (by simp) ?_; (case hd => rfl); (case hg => rfl); (case hr => first | (go_simp; done) | (go_simp; rfl)); (case hp => exact (J6.c2 (show Kd.M k48 _ _ _ (⟨aJ, aK⟩ : S48) [.int .i64 aJ, .int .i64 aK] from (Z0 _ _ _ (⟨aJ, aK⟩ : S48) )) (J6.c2 (show Kd.M k48 _ _ _ (⟨aM, aN⟩ : S48) [.int .i64 aM, .int .i64 aN] from (Z0 _ _ _ (⟨aM, aN⟩ : S48) )) (J6.c2 (show Kd.M k48 _ _ _ (⟨aQ, aT⟩ : S48) [.int .i64 aQ, .int .i64 aT] from (Z0 _ _ _ (⟨aQ, aT⟩ : S48) )) (J6.none _ _))))); intro dY fP bI hb hg_ hnew_; clear hg_ hnew_; (first | rw [← bB.out] at bI | (simp only [Int.reduceToNat] at bI; rw [← bB.out] at bI)); have aI := Qa.mk (Kd.R_lower (Kd.R_newB (Kd.R_newB (Kd.R_newB bI (g := bC) (o := .cells #[.int .i64 aJ, .int .i64 aK] 48 (0, 0)) (zK aA.out)) (g := bD) (o := .cells #[.int .i64 aM, .int .i64 aN] 48 (0, 0)) (zK aC.out)) (g := bE) (o := .cells #[.int .i64 aQ, .int .i64 aT] 48 (0, 0)) (zK aH.out)) (Ql (zG3 aD.out aG.out aU.out))); replace aA := zV aA.out hb; replace aC := zV aC.out hb; replace aH := zV aH.out hb; replace HB := Qa.mk (Qk (zG3 aD.out aG.out aU.out) hb); clear hb bI; obtain ⟨eF, eG, eH⟩ := Kd.R_slice aI.out; subst eH) | ((with_reducible refine Qd (f := 81) rfl ?_); refine zD (some 11) Tryz.func81 #[.int .i64 1000, .slice eF bJ.length eG] ((Jy.calls 1000 _ _ bJ false _ ?bG ?bH A4.out).mono ?_); (case bG => exact zc ((Kd.R_reads' aI.out).2.2)); (case bH => exact (Kd.R_reads' aI.out).2.1); rintro e fQ ⟨rfl, hb⟩; refine ⟨_, rfl, ?_⟩; replace aI := zW aI.out hb; replace aA := zV aA.out hb; replace aC := zV aC.out hb; replace aH := zV aH.out hb; replace HB := Qa.mk (Qk (zG3 aD.out aG.out aU.out) hb); (try clear hb)))
 go_ret
 exact ⟨zE, zG3 aD.out aG.out aU.out⟩
mutual
def Qi.l0 : Nat → Int → List (S77) → Int → Option ((List (S77)))
 | 0, _, _, _ => none
 | k + 1, x0, x3, x4 => if x4 < x0 then (Qi.l1 k x0 x3 x4 (wrap64 (x4 + 1))) else (some x3)
def Qi.l1 : Nat → Int → List (S77) → Int → Int → Option ((List (S77)))
 | 0, _, _, _, _ => none
 | k + 1, x0, x3, x4, x5 => if x5 < x0 then (Qi.l2 k x0 x3 x4 x5 (wrap64 (x5 + 1))) else (Qi.l0 k x0 x3 (wrap64 (x4 + 1)))
def Qi.l2 : Nat → Int → List (S77) → Int → Int → Int → Option ((List (S77)))
 | 0, _, _, _, _, _ => none
 | k + 1, x0, x3, x4, x5, x6 => if x6 < x0 then (if x3.length < 5864062014805 then (Qi.l2 k x0 (x3 ++ [(⟨x4, x5, x6⟩ : S77)]) x4 x5 (wrap64 (x6 + 1))) else (none)) else (Qi.l1 k x0 x3 x4 (wrap64 (x5 + 1)))
end
def Qi.f (k : Nat) (a0 : Int) : Option ((List (S77))) := Qi.l0 k a0 ([] : List (S77)) 0
theorem Qi.mono_l : ∀ k, (∀ y0 y1 y2, LeO (Qi.l0 k y0 y1 y2) (Qi.l0 (k + 1) y0 y1 y2)) ∧ (∀ y0 y1 y2 y3, LeO (Qi.l1 k y0 y1 y2 y3) (Qi.l1 (k + 1) y0 y1 y2 y3)) ∧ (∀ y0 y1 y2 y3 y4, LeO (Qi.l2 k y0 y1 y2 y3 y4) (Qi.l2 (k + 1) y0 y1 y2 y3 y4))
 | 0 => ⟨fun _ _ _ r h => by simp [Qi.l0] at h, fun _ _ _ _ r h => by simp [Qi.l1] at h, fun _ _ _ _ _ r h => by simp [Qi.l2] at h⟩
 | k + 1 => by
  obtain ⟨aA, ih1, ih2⟩ := Qi.mono_l k
  refine ⟨?_, ?_, ?_⟩ <;> intros <;> (first | unfold Qi.l0 | unfold Qi.l1 | unfold Qi.l2) <;> repeat' first
  | (with_reducible first | exact aA .. | exact ih1 .. | exact ih2 .. | exact LeO.refl _ | exact LeO.none _ | refine LeO.ite ?_ ?_ | refine LeO.bind ?_ (fun _ => ?_))
  | exact aA .. | exact ih1 .. | exact ih2 .. | exact LeO.none _ | refine LeO.ite ?_ ?_ | refine LeO.bind ?_ (fun _ => ?_)
theorem Qi.mono : ∀ a0 k, LeO (Qi.f k a0) (Qi.f (k + 1) a0) := by
 intro a0 k
 obtain ⟨aA, ih1, ih2⟩ := Qi.mono_l k
 unfold Qi.f
 repeat' first
   | (with_reducible first | exact aA .. | exact ih1 .. | exact ih2 .. | exact LeO.refl _ | exact LeO.none _ | refine LeO.ite ?_ ?_ | refine LeO.bind ?_ (fun _ => ?_))
   | exact aA .. | exact ih1 .. | exact ih2 .. | exact LeO.none _ | refine LeO.ite ?_ ?_ | refine LeO.bind ?_ (fun _ => ?_)
set_option maxHeartbeats 8000000 in
set_option maxRecDepth 100000 in
theorem Qi.calls (k : Nat) (a0 : Int) (r : List (S77)) (w : World) (h : Qi.f k a0 = some r) :
  Calls Tryz.prog 55 #[.int .i64 a0] w fun e w' => ∃ bA : Value, e = .returned (bA) ∧ Kd.R k77 77 w' w.heap.size (fun _ => True) bA r ∧ Below w.heap.size w w' := by
 have bB := Tryz.underlying77
 have HB := Qa.mk (Below.refl w.heap.size w)
 have H := h
 unfold Qi.f at H
 clear h
 have H' := Qa.mk H; clear H
 go_enter Tryz.func55, Tryz.ntmps55
 go_wp2
 go_loopg [3, 4] k (fun kq v3 v4 w' => ∃ (aJ : List (S77)) (aA : Int), v4 = .int .i64 aA ∧ Qa (Qi.l0 kq a0 aJ aA = some r) ∧ Qa (kq ≤ k) ∧ Qa (Kd.R k77 77 w' w.heap.size (fun _ => True) v3 aJ) ∧ Qa (Below w.heap.size w w'))
 case atStart => exact ⟨(([] : List (S77))), (0), zF, H', ⟨Nat.le_refl _⟩, ⟨by first | exact Kd.R_nil _ _ _ _ _ | exact Kd.N_nil _ _ _ _ _ | exact Kd.V_nil _ _ _ _ _ | exact Kd.Q_nil _ _ _ _ _ | exact Kd.S_nil _ _ _ _ _⟩, ⟨zB⟩⟩
 case round =>
 clear H'
 obtain ⟨aJ, aA, rfl, HA, aN, aD, HB⟩ := hrel
 cases gk with
 | zero => exact absurd HA.out (by simp [Qi.l0])
 | succ k1 =>
 have H := HA.out
 clear HA
 simp only [Qi.l0] at H
 replace H := Xg H
 rcases H with ⟨aM, H⟩ | ⟨aM, H⟩
 ·have H' := Qa.mk H; clear H
  go_wp2
  go_loopg [3, 5] k1 (fun kq v3 v5 w' => ∃ (aI : List (S77)) (aC : Int), v5 = .int .i64 aC ∧ Qa (Qi.l1 kq a0 aI aA aC = some r) ∧ Qa (kq ≤ k1) ∧ Qa (Kd.R k77 77 w' w.heap.size (fun _ => True) v3 aI) ∧ Qa (Below w.heap.size w w'))
  case atStart => exact ⟨(aJ), (wrap64 (aA + 1)), zF, H', ⟨Nat.le_refl _⟩, ⟨zR aD.out⟩, ⟨zB⟩⟩
  case round =>
  clear H'
  try clear c2
  try clear aM
  obtain ⟨aI, aC, rfl, HA, aQ, aD, HB⟩ := hrel
  cases gk with
  | zero => exact absurd HA.out (by simp [Qi.l1])
  | succ k2 =>
  have H := HA.out
  clear HA
  simp only [Qi.l1] at H
  replace H := Xg H
  rcases H with ⟨aT, H⟩ | ⟨aT, H⟩
  ·have H' := Qa.mk H; clear H
   go_wp2
   go_loopg [3, 6] k2 (fun kq v3 v6 w' => ∃ (aH : List (S77)) (aG : Int), v6 = .int .i64 aG ∧ Qa (Qi.l2 kq a0 aH aA aC aG = some r) ∧ Qa (kq ≤ k2) ∧ Qa (Kd.R k77 77 w' w.heap.size (fun _ => True) v3 aH) ∧ Qa (Below w.heap.size w w'))
   case atStart => exact ⟨(aI), (wrap64 (aC + 1)), zF, H', ⟨Nat.le_refl _⟩, ⟨zR aD.out⟩, ⟨zB⟩⟩
   case round =>
   clear H'
   try clear c2
   try clear aM
   try clear c3
   try clear aT
   obtain ⟨aH, aG, rfl, HA, aW, aD, HB⟩ := hrel
   cases gk with
   | zero => exact absurd HA.out (by simp [Qi.l2])
   | succ k3 =>
   have H := HA.out
   clear HA
   simp only [Qi.l2] at H
   replace H := Xg H
   rcases H with ⟨aX, H⟩ | ⟨aX, H⟩
   ·replace H := Z8 H
    rcases H with ⟨c5, H⟩ | ⟨c5, H⟩
    ·have aY := Qa.mk c5
     clear c5
     generalize aK : (aH ++ [(⟨aA, aC, aG⟩ : S77)] : List (S77)) = aZ at H
     have aU := Qa.mk aK.symm
     clear aK
     have H' := Qa.mk H; clear H
     go_wp2_with (first | ((with_reducible refine J5 (b := .append) (xs := #[.tmp 26, .tmp 31]) rfl ?_); at_builtin; refine Kd.R_append k77 (w0 := w) w.heap.size rfl (.tmp 26) (.tmp 31) 75 77 (.agg #[(.int .i64 0), (.int .i64 0), (.int .i64 0)]) 24 rfl Tryz.underlying75 jIi rfl (by decide) (by omega) u3 aH (⟨aA, aC, aG⟩ : S77) [.int .i64 aA, .int .i64 aC, .int .i64 aG] (fun _ => True) (fun _ => False) rfl rfl ?aP (fun _ hk => hk.elim) ?aF ?aO ?aB ?aS ?aL ?_; (case aP => exact jHi _ _ _ (⟨aA, aC, aG⟩ : S77)); (case aB => exact zB); (case aF => exact (fun _ _ => trivial)); (case aO => exact (zR aD.out)); (case aS => exact (Ql zB)); (case aL => have := aY.out; omega); intro bC w6 ho hb hg hat; rw [← aU.out] at ho; have aV := Qa.mk (ho); replace HB := Qa.mk (hb); clear aD; clear ho hb hg hat))
     go_roundg k3
     case measure => have := aN.out; have := aQ.out; have := aW.out; omega
     case rel => exact ⟨(aZ), (wrap64 (aG + 1)), zF, H', ⟨by have := aN.out; have := aQ.out; have := aW.out; omega⟩, ⟨zR aV.out⟩, ⟨zB⟩⟩
    exact absurd H (by simp)
   have H' := Qa.mk H; clear H
   go_wp2
   go_roundg k3
   case measure => have := aN.out; have := aQ.out; have := aW.out; omega
   case rel => exact ⟨(aH), (wrap64 (aC + 1)), zF, H', ⟨by have := aN.out; have := aQ.out; have := aW.out; omega⟩, ⟨zR aD.out⟩, ⟨zB⟩⟩
  have H' := Qa.mk H; clear H
  go_wp2
  go_roundg k2
  case measure => have := aN.out; have := aQ.out; omega
  case rel => exact ⟨(aI), (wrap64 (aA + 1)), zF, H', ⟨by have := aN.out; have := aQ.out; omega⟩, ⟨zR aD.out⟩, ⟨zB⟩⟩
 obtain rfl := Option.some.inj H
 go_wp2
 go_ret
 exact ⟨_, zE, zR aD.out, zB⟩
mutual
def Qf.j0 : Nat → List (S48) → Bool → Option (Bool)
 | 0, _, _ => none
 | k + 1, x0, aC => if aC = true then (some false) else ((Qi.f k (x0.length : Int)).bind fun aA => (Qf.l0 k x0 aA (aA.length : Int) 0))
def Qf.l0 : Nat → List (S48) → List (S77) → Int → Int → Option (Bool)
 | 0, _, _, _, _ => none
 | k + 1, x0, x20, aD, aA => if aA < aD then (if 0 ≤ aA then (if aA < (x20.length : Int) then (if 0 ≤ ((Qt x20 aA).f0) then (if ((Qt x20 aA).f0) < (x0.length : Int) then (if 0 ≤ ((Qt x20 aA).f1) then (if ((Qt x20 aA).f1) < (x0.length : Int) then (if 0 ≤ ((Qt x20 aA).f2) then (if ((Qt x20 aA).f2) < (x0.length : Int) then ((Jo.f ((Qb x0 ((Qt x20 aA).f0)).f0) ((Qb x0 ((Qt x20 aA).f0)).f1) ((Qb x0 ((Qt x20 aA).f1)).f0) ((Qb x0 ((Qt x20 aA).f1)).f1) ((Qb x0 ((Qt x20 aA).f2)).f0) ((Qb x0 ((Qt x20 aA).f2)).f1)).bind fun aC => (if aC = 0 then (some false) else (Qf.l0 k x0 x20 aD (wrap64 (aA + 1))))) else (none)) else (none)) else (none)) else (none)) else (none)) else (none)) else (none)) else (none)) else (some true)
end
def Qf.f (k : Nat) (l0 : List (S48)) : Option (Bool) := if (l0.length : Int) < 3 then (Qf.j0 k l0 true) else (if (l0.length : Int) > 7 then (Qf.j0 k l0 true) else ((Jy.f 50 l0).bind fun aA => (Qf.j0 k l0 (!aA))))
theorem Qf.mono_l : ∀ k, (∀ y0 y1, LeO (Qf.j0 k y0 y1) (Qf.j0 (k + 1) y0 y1)) ∧ (∀ y0 y1 y2 y3, LeO (Qf.l0 k y0 y1 y2 y3) (Qf.l0 (k + 1) y0 y1 y2 y3))
 | 0 => ⟨fun _ _ r h => by simp [Qf.j0] at h, fun _ _ _ _ r h => by simp [Qf.l0] at h⟩
 | k + 1 => by
  obtain ⟨aA, ih1⟩ := Qf.mono_l k
  refine ⟨?_, ?_⟩ <;> intros <;> (first | unfold Qf.j0 | unfold Qf.l0) <;> repeat' first
  | (with_reducible first | exact aA .. | exact ih1 .. | exact Qi.mono .. | exact LeO.refl _ | exact LeO.none _ | refine LeO.ite ?_ ?_ | refine LeO.bind ?_ (fun _ => ?_))
  | exact aA .. | exact ih1 .. | exact Qi.mono .. | exact LeO.none _ | refine LeO.ite ?_ ?_ | refine LeO.bind ?_ (fun _ => ?_)
theorem Qf.mono : ∀ a0 k, LeO (Qf.f k a0) (Qf.f (k + 1) a0) := by
 intro a0 k
 obtain ⟨aA, ih1⟩ := Qf.mono_l k
 unfold Qf.f
 repeat' first
   | (with_reducible first | exact aA .. | exact ih1 .. | exact Qi.mono .. | exact LeO.refl _ | exact LeO.none _ | refine LeO.ite ?_ ?_ | refine LeO.bind ?_ (fun _ => ?_))
   | exact aA .. | exact ih1 .. | exact Qi.mono .. | exact LeO.none _ | refine LeO.ite ?_ ?_ | refine LeO.bind ?_ (fun _ => ?_)
def Qf.T6 : Bool × List (List Nat × List Nat) := (true, [([], []), ([], []), ([1], [1]), ([0, 2], [0, 2]), ([3], [3]), ([], []), ([], []), ([6], [6]), ([5, 7], [5, 7]), ([8], [8]), ([], []), ([], []), ([11], [11]), ([10, 12], [10, 12]), ([13], [13]), ([4, 9, 14], [4, 9, 14]), ([15], [15])])
def Qf.B6 : List Nat := [0, 0, 2, 7, 15, 0, 0, 64, 224, 480, 0, 0, 2048, 7168, 15360, 32767, 65535]
theorem Qf.tab6 : Vj .any (opsOf Tryz.f45 6) = Qf.T6 := by kernel_rfl
theorem Qf.bits6 : Z5 Qf.T6.2 Qf.B6 = true := by kernel_rfl
set_option maxHeartbeats 8000000 in
set_option maxRecDepth 100000 in
theorem Qf.calls (k : Nat) (A0 : Option Addr) (c0 : Nat) (l0 : List (S48)) (r : Bool) (w : World) (hr0 : Kd.C k48 w A0 l0.length l0) (hc0 : l0.length ≤ c0) (h : Qf.f k l0 = some r) :
  Calls Tryz.prog 45 #[.slice A0 l0.length c0] w fun e w' => e = .returned (.bool r) ∧ Below w.heap.size w w' := by
 have eX := Tryz.underlying77
 have eY := Tryz.underlying48
 have bS := Qa.mk hr0
 have eZ := Qa.mk hc0
 clear hr0 hc0
 have HB := Qa.mk (Below.refl w.heap.size w)
 have H := h
 unfold Qf.f at H
 clear h
 have dQ := Qa.mk H
 clear H
 go_enter Tryz.func45, Tryz.ntmps45
 go_upto_region 1 with (fail)
 go_cut [17] (fun v17 wc => ∃ (kq : Nat) (bJ : Bool), v17 = .bool bJ ∧ Qa (Qf.j0 kq l0 bJ = some r) ∧ Qa (kq ≤ k) ∧ Qa (Below w.heap.size w wc))
 case first =>
  have H := dQ.out
  clear dQ
  replace H := jCd H
  rcases H with ⟨c3, bK, H⟩ | ⟨c3, bK, H⟩
  ·have dR : decide (l0.length < 3) = true := decide_eq_true (by omega)
   clear c3
   (first | rw [bK] | (simp only [Zd, Zf]; rw [bK]) | skip)
   have H' := Qa.mk H; clear H
   go_wp2
   go_meet
   case rel => exact ⟨_, (true), zF, H', ⟨by first | omega | exact Nat.le_refl _⟩, ⟨zB⟩⟩
  have dR : decide (l0.length < 3) = false := decide_eq_false (by omega)
  clear c3
  (first | rw [bK] | (simp only [Zd, Zf]; rw [bK]) | skip)
  replace H := Z8 H
  rcases H with ⟨c4, H⟩ | ⟨c4, H⟩
  ·have dS : decide (7 < (l0.length : Int)) = true := decide_eq_true c4
   have dU : decide (7 < l0.length) = true := decide_eq_true (by omega)
   clear c4
   have H' := Qa.mk H; clear H
   go_wp2
   go_meet
   case rel => exact ⟨_, (true), zF, H', ⟨by first | omega | exact Nat.le_refl _⟩, ⟨zB⟩⟩
  have dS : decide (7 < (l0.length : Int)) = false := decide_eq_false c4
  have dU : decide (7 < l0.length) = false := decide_eq_false (by omega)
  clear c4
  obtain ⟨bY, A5, H⟩ := zO H
  have H' := Qa.mk H; clear H
  go_wp2_with (first | (go_at_call 81; (with_reducible refine (Jy.calls 50 _ _ l0 bY _ ?bZ ?cB A5.out).mono ?_); (case bZ => exact zc (Kd.C_below bS.out HB.out)); (case cB => exact eZ.out); rintro e w6 ⟨rfl, hb⟩; replace HB := zX hb; (try clear hb); (try clear hb2); (try clear hk); (try clear hi)))
  go_meet
  case rel => exact ⟨_, (!bY), zF, H', ⟨by first | omega | exact Nat.le_refl _⟩, ⟨zB⟩⟩
 case rest =>
 clear dQ
 obtain ⟨kq, bJ, rfl, HA, dY, HB⟩ := hcut
 cases kq with
 | zero => exact absurd HA.out (by simp [Qf.j0])
 | succ dV =>
 have H := HA.out
 clear HA
 simp only [Qf.j0] at H
 by_cases c7 : bJ = true
 ·subst c7
  replace H := (if_pos rfl).symm.trans H
  obtain rfl := Option.some.inj H
  go_wp2
  go_ret
  exact ⟨zE, zB⟩
 replace c7 := Bool.eq_false_iff.mpr c7
 subst c7
 replace H := (if_neg zFf).symm.trans H
 obtain ⟨aC, A8, H⟩ := zO H
 have H' := Qa.mk H; clear H
 go_wp2_with (first | ((with_reducible refine Qd (f := 55) rfl ?_); refine zD (some 20) Tryz.func55 _ ((Qi.calls dV (l0.length : Int) aC _ A8.out).mono ?_); rintro e w9 ⟨fA, rfl, ho0, hb⟩; refine ⟨_, rfl, ?_⟩; have bR := Qa.mk (Kd.R_lower ho0 (Ql zB)); replace HB := zX hb; (try clear hb); (try clear ho0); obtain ⟨dW, bT, dX⟩ := Kd.R_slice bR.out; subst dX))
 go_loopg [22] dV (fun kq v22 w' => ∃ (aA : Int), v22 = .int .i64 aA ∧ Qa (Qf.l0 kq l0 aC (aC.length : Int) aA = some r) ∧ Qa (kq ≤ dV) ∧ Qa (Kd.R k77 77 w' w.heap.size (fun _ => True) (.slice dW aC.length bT) aC) ∧ Qa (Below w.heap.size w w'))
 case atStart => exact ⟨(0), zF, H', ⟨Nat.le_refl _⟩, ⟨zR bR.out⟩, ⟨zB⟩⟩
 case round =>
 clear H'
 try clear c7
 obtain ⟨aA, rfl, HA, dZ, aH, HB⟩ := hrel
 cases gk with
 | zero => exact absurd HA.out (by simp [Qf.l0])
 | succ k2 =>
 have H := HA.out
 clear HA
 simp only [Qf.l0] at H
 replace H := Xg H
 rcases H with ⟨cK, H⟩ | ⟨cK, H⟩
 ·replace H := J9 H
  rcases H with ⟨eB, H⟩ | ⟨c12, H⟩
  ·replace H := J9 H
   rcases H with ⟨eD, H⟩ | ⟨c13, H⟩
   ·replace H := J9 H
    rcases H with ⟨eF, H⟩ | ⟨c14, H⟩
    ·replace H := J9 H
     rcases H with ⟨eG, H⟩ | ⟨c15, H⟩
     ·replace H := J9 H
      rcases H with ⟨eH, H⟩ | ⟨c16, H⟩
      ·replace H := J9 H
       rcases H with ⟨eO, H⟩ | ⟨c17, H⟩
       ·replace H := J9 H
        rcases H with ⟨eP, H⟩ | ⟨c18, H⟩
        ·replace H := J9 H
         rcases H with ⟨eQ, H⟩ | ⟨c19, H⟩
         ·obtain ⟨cO, eU, H⟩ := zO H
          replace H := Zb H
          rcases H with ⟨cZ, dA, H⟩ | ⟨c21, cZ, dA, H⟩
          ·obtain rfl := Option.some.inj H
           have bB : 0 ≤ (aA : Int) := zA
           have bC : aA < (aC.length : Int) := zA
           obtain ⟨bL, e291, bO, bP, bQ⟩ := jGo (Kd.R_reads' aH.out).2.2 aA bB bC
           cases e291
           replace bB := eq_true bB
           replace bC := eq_true bC
           try go_wp2_with (first | ((with_reducible refine Qo (N := 4) rfl ?_); (try (refine Xc (by rfl) ?_; dsimp only)); refine zBx (N := 4) #[.int .i64 0, .int .i64 0, .int .i64 0] 77 ?_; intro aD hg dC hbox hb; replace aH := Qa.mk (Kd.R_below (Kd.R_elderB (zR aH.out) aD (Nat.le_of_eq hg.symm)) hb); have aG := Qa.mk (hbox); have dB := zS hg; have bA := zS hg; replace HB := zX hb; clear hb hbox hg; obtain ⟨dD, dE, dF, dG, dH, dI⟩ := zq3 aG.out))
           have bU : Qa (Kd.R k77 77 (((dC.setCell ⟨aD, 0, none⟩ (.int .i64 ((Qt aC aA).f0))).setCell ⟨aD, 1, none⟩ (.int .i64 ((Qt aC aA).f1))).setCell ⟨aD, 2, none⟩ (.int .i64 ((Qt aC aA).f2))) w.heap.size (fun k_ => k_ ≠ aD) (.slice (some bL) aC.length bT) aC) := ⟨by (with_reducible repeat (first | apply Kd.R_alloc | apply Kd.R_drewN | apply Kd.R_drew)); exact Kd.R_mono (Kd.R_far (p := ⟨aD, 2, none⟩) (Kd.R_far (p := ⟨aD, 1, none⟩) (Kd.R_far (p := ⟨aD, 0, none⟩) (Kd.R_mono aH.out (fun k_ hk => (⟨hk, hk.2⟩ : _ ∧ k_ ≠ aD))) (fun _ hk => hk.2) (.int .i64 ((Qt aC aA).f0))) (fun _ hk => hk.2) (.int .i64 ((Qt aC aA).f1))) (fun _ hk => hk.2) (.int .i64 ((Qt aC aA).f2))) (fun _ hk => hk.1.2)⟩
           have bV : Qa ((((dC.setCell ⟨aD, 0, none⟩ (.int .i64 ((Qt aC aA).f0))).setCell ⟨aD, 1, none⟩ (.int .i64 ((Qt aC aA).f1))).setCell ⟨aD, 2, none⟩ (.int .i64 ((Qt aC aA).f2))).heap[aD]? = some (.cells #[.int .i64 ((Qt aC aA).f0), .int .i64 ((Qt aC aA).f1), .int .i64 ((Qt aC aA).f2)] 77 (0, 0))) := ⟨zk0 aG.out⟩
           have bW : Qa (Below w.heap.size w (((dC.setCell ⟨aD, 0, none⟩ (.int .i64 ((Qt aC aA).f0))).setCell ⟨aD, 1, none⟩ (.int .i64 ((Qt aC aA).f1))).setCell ⟨aD, 2, none⟩ (.int .i64 ((Qt aC aA).f2)))) := ⟨zG bA.out⟩
           (try clear aH)
           (try clear aG)
           (try clear HB)
           generalize (((dC.setCell ⟨aD, 0, none⟩ (.int .i64 ((Qt aC aA).f0))).setCell ⟨aD, 1, none⟩ (.int .i64 ((Qt aC aA).f1))).setCell ⟨aD, 2, none⟩ (.int .i64 ((Qt aC aA).f2))) = fB at bU bV bW ⊢
           have aH := bU
           have aG := bV
           have HB := bW
           clear bU bV bW
           replace aH := Qa.mk (Kd.R_drew aH.out)
           replace aG := Qa.mk (Q8 aG.out)
           replace HB := Qa.mk (Qp HB.out)
           have bD : 0 ≤ (((Qt aC aA).f0) : Int) := zA
           have bE : ((Qt aC aA).f0) < (l0.length : Int) := zA
           obtain ⟨aI, bX, aJ, aK⟩ := Jj bS.out ((Qt aC aA).f0) bD bE
           have aU := aK
           have aV := aJ
           cases bX
           replace aJ := (HB.out.cell (World.block_lt_of_cell? w _ aJ)).trans aJ
           replace aK := (HB.out.cell (World.block_lt_of_cell? w _ aK)).trans aK
           replace bD := eq_true bD
           replace bE := eq_true bE
           have bF : 0 ≤ (((Qt aC aA).f1) : Int) := zA
           have bG : ((Qt aC aA).f1) < (l0.length : Int) := zA
           obtain ⟨bM, e294, aM, aN⟩ := Jj bS.out ((Qt aC aA).f1) bF bG
           have aW := aN
           have aX := aM
           obtain rfl : aI = bM := (by injection e294)
           replace aM := (HB.out.cell (World.block_lt_of_cell? w _ aM)).trans aM
           replace aN := (HB.out.cell (World.block_lt_of_cell? w _ aN)).trans aN
           replace bF := eq_true bF
           replace bG := eq_true bG
           have bH : 0 ≤ (((Qt aC aA).f2) : Int) := zA
           have bI : ((Qt aC aA).f2) < (l0.length : Int) := zA
           obtain ⟨bN, e295, aQ, aT⟩ := Jj bS.out ((Qt aC aA).f2) bH bI
           have aY := aT
           have aZ := aQ
           obtain rfl : aI = bN := (by injection e295)
           replace aQ := (HB.out.cell (World.block_lt_of_cell? w _ aQ)).trans aQ
           replace aT := (HB.out.cell (World.block_lt_of_cell? w _ aT)).trans aT
           replace bH := eq_true bH
           replace bI := eq_true bI
           refine Zy (n := 17) (S := fun w' => w'.cell? ⟨aD, 0, none⟩ = some (.int .i64 ((Qt aC aA).f0)) ∧ w'.cell? ⟨aD, 1, none⟩ = some (.int .i64 ((Qt aC aA).f1)) ∧ w'.cell? ⟨aD, 2, none⟩ = some (.int .i64 ((Qt aC aA).f2)) ∧ w'.cell? (aI.add ((((Qt aC aA).f0)).toNat * 2)) = some (.int .i64 ((Qb l0 ((Qt aC aA).f0)).f0)) ∧ w'.cell? ⟨(aI.add ((((Qt aC aA).f0)).toNat * 2)).block, (aI.add ((((Qt aC aA).f0)).toNat * 2)).off + 1, none⟩ = some (.int .i64 ((Qb l0 ((Qt aC aA).f0)).f1)) ∧ w'.cell? (aI.add ((((Qt aC aA).f1)).toNat * 2)) = some (.int .i64 ((Qb l0 ((Qt aC aA).f1)).f0)) ∧ w'.cell? ⟨(aI.add ((((Qt aC aA).f1)).toNat * 2)).block, (aI.add ((((Qt aC aA).f1)).toNat * 2)).off + 1, none⟩ = some (.int .i64 ((Qb l0 ((Qt aC aA).f1)).f1)) ∧ w'.cell? (aI.add ((((Qt aC aA).f2)).toNat * 2)) = some (.int .i64 ((Qb l0 ((Qt aC aA).f2)).f0)) ∧ w'.cell? ⟨(aI.add ((((Qt aC aA).f2)).toNat * 2)).block, (aI.add ((((Qt aC aA).f2)).toNat * 2)).off + 1, none⟩ = some (.int .i64 ((Qb l0 ((Qt aC aA).f2)).f1))) (ds := []) #[false, false, false, false, false, false, false, false, false, false, false, false, false, false, false, false, false] (by kernel_rfl) rfl rfl ⟨(Qn aG.out 0).trans rfl, (Qn aG.out 1).trans rfl, (Qn aG.out 2).trans rfl, ((HB.out.cell (World.block_lt_of_cell? w _ aV)).trans aV), ((HB.out.cell (World.block_lt_of_cell? w _ aU)).trans aU), ((HB.out.cell (World.block_lt_of_cell? w _ aX)).trans aX), ((HB.out.cell (World.block_lt_of_cell? w _ aW)).trans aW), ((HB.out.cell (World.block_lt_of_cell? w _ aZ)).trans aZ), ((HB.out.cell (World.block_lt_of_cell? w _ aY)).trans aY)⟩ (fun hHeld => ?_); refine Jr Qf.tab6 Qf.bits6 (fun HT_ HW_ => ?_)
           generalize fB.drew = fD at aH aG HB aJ aK aM aN aQ aT hHeld ⊢
           refine zP 0 (some 26) rfl rfl ?_
           refine zP 1 (some 27) rfl rfl ?_
           refine zP 5 (some 31) rfl rfl ?_
           refine zP 6 (some 32) rfl rfl ?_
           refine zP 10 (some 36) rfl rfl ?_
           refine zP 11 (some 37) rfl rfl ?_
           refine zY9 2 (some 28) rfl rfl hHeld ?_
           refine zP 3 (some 29) rfl rfl ?_
           refine zY9 4 (some 30) rfl rfl hHeld ?_
           refine zY9 7 (some 33) rfl rfl hHeld ?_
           refine zP 8 (some 34) rfl rfl ?_
           refine zY9 9 (some 35) rfl rfl hHeld ?_
           refine zY9 12 (some 38) rfl rfl hHeld ?_
           refine zP 13 (some 39) rfl rfl ?_
           refine zY9 14 (some 40) rfl rfl hHeld ?_
           refine zU 15 (some 41) rfl rfl (fun K hK => ?_)
           refine Xq Tryz.func28 (by kernel_rfl) rfl #[.agg #[.int .i64 ((Qb l0 ((Qt aC aA).f0)).f0), .int .i64 ((Qb l0 ((Qt aC aA).f0)).f1)], .agg #[.int .i64 ((Qb l0 ((Qt aC aA).f1)).f0), .int .i64 ((Qb l0 ((Qt aC aA).f1)).f1)], .agg #[.int .i64 ((Qb l0 ((Qt aC aA).f2)).f0), .int .i64 ((Qb l0 ((Qt aC aA).f2)).f1)]] (by rfl) rfl rfl zM ?_
           with_reducible refine (Jo.calls ((Qb l0 ((Qt aC aA).f0)).f0) ((Qb l0 ((Qt aC aA).f0)).f1) ((Qb l0 ((Qt aC aA).f1)).f0) ((Qb l0 ((Qt aC aA).f1)).f1) ((Qb l0 ((Qt aC aA).f2)).f0) ((Qb l0 ((Qt aC aA).f2)).f1) cO _ eU.out).mono ?_
           rintro e fE ⟨rfl, hb⟩
           refine ⟨_, rfl, ?_⟩
           replace aH := zW aH.out hb
           replace aG := zV aG.out hb
           replace HB := zX1 bA.out hb
           (try clear hb)
           refine hK.out _ _ ⟨(Qn aG.out 0).trans rfl, (Qn aG.out 1).trans rfl, (Qn aG.out 2).trans rfl, ((HB.out.cell (World.block_lt_of_cell? w _ aV)).trans aV), ((HB.out.cell (World.block_lt_of_cell? w _ aU)).trans aU), ((HB.out.cell (World.block_lt_of_cell? w _ aX)).trans aX), ((HB.out.cell (World.block_lt_of_cell? w _ aW)).trans aW), ((HB.out.cell (World.block_lt_of_cell? w _ aZ)).trans aZ), ((HB.out.cell (World.block_lt_of_cell? w _ aY)).trans aY)⟩ (fun hHeld => ?_)
           clear hK K
           refine zN ?_
           refine zP 16 (some 42) rfl rfl ?_
           refine Ya (Zj HT_.out (by kernel_rfl)) ?_
           try go_wp2
           go_ret
           exact ⟨zE, zG bA.out⟩
          have H' := Qa.mk H; clear H
          have bB : 0 ≤ (aA : Int) := zA
          have bC : aA < (aC.length : Int) := zA
          obtain ⟨bL, e291, bO, bP, bQ⟩ := jGo (Kd.R_reads' aH.out).2.2 aA bB bC
          cases e291
          replace bB := eq_true bB
          replace bC := eq_true bC
          try go_wp2_with (first | ((with_reducible refine Qo (N := 4) rfl ?_); (try (refine Xc (by rfl) ?_; dsimp only)); refine zBx (N := 4) #[.int .i64 0, .int .i64 0, .int .i64 0] 77 ?_; intro aD hg dJ hbox hb; replace aH := Qa.mk (Kd.R_below (Kd.R_elderB (zR aH.out) aD (Nat.le_of_eq hg.symm)) hb); have aG := Qa.mk (hbox); have dB := zS hg; have bA := zS hg; replace HB := zX hb; clear hb hbox hg; obtain ⟨dK, dL, dM, dN, dO, dP⟩ := zq3 aG.out))
          have bU : Qa (Kd.R k77 77 (((dJ.setCell ⟨aD, 0, none⟩ (.int .i64 ((Qt aC aA).f0))).setCell ⟨aD, 1, none⟩ (.int .i64 ((Qt aC aA).f1))).setCell ⟨aD, 2, none⟩ (.int .i64 ((Qt aC aA).f2))) w.heap.size (fun k_ => k_ ≠ aD) (.slice (some bL) aC.length bT) aC) := ⟨by (with_reducible repeat (first | apply Kd.R_alloc | apply Kd.R_drewN | apply Kd.R_drew)); exact Kd.R_mono (Kd.R_far (p := ⟨aD, 2, none⟩) (Kd.R_far (p := ⟨aD, 1, none⟩) (Kd.R_far (p := ⟨aD, 0, none⟩) (Kd.R_mono aH.out (fun k_ hk => (⟨hk, hk.2⟩ : _ ∧ k_ ≠ aD))) (fun _ hk => hk.2) (.int .i64 ((Qt aC aA).f0))) (fun _ hk => hk.2) (.int .i64 ((Qt aC aA).f1))) (fun _ hk => hk.2) (.int .i64 ((Qt aC aA).f2))) (fun _ hk => hk.1.2)⟩
          have bV : Qa ((((dJ.setCell ⟨aD, 0, none⟩ (.int .i64 ((Qt aC aA).f0))).setCell ⟨aD, 1, none⟩ (.int .i64 ((Qt aC aA).f1))).setCell ⟨aD, 2, none⟩ (.int .i64 ((Qt aC aA).f2))).heap[aD]? = some (.cells #[.int .i64 ((Qt aC aA).f0), .int .i64 ((Qt aC aA).f1), .int .i64 ((Qt aC aA).f2)] 77 (0, 0))) := ⟨zk0 aG.out⟩
          have bW : Qa (Below w.heap.size w (((dJ.setCell ⟨aD, 0, none⟩ (.int .i64 ((Qt aC aA).f0))).setCell ⟨aD, 1, none⟩ (.int .i64 ((Qt aC aA).f1))).setCell ⟨aD, 2, none⟩ (.int .i64 ((Qt aC aA).f2)))) := ⟨zG bA.out⟩
          (try clear aH)
          (try clear aG)
          (try clear HB)
          generalize (((dJ.setCell ⟨aD, 0, none⟩ (.int .i64 ((Qt aC aA).f0))).setCell ⟨aD, 1, none⟩ (.int .i64 ((Qt aC aA).f1))).setCell ⟨aD, 2, none⟩ (.int .i64 ((Qt aC aA).f2))) = fC at bU bV bW ⊢
          have aH := bU
          have aG := bV
          have HB := bW
          clear bU bV bW
          replace aH := Qa.mk (Kd.R_drew aH.out)
          replace aG := Qa.mk (Q8 aG.out)
          replace HB := Qa.mk (Qp HB.out)
          have bD : 0 ≤ (((Qt aC aA).f0) : Int) := zA
          have bE : ((Qt aC aA).f0) < (l0.length : Int) := zA
          obtain ⟨aI, bX, aJ, aK⟩ := Jj bS.out ((Qt aC aA).f0) bD bE
          have aU := aK
          have aV := aJ
          cases bX
          replace aJ := (HB.out.cell (World.block_lt_of_cell? w _ aJ)).trans aJ
          replace aK := (HB.out.cell (World.block_lt_of_cell? w _ aK)).trans aK
          replace bD := eq_true bD
          replace bE := eq_true bE
          have bF : 0 ≤ (((Qt aC aA).f1) : Int) := zA
          have bG : ((Qt aC aA).f1) < (l0.length : Int) := zA
          obtain ⟨bM, e294, aM, aN⟩ := Jj bS.out ((Qt aC aA).f1) bF bG
          have aW := aN
          have aX := aM
          obtain rfl : aI = bM := (by injection e294)
          replace aM := (HB.out.cell (World.block_lt_of_cell? w _ aM)).trans aM
          replace aN := (HB.out.cell (World.block_lt_of_cell? w _ aN)).trans aN
          replace bF := eq_true bF
          replace bG := eq_true bG
          have bH : 0 ≤ (((Qt aC aA).f2) : Int) := zA
          have bI : ((Qt aC aA).f2) < (l0.length : Int) := zA
          obtain ⟨bN, e295, aQ, aT⟩ := Jj bS.out ((Qt aC aA).f2) bH bI
          have aY := aT
          have aZ := aQ
          obtain rfl : aI = bN := (by injection e295)
          replace aQ := (HB.out.cell (World.block_lt_of_cell? w _ aQ)).trans aQ
          replace aT := (HB.out.cell (World.block_lt_of_cell? w _ aT)).trans aT
          replace bH := eq_true bH
          replace bI := eq_true bI
          refine Zy (n := 17) (S := fun w' => w'.cell? ⟨aD, 0, none⟩ = some (.int .i64 ((Qt aC aA).f0)) ∧ w'.cell? ⟨aD, 1, none⟩ = some (.int .i64 ((Qt aC aA).f1)) ∧ w'.cell? ⟨aD, 2, none⟩ = some (.int .i64 ((Qt aC aA).f2)) ∧ w'.cell? (aI.add ((((Qt aC aA).f0)).toNat * 2)) = some (.int .i64 ((Qb l0 ((Qt aC aA).f0)).f0)) ∧ w'.cell? ⟨(aI.add ((((Qt aC aA).f0)).toNat * 2)).block, (aI.add ((((Qt aC aA).f0)).toNat * 2)).off + 1, none⟩ = some (.int .i64 ((Qb l0 ((Qt aC aA).f0)).f1)) ∧ w'.cell? (aI.add ((((Qt aC aA).f1)).toNat * 2)) = some (.int .i64 ((Qb l0 ((Qt aC aA).f1)).f0)) ∧ w'.cell? ⟨(aI.add ((((Qt aC aA).f1)).toNat * 2)).block, (aI.add ((((Qt aC aA).f1)).toNat * 2)).off + 1, none⟩ = some (.int .i64 ((Qb l0 ((Qt aC aA).f1)).f1)) ∧ w'.cell? (aI.add ((((Qt aC aA).f2)).toNat * 2)) = some (.int .i64 ((Qb l0 ((Qt aC aA).f2)).f0)) ∧ w'.cell? ⟨(aI.add ((((Qt aC aA).f2)).toNat * 2)).block, (aI.add ((((Qt aC aA).f2)).toNat * 2)).off + 1, none⟩ = some (.int .i64 ((Qb l0 ((Qt aC aA).f2)).f1))) (ds := []) #[false, false, false, false, false, false, false, false, false, false, false, false, false, false, false, false, false] (by kernel_rfl) rfl rfl ⟨(Qn aG.out 0).trans rfl, (Qn aG.out 1).trans rfl, (Qn aG.out 2).trans rfl, ((HB.out.cell (World.block_lt_of_cell? w _ aV)).trans aV), ((HB.out.cell (World.block_lt_of_cell? w _ aU)).trans aU), ((HB.out.cell (World.block_lt_of_cell? w _ aX)).trans aX), ((HB.out.cell (World.block_lt_of_cell? w _ aW)).trans aW), ((HB.out.cell (World.block_lt_of_cell? w _ aZ)).trans aZ), ((HB.out.cell (World.block_lt_of_cell? w _ aY)).trans aY)⟩ (fun hHeld => ?_); refine Jr Qf.tab6 Qf.bits6 (fun HT_ HW_ => ?_)
          generalize fC.drew = fF at aH aG HB aJ aK aM aN aQ aT hHeld ⊢
          refine zP 0 (some 26) rfl rfl ?_
          refine zP 1 (some 27) rfl rfl ?_
          refine zP 5 (some 31) rfl rfl ?_
          refine zP 6 (some 32) rfl rfl ?_
          refine zP 10 (some 36) rfl rfl ?_
          refine zP 11 (some 37) rfl rfl ?_
          refine zY9 2 (some 28) rfl rfl hHeld ?_
          refine zP 3 (some 29) rfl rfl ?_
          refine zY9 4 (some 30) rfl rfl hHeld ?_
          refine zY9 7 (some 33) rfl rfl hHeld ?_
          refine zP 8 (some 34) rfl rfl ?_
          refine zY9 9 (some 35) rfl rfl hHeld ?_
          refine zY9 12 (some 38) rfl rfl hHeld ?_
          refine zP 13 (some 39) rfl rfl ?_
          refine zY9 14 (some 40) rfl rfl hHeld ?_
          refine zU 15 (some 41) rfl rfl (fun K hK => ?_)
          refine Xq Tryz.func28 (by kernel_rfl) rfl #[.agg #[.int .i64 ((Qb l0 ((Qt aC aA).f0)).f0), .int .i64 ((Qb l0 ((Qt aC aA).f0)).f1)], .agg #[.int .i64 ((Qb l0 ((Qt aC aA).f1)).f0), .int .i64 ((Qb l0 ((Qt aC aA).f1)).f1)], .agg #[.int .i64 ((Qb l0 ((Qt aC aA).f2)).f0), .int .i64 ((Qb l0 ((Qt aC aA).f2)).f1)]] (by rfl) rfl rfl zM ?_
          with_reducible refine (Jo.calls ((Qb l0 ((Qt aC aA).f0)).f0) ((Qb l0 ((Qt aC aA).f0)).f1) ((Qb l0 ((Qt aC aA).f1)).f0) ((Qb l0 ((Qt aC aA).f1)).f1) ((Qb l0 ((Qt aC aA).f2)).f0) ((Qb l0 ((Qt aC aA).f2)).f1) cO _ eU.out).mono ?_
          rintro e fG ⟨rfl, hb⟩
          refine ⟨_, rfl, ?_⟩
          replace aH := zW aH.out hb
          replace aG := zV aG.out hb
          replace HB := zX1 bA.out hb
          (try clear hb)
          refine hK.out _ _ ⟨(Qn aG.out 0).trans rfl, (Qn aG.out 1).trans rfl, (Qn aG.out 2).trans rfl, ((HB.out.cell (World.block_lt_of_cell? w _ aV)).trans aV), ((HB.out.cell (World.block_lt_of_cell? w _ aU)).trans aU), ((HB.out.cell (World.block_lt_of_cell? w _ aX)).trans aX), ((HB.out.cell (World.block_lt_of_cell? w _ aW)).trans aW), ((HB.out.cell (World.block_lt_of_cell? w _ aZ)).trans aZ), ((HB.out.cell (World.block_lt_of_cell? w _ aY)).trans aY)⟩ (fun hHeld => ?_)
          clear hK K
          refine zN ?_
          refine zP 16 (some 42) rfl rfl ?_
          refine Ya (Zj HT_.out (by kernel_rfl)) ?_
          try go_wp2
          go_roundg k2
          case measure => have := dY.out; have := dZ.out; omega
          case rel => exact ⟨(wrap64 (aA + 1)), zF, H', ⟨by have := dY.out; have := dZ.out; omega⟩, ⟨zR (Kd.R_mono aH.out (fun _ hk => trivial))⟩, ⟨zG bA.out⟩⟩
         exact absurd H (by simp)
        exact absurd H (by simp)
       exact absurd H (by simp)
      exact absurd H (by simp)
     exact absurd H (by simp)
    exact absurd H (by simp)
   exact absurd H (by simp)
  exact absurd H (by simp)
 obtain rfl := Option.some.inj H
 go_wp2
 go_ret
 exact ⟨zE, zB⟩
end Go.Proofs.YtckkfjdkaimmhaaGreatDoor.PX
namespace Go.Proofs.YtckkfjdkaimmhaaGreatDoor.G
open Go.RowKit Go.Sort Go.Proofs.YtckkfjdkaimmhaaGreatDoorW.PrintWords Go.Proofs.YtckkfjdkaimmhaaGreatDoorW.PrintLast Go.Proofs.YtckkfjdkaimmhaaGreatDoorW.PrintMore Go.Proofs.YtckkfjdkaimmhaaGreatDoor.PX
set_option linter.unusedVariables false
set_option linter.unusedSimpArgs false
def Y8 (p q : S48) : Int := if p.f0 < q.f0 then -1 else if q.f0 < p.f0 then 1 else if p.f1 < q.f1 then -1 else if q.f1 < p.f1 then 1 else 0
theorem jI7 (a b : Int) : Zk.f 5 [a, b] = some (if a = 0 then b else a) := by
 simp only [Zk.f, Zk.l0, rd]
 by_cases ha : a = 0
 ·subst ha
  by_cases hb : b = 0 <;> simp [hb, wrap64]
 simp [ha]
theorem jI8 (a b : Int) : cmp_Compare_int.f a b = some (if a < b then -1 else if b < a then 1 else 0) := by
 simp only [cmp_Compare_int.f, cmp_isNaN_int.f, Option.bind_some]
 simp
 split
 ·rfl
 split <;> rfl
theorem jGy (p q : S48) : Jk.f 5 p.f0 p.f1 q.f0 q.f1 = some (Y8 p q) := by
 simp only [Jk.f, jI8, Option.bind_some, jI7]
 unfold Y8
 congr 1
 repeat' split
 all_goals first | rfl | omega
def Kn (p : S48) : List Value := [.int .i64 p.f0, .int .i64 p.f1]
theorem jBn (p : S48) : ∀ v ∈ Kn p, v.oneCell' = true := by
 intro v hv
 simp [Kn] at hv
 rcases hv with rfl | rfl <;> rfl
instance jJu : Inhabited S48 := ⟨⟨0, 0⟩⟩
theorem jDp (blk off size : Nat) (w : World) : CmpLays Tryz.prog 93 #[] Kn 2 Y8 blk off size w :=
 fun m os dk _ x y => (Jk.calls 5 x.f0 x.f1 y.f0 y.f1 _ _ (jGy x y)).mono fun _ _ h => ⟨h.1, grown_of h.2.1 h.2.2⟩
theorem below_grow {B : Nat} {w0 w : World} (h : Below B w0 w) (hB : B ≤ w0.heap.size) (os : Array Obj) : Below B w0 (grow w os) :=
 ⟨h.os, h.tape, h.output, Nat.le_trans h.size (by simp [grow]), fun k hk => by
  have h1 := h.block k hk
  have h2 := h.size
  rw [← h1]
  simp only [grow]
  rw [Array.getElem?_append_left (by omega)]⟩
theorem jGj {w : World} {base : Nat} {e : TypeId} {size : Nat} {v : Value} {n : Nat} {xs : List Value} (h : w.ownsRow base e size v n xs) (hv : v ≠ .slice none 0 0) :
  ∃ g cap, v = .slice (some ⟨g, 0, none⟩) n cap ∧ base ≤ g ∧ g < w.heap.size ∧ ∀ (F : Array Value), F.toList = xs → Holds id w g 0 F := by
 rcases h.2 with ⟨e0, _⟩ | ⟨g, cap, cur, rfl, hb, hg, hn, hm, hs, ht⟩
 ·exact absurd e0 hv
 have hlt : g < w.heap.size := by
  rcases Nat.lt_or_ge g w.heap.size with h' | h'
  ·exact h'
  ·rw [Array.getElem?_eq_none h'] at hg; cases hg
 refine ⟨g, cap, rfl, hb, hlt, fun F hF j hj => ?_⟩
 refine ⟨?_, by simp [World.frozen?, hg]⟩
 have hj' : j < n * size := by rw [← h.1, ← hF]; simpa using hj
 have e1 : (cur.toList.take (n * size))[j]? = F.toList[j]? := by rw [ht, hF]
 rw [List.getElem?_take, if_pos hj', Array.getElem?_toList, Array.getElem?_toList, Array.getElem?_eq_getElem hj] at e1
 simp only [World.cell?, hg, Nat.zero_add]
 simp only [Option.isSome_none, Bool.false_eq_true, if_false]
 rw [e1]
 simp [getElem!_pos, hj]
theorem jEc {w : World} {base : Nat} {e : TypeId} {size g n cap q : Nat} {xs : List Value} {F : Array Value} (h : w.ownsRow base e size (.slice (some ⟨g, 0, none⟩) n cap) n xs) (hF : F.size = n * size) :
  (putRow id (Sort.ahead w q) g 0 F).ownsRow base e size (.slice (some ⟨g, 0, none⟩) n cap) n F.toList := by
 rcases h.2 with ⟨e0, _⟩ | ⟨g', cap', cur, e0, hb, hg, hn, hm, hs, ht⟩
 ·cases e0
 injection e0 with e1 _ e3
 injection e1 with e1
 injection e1 with e1
 subst e1; subst e3
 have hle : n * size ≤ cap * size := Nat.mul_le_mul_right _ hn
 refine ⟨by simpa using hF, .inr ⟨g, cap, putCells id 0 F cur, rfl, hb, ?_, hn, hm, by simpa [putCells] using hs, ?_⟩⟩
 ·simp [putRow, mapBlock, Sort.ahead, Array.getElem?_modify, hg, onCells]
 apply List.ext_getElem?
 intro j
 rw [List.getElem?_take, Array.getElem?_toList, Array.getElem?_toList]
 by_cases hj : j < n * size
 ·have hjc : j < cur.size := by omega
  simp only [if_pos hj, putCells, Array.getElem?_mapIdx, Array.getElem?_eq_getElem hjc, Option.map_some]
  rw [if_pos (by simp; omega), Array.getElem?_eq_getElem (by omega)]
  simp [getElem!_pos, show j < F.size by omega]
 rw [if_neg hj, Array.getElem?_eq_none (by omega)]
theorem jFl {w : World} {base : Nat} {e : TypeId} {size n : Nat} {v : Value} {xs : List Value} (h : w.ownsRow base e size v n xs) (os : Array Obj) : (grow w os).ownsRow base e size v n xs := by
 refine ⟨h.1, h.2.imp id ?_⟩
 rintro ⟨g, cap, cur, e0, hb, hg, r⟩
 refine ⟨g, cap, cur, e0, hb, ?_, r⟩
 have hlt : g < w.heap.size := by
  rcases Nat.lt_or_ge g w.heap.size with h' | h'
  ·exact h'
  ·rw [Array.getElem?_eq_none h'] at hg; cases hg
 simp only [grow]
 rw [Array.getElem?_append_left hlt, hg]
theorem jFf {w : World} {base base' : Nat} {e : TypeId} {size n : Nat} {v : Value} {xs : List Value} (h : w.ownsRow base e size v n xs) (hb : base' ≤ base) : w.ownsRow base' e size v n xs := by
 refine ⟨h.1, h.2.imp id ?_⟩
 rintro ⟨g, cap, cur, e0, hg, r⟩
 exact ⟨g, cap, cur, e0, Nat.le_trans hb hg, r⟩
def Vf (l : List S48) : Array Value := flatK Kn 2 l.toArray
theorem Yw (l : List S48) : (Vf l).size = l.length * 2 := by simp [Vf]
theorem jAs (l : List S48) (j i : Nat) (p : S48) (hp : l[j]? = some p) (hi : i < 2) : (Vf l)[j * 2 + i]? = (Kn p)[i]? := by
 have hj : j < l.length := by
  rcases Nat.lt_or_ge j l.length with h | h
  ·exact h
  ·rw [List.getElem?_eq_none h] at hp; cases hp
 have hs : j * 2 + i < l.toArray.size * 2 := by simp; omega
 have h1 := get_flatK Kn 2 l.toArray (j * 2 + i) hs
 rw [show (j * 2 + i) / 2 = j by omega, show (j * 2 + i) % 2 = i by omega] at h1
 have hl : l.toArray[j]! = p := by
  rw [List.getElem?_eq_getElem hj] at hp
  rw [getElem!_pos _ _ (by simpa using hj)]
  simpa using hp
 rw [hl] at h1
 have hs' : j * 2 + i < (Vf l).size := by rw [Yw]; omega
 rw [Array.getElem?_eq_getElem hs']
 have h2 : (Vf l)[j * 2 + i]! = (Vf l)[j * 2 + i]'hs' := getElem!_pos (Vf l) (j * 2 + i) hs'
 have he : i < (Kn p).length := hi
 rw [List.getElem?_eq_getElem he]
 rw [← h2]
 rw [getElem!_pos (Kn p) i he] at h1
 exact congrArg some h1
theorem jC9 (l : List S48) (w : World) (base : Nat) (ok : Nat → Prop) : J6 (k48.M w base ok) k48.sz l (Vf l).toList := by
 refine ⟨by rw [Array.length_toList, Yw]; rfl, fun j p hp => ?_⟩
 have e : ((Vf l).toList.drop (j * k48.sz)).take k48.sz = [.int .i64 p.f0, .int .i64 p.f1] := by
  apply List.ext_getElem?
  intro i
  have hz : k48.sz = 2 := rfl
  rw [List.getElem?_take, List.getElem?_drop, Array.getElem?_toList, hz]
  by_cases hi : i < 2
  ·rw [if_pos hi, jAs l j i p hp hi]
   rfl
  ·rw [if_neg hi, List.getElem?_eq_none (by simp; omega)]
 rw [e]
 exact Z0 w base ok p
theorem Uo {w : World} {ad : Addr} {n : Nat} {l : List S48} (h : Kd.C k48 w (some ad) n l) (hn : 0 < n) : ∃ b off, ad = ⟨b, off, none⟩ ∧ ∀ j u, (Vf l).toList[j]? = some u → w.cell? ⟨b, off + j, none⟩ = some u := by
 obtain ⟨ad', e0, hc⟩ := h.2.2 hn
 injection e0 with e0
 subst e0
 have hall : ∀ j p, l[j]? = some p → ∀ i u, (Kn p)[i]? = some u → w.cell? (ad.add (j * 2 + i)) = some u := by
  intro j p hp i u hu
  obtain ⟨c, hs, hK, hcell⟩ := hc j p hp
  have hz : k48.sz = 2 := rfl
  rw [hz] at hcell
  obtain rfl := jCx hK
  exact hcell i u hu
 have hlen := h.1
 have hsp : ad.spot = none := by
  have h0 := hall 0 (l[0]'(by omega)) (List.getElem?_eq_getElem _) 0 _ rfl
  simp only [Nat.zero_mul, Nat.add_zero, Addr.add, if_true] at h0
  cases hs : ad.spot with
  | none => rfl
  | some s =>
   simp only [World.cell?, hs] at h0
   split at h0 <;> simp at h0
 refine ⟨ad.block, ad.off, by cases ad; simp_all, fun j u hu => ?_⟩
 have hj : j < l.length * 2 := by
  rw [Array.getElem?_toList] at hu
  rcases Nat.lt_or_ge j (Vf l).size with h' | h'
  ·rw [Yw] at h'; exact h'
  ·rw [Array.getElem?_eq_none h'] at hu; cases hu
 have hp : l[j / 2]? = some (l[j / 2]'(by omega)) := List.getElem?_eq_getElem _
 have h1 := jAs l (j / 2) (j % 2) _ hp (by omega)
 rw [show j / 2 * 2 + j % 2 = j by omega, ← Array.getElem?_toList, hu] at h1
 have h2 := hall (j / 2) _ hp (j % 2) u h1.symm
 rw [show j / 2 * 2 + j % 2 = j by omega] at h2
 have e1 : ad.add j = ⟨ad.block, ad.off + j, none⟩ := by
  unfold Addr.add
  split
  ·subst_vars; cases ad; simp_all
  ·rfl
 rw [e1] at h2
 exact h2
theorem jBp {w : World} {b off n : Nat} {l : List S48} (h : Kd.C k48 w (some ⟨b, off, none⟩) n l) (hn : 0 < n) : ∀ j u, (Vf l).toList[j]? = some u → w.cell? ⟨b, off + j, none⟩ = some u := by
 obtain ⟨b', off', e, hc⟩ := Uo h hn
 injection e with e1 e2
 subst e1; subst e2
 exact hc
def Vb (l : List S48) : List S48 := (Sort.insertionSort (ltOf Y8) l.toArray 0 l.toArray.size).toList
open Classical in
noncomputable def Zg.f (l : List S48) : Option (List S48) :=
 if ∃ k, Qf.f k l = some true then (if 0 < l.length ∧ l.length ≤ 12 then some (Vb l) else none) else if ∃ k, Qf.f k l = some false then some [] else none
theorem jI5 (n : Nat) (W : World) (h : n ≤ 12) : Calls Tryz.prog 113 #[.int .u64 n] W fun e w' => (∃ l : Int, e = .returned (.int .i64 l)) ∧ w' = W :=
 (Any.bits_Len Tryz.bitsLen n W (by omega) (by omega)).mono fun _ _ ⟨he, hw⟩ => ⟨⟨_, he⟩, hw⟩
theorem jHn (p q : S48) : ltOf Y8 p q = true ↔ (p.f0 < q.f0 ∨ p.f0 = q.f0 ∧ p.f1 < q.f1) := by
 simp only [ltOf, Y8, decide_eq_true_eq]
 repeat' split
 all_goals simp
 all_goals omega
theorem Uj (p q : S48) : ltOf Y8 p q = false ↔ (q.f0 < p.f0 ∨ q.f0 = p.f0 ∧ q.f1 ≤ p.f1) := by
 rw [← Bool.not_eq_true, jHn]
 omega
theorem jI3 : SWO (ltOf Y8) where
 irrefl := fun x => by rw [Uj]; omega
 trans := fun x y z => by simp only [jHn]; omega
 ntrans := fun x y z => by simp only [Uj]; omega
theorem V7 (l : List S48) : PermIn 0 l.toArray.size l.toArray (Vb l).toArray ∧ SortedIn (ltOf Y8) 0 l.toArray.size (Vb l).toArray :=
 insertionSort_holds jI3 l.toArray 0 l.toArray.size (Nat.zero_le _) (Nat.le_refl _)
theorem K9 (l : List S48) : (Vb l).length = l.length := (V7 l).1.1
set_option maxHeartbeats 8000000 in
set_option maxRecDepth 100000 in
theorem Zg.calls (A0 : Option Addr) (c0 : Nat) (l0 : List S48) (r : List S48) (w : World) (hr0 : Kd.C k48 w A0 l0.length l0) (hc0 : l0.length ≤ c0) (h : Zg.f l0 = some r) :
  Calls Tryz.prog 38 #[.slice A0 l0.length c0] w fun e w' => ∃ aA, e = .returned aA ∧ Kd.R k48 48 w' w.heap.size (fun _ => True) aA r ∧ Below w.heap.size w w' := by
 classical
 have HR := Qa.mk hr0
 have HB := Qa.mk (Below.refl w.heap.size w)
 simp only [Zg.f] at h
 split at h
 ·rename_i hk
  obtain ⟨k, hk⟩ := hk
  split at h
  ·rename_i hn
   obtain rfl := Option.some.inj h
   clear h
   obtain ⟨hn0, hn1⟩ := hn
   obtain ⟨ad, hA, _⟩ := hr0.2.2 hn0
   subst hA
   obtain ⟨b, off, rfl, hcells⟩ := Uo hr0 hn0
   clear hcells
   have HA := Qa.mk (fun W h1 => Qf.calls k (some ⟨b, off, none⟩) c0 l0 true W h1 hc0 hk)
   have hmax : l0.length ≤ 9223372036854775807 := hr0.2.1
   obtain ⟨i0, hi0, hz0, hs0, hb0⟩ := info_parts Yf
   have HE := Qa.mk (fun W (h1 : ∀ j u, (Vf l0).toList[j]? = some u → W.cell? ⟨b, off + j, none⟩ = some u) => AnyE.slices_Clone Tryz.clonePt i0 _ 2 16 hi0 hz0 hs0 hb0 rfl (by decide) Tryz.sizeOf48 b off l0.length c0 (Vf l0).toList W (by rw [Array.length_toList, Yw]) (by simp only [maxLen]; omega) (by omega) h1 (fun u hu => by
    have hu' := List.getElem?_of_mem hu
    obtain ⟨j, hj⟩ := hu'
    have hj2 : j < l0.length * 2 := by
     rw [Array.getElem?_toList] at hj
     rcases Nat.lt_or_ge j (Vf l0).size with h' | h'
     ·rw [Yw] at h'; exact h'
     ·rw [Array.getElem?_eq_none h'] at hj; cases hj
    have hp : l0[j / 2]? = some (l0[j / 2]'(by omega)) := List.getElem?_eq_getElem _
    have h1 := jAs l0 (j / 2) (j % 2) _ hp (by omega)
    rw [show j / 2 * 2 + j % 2 = j by omega, ← Array.getElem?_toList, hj] at h1
    exact jBn _ u (List.mem_of_getElem? h1.symm)))
   have eg : ∀ args w, (callFunc 93 args).run Tryz.prog w = .ok (.enter 93 args) w := enters_of Tryz.func93 (by kernel_rfl) rfl
   have HS := Qa.mk (fun g cap W (hH : HoldsK Kn 2 W g 0 l0.toArray) hblk => AnyQ.slices_SortFunc_small Tryz.sortPt 2 Tryz.isAgg48 Tryz.sizeOf48 Kn (fun _ => rfl) jBn Y8 93 #[] g 0 cap l0.toArray W eg (jDp _ _ _ _) hH hblk (by simpa using hn1) jI5)
   have hsz := K9 l0
   have hrp := jC9 (Vb l0)
   have hfl : flatK Kn 2 (insertionSort (ltOf Y8) l0.toArray 0 l0.toArray.size) = Vf (Vb l0) := by simp [Vf, Vb]
   clear hr0 hi0 hz0 hs0 hb0 hk eg
   go_enter Tryz.func38, Tryz.ntmps38
   go_wp2_with (first | (go_at_call 45; refine (HA.out _ HR.out).mono ?_; rintro e w1 ⟨rfl, hb⟩; have HB1 := Qa.mk hb; clear hb) | (go_at_call 91; refine (HE.out _ (jBp (Kd.C_below HR.out HB1.out) hn0)).mono ?_; rintro e w2 ⟨v2, rfl, hown, hne, hb⟩; obtain ⟨g, cap, rfl, hg, hlt, hH⟩ := jGj hown hne; have HO := Qa.mk hown; have HH := Qa.mk (hH (Vf l0) rfl); have HB2 := Qa.mk hb; clear hb hown hH hne) | (go_at_call 92; refine (HS.out g cap _ HH.out hlt).mono ?_; rintro e w3 ⟨rfl, m, os, rfl⟩))
   go_ret
   have hR : (sortWorldK Kn 2 w2 g 0 m (insertionSort (ltOf Y8) l0.toArray 0 l0.toArray.size) os).ownsRow w1.heap.size 48 2 (.slice (some ⟨g, 0, none⟩) l0.length cap) l0.length (Vf (Vb l0)).toList := by
    rw [sortWorldK, putRowK, hfl]
    exact jFl (jEc HO.out (by rw [Yw, hsz])) os
   have hBl : Go.RowKit.Below w.heap.size w (sortWorldK Kn 2 w2 g 0 m (insertionSort (ltOf Y8) l0.toArray 0 l0.toArray.size) os) := by
    have h1 := HB1.out.trans (HB2.out.mono HB1.out.size)
    exact below_grow (Go.Lib.below_putRow h1 (Nat.le_trans HB1.out.size hg)) (Nat.le_refl _) os
   refine ⟨_, rfl, ⟨fun _ _ => trivial, _, ?_, hrp _ _ _⟩, hBl⟩
   rw [hsz]
   exact jFf hR HB1.out.size
  exact absurd h (by simp)
 split at h
 ·rename_i hk
  obtain ⟨k, hk⟩ := hk
  obtain rfl := Option.some.inj h
  clear h
  have HA := Qa.mk (fun W h1 => Qf.calls k A0 c0 l0 false W h1 hc0 hk)
  clear hk
  go_enter Tryz.func38, Tryz.ntmps38
  go_wp2_with (go_at_call 45; refine (HA.out _ HR.out).mono ?_; rintro e w1 ⟨rfl, hb⟩; have HB1 := Qa.mk hb; clear hb)
  go_ret
  exact ⟨_, rfl, Kd.R_nil _ _ _ _ _, HB1.out⟩
 exact absurd h (by simp)
end Go.Proofs.YtckkfjdkaimmhaaGreatDoor.G
namespace Go.Proofs.YtckkfjdkaimmhaaGreatDoor.PX
open Go.RowKit Go.Proofs.YtckkfjdkaimmhaaGreatDoor.G Go.Proofs.YtckkfjdkaimmhaaGreatDoorW.PrintWords Go.Proofs.YtckkfjdkaimmhaaGreatDoorW.PrintLast Go.Proofs.YtckkfjdkaimmhaaGreatDoorW.PrintMore
attribute [local go_sem] max2_int min2_int Yi Yh Z4 Z7 Xk Xn   -- for this text's walks alone
set_option linter.unusedVariables false
set_option linter.unusedSimpArgs false
def Ze.f (aA : Int) (aC : Int) (aD : Int) (aG : Int) (aH : Int) (aI : Int) : Option (Int) := some (wrap64 ((wrap64 ((wrap64 (aD - aA)) * (wrap64 (aI - aC)))) - (wrap64 ((wrap64 (aG - aC)) * (wrap64 (aH - aA))))))
set_option maxHeartbeats 8000000 in
set_option maxRecDepth 100000 in
theorem Ze.calls (aQ : Int) (aT : Int) (aU : Int) (aV : Int) (aW : Int) (aX : Int) (r : Int) (w : World) (h : Ze.f aQ aT aU aV aW aX = some r) :
  Calls Tryz.prog 59 #[.agg #[.int .i64 aQ, .int .i64 aT], .agg #[.int .i64 aU, .int .i64 aV], .agg #[.int .i64 aW, .int .i64 aX]] w fun e w' => e = .returned (.int .i64 r) ∧ Below w.heap.size w w' := by
 have bU := Tryz.underlying48
 have HB := Qa.mk (Below.refl w.heap.size w)
 have H := h
 unfold Ze.f at H
 clear h
 obtain rfl := Option.some.inj H
 go_enter Tryz.func59, Tryz.ntmps59
 go_wp2_with (first | ((with_reducible refine Qo (N := 3) rfl ?_); refine zBx (N := 3) #[.int .i64 aQ, .int .i64 aT] 48 ?_; intro bM hg w4 hbox hb; have aA := Qa.mk (hbox); have bN := zS hg; have aC := zS hg; replace HB := zX hb; clear hb hbox hg) | ((with_reducible refine Qo (N := 4) rfl ?_); refine zBx (N := 4) #[.int .i64 aU, .int .i64 aV] 48 ?_; intro bO hg w5 hbox hb; have aD := Qa.mk (hbox); have bP := zSg hg (zG aC.out); have aG := zSg hg (zG aC.out); have aH := zL hg aA.out; have aI := zLg hg aA.out; replace aA := zV aA.out hb; replace HB := zX1 aC.out hb; clear hb hbox hg) | ((with_reducible refine Qo (N := 5) rfl ?_); refine zBx (N := 5) #[.int .i64 aW, .int .i64 aX] 48 ?_; intro bQ hg w6 hbox hb; have aY := Qa.mk (hbox); have bR := zSg hg (zG2 aC.out aG.out); have aZ := zSg hg (zG2 aC.out aG.out); have aJ := zL hg aA.out; have aK := zLg hg aA.out; replace aA := zV aA.out hb; have aM := zL hg aD.out; have aN := zLg hg aD.out; replace aD := zV aD.out hb; replace HB := Qa.mk (Qk (zG2 aC.out aG.out) hb); clear hb hbox hg; have bV := aI.out; have bW := aH.out; have bX := aM.out; have bY := aN.out; obtain ⟨bI, bJ, bK, bL⟩ := zq2 aD.out; have bS := aJ.out; have bT := aK.out; obtain ⟨bA, bB, bC, bD⟩ := zq2 aA.out; obtain ⟨bE, bF, bG, bH⟩ := zq2 aY.out))
 go_ret
 exact ⟨zE, zG3 aC.out aG.out aZ.out⟩
def Zi.f (a0 : Int) (a1 : Int) (a2 : Int) : Option (Bool) := if a0 ≥ a1 then (some (decide (a0 ≤ a2))) else (some false)
set_option maxHeartbeats 8000000 in
set_option maxRecDepth 100000 in
theorem Zi.calls (a0 : Int) (a1 : Int) (a2 : Int) (r : Bool) (w : World) (h : Zi.f a0 a1 a2 = some r) :
  Calls Tryz.prog 70 #[.int .i64 a0, .int .i64 a1, .int .i64 a2] w fun e w' => e = .returned (.bool r) ∧ Jc w w' := by
 have H := h
 unfold Zi.f at H
 clear h
 replace H := Z8 H
 rcases H with ⟨c4, H⟩ | ⟨c4, H⟩
 ·have aA : decide (a1 ≤ a0) = true := decide_eq_true c4
  clear c4
  obtain rfl := Option.some.inj H
  go_enter Tryz.func70, Tryz.ntmps70
  go_wp2
  go_ret
  exact ⟨by first | rfl | (simp; done) | (simp [*]; done), by repeat (first | exact Jc.refl _ | apply Jc.step)⟩
 have aA : decide (a1 ≤ a0) = false := decide_eq_false c4
 clear c4
 obtain rfl := Option.some.inj H
 go_enter Tryz.func70, Tryz.ntmps70
 go_wp2
 go_ret
 exact ⟨by first | rfl | (simp; done) | (simp [*]; done), by repeat (first | exact Jc.refl _ | apply Jc.step)⟩
def Jn.f (aA : Int) (aC : Int) (a1 : Int) : Option (Bool) := (Zi.f aA (wrap64 (-a1)) a1).bind fun aD => (if aD = true then ((Zi.f aC (wrap64 (-a1)) a1).bind fun aG => (some aG)) else (some false))
set_option maxHeartbeats 8000000 in
set_option maxRecDepth 100000 in
theorem Jn.calls (aA : Int) (aC : Int) (a1 : Int) (r : Bool) (w : World) (h : Jn.f aA aC a1 = some r) :
  Calls Tryz.prog 90 #[.agg #[.int .i64 aA, .int .i64 aC], .int .i64 a1] w fun e w' => e = .returned (.bool r) ∧ Below w.heap.size w w' := by
 have aY := Tryz.underlying48
 have HB := Qa.mk (Below.refl w.heap.size w)
 have H := h
 unfold Jn.f at H
 clear h
 obtain ⟨aJ, A3, H⟩ := zO H
 by_cases c4 : aJ = true
 ·subst c4
  replace H := (if_pos rfl).symm.trans H
  obtain ⟨aK, A5, H⟩ := zO H
  obtain rfl := Option.some.inj H
  go_enter Tryz.func90, Tryz.ntmps90
  go_wp2_with (first | ((with_reducible refine Qo (N := 2) rfl ?_); refine zBx (N := 2) #[.int .i64 aA, .int .i64 aC] 48 ?_; intro aH hg w6 hbox hb; have aD := Qa.mk (hbox); have aI := zS hg; have aG := zS hg; replace HB := zX hb; clear hb hbox hg; obtain ⟨aM, aN, aQ, aT⟩ := zq2 aD.out) | ((with_reducible refine Qd (f := 70) rfl ?_); refine zD (some 10) Tryz.func70 _ ((Zi.calls aA (wrap64 (-a1)) a1 true _ A3.out).mono ?_); rintro e w' ⟨rfl, ⟨nd, rfl⟩⟩; refine ⟨_, rfl, ?_⟩) | (go_at_call 70; (with_reducible refine (Zi.calls aC (wrap64 (-a1)) a1 aK _ A5.out).mono ?_); rintro e w' ⟨rfl, ⟨nd, rfl⟩⟩))
  go_ret
  exact ⟨zE, zG aG.out⟩
 replace c4 := Bool.eq_false_iff.mpr c4
 subst c4
 replace H := (if_neg zFf).symm.trans H
 obtain rfl := Option.some.inj H
 go_enter Tryz.func90, Tryz.ntmps90
 go_wp2_with (first | ((with_reducible refine Qo (N := 2) rfl ?_); refine zBx (N := 2) #[.int .i64 aA, .int .i64 aC] 48 ?_; intro aH hg w8 hbox hb; have aD := Qa.mk (hbox); have aI := zS hg; have aG := zS hg; replace HB := zX hb; clear hb hbox hg; obtain ⟨aU, aV, aW, aX⟩ := zq2 aD.out) | ((with_reducible refine Qd (f := 70) rfl ?_); refine zD (some 10) Tryz.func70 _ ((Zi.calls aA (wrap64 (-a1)) a1 false _ A3.out).mono ?_); rintro e w' ⟨rfl, ⟨nd, rfl⟩⟩; refine ⟨_, rfl, ?_⟩))
 go_ret
 exact ⟨zE, zG aG.out⟩
mutual
def Qh.l0 : Nat → List (S48) → Int → Option (Bool)
 | 0, _, _ => none
 | k + 1, x0, x3 => if x3 < (x0.length : Int) then (if 0 ≤ x3 then ((Jn.f ((Qb x0 x3).f0) ((Qb x0 x3).f1) 50).bind fun aA => (if aA = true then (Qh.l1 k x0 x3 0) else (some false))) else (none)) else (some true)
def Qh.l1 : Nat → List (S48) → Int → Int → Option (Bool)
 | 0, _, _, _ => none
 | k + 1, x0, x3, x4 => if x4 < x3 then (Qh.l2 k x0 x3 x4 0) else (Qh.l0 k x0 (wrap64 (x3 + 1)))
def Qh.l2 : Nat → List (S48) → Int → Int → Int → Option (Bool)
 | 0, _, _, _, _ => none
 | k + 1, x0, x3, x4, x5 => if x5 < x4 then (if 0 ≤ x5 then (if x5 < (x0.length : Int) then (if 0 ≤ x4 then (if x4 < (x0.length : Int) then (if 0 ≤ x3 then (if x3 < (x0.length : Int) then ((Ze.f ((Qb x0 x5).f0) ((Qb x0 x5).f1) ((Qb x0 x4).f0) ((Qb x0 x4).f1) ((Qb x0 x3).f0) ((Qb x0 x3).f1)).bind fun aA => (if aA = 0 then (some false) else (Qh.l2 k x0 x3 x4 (wrap64 (x5 + 1))))) else (none)) else (none)) else (none)) else (none)) else (none)) else (none)) else (Qh.l1 k x0 x3 (wrap64 (x4 + 1)))
end
def Qh.f (k : Nat) (l0 : List (S48)) : Option (Bool) := (Zi.f (l0.length : Int) 3 7).bind fun aA => (if aA = true then (Qh.l0 k l0 0) else (some false))
def Qh.T14 : Bool × List (List Nat × List Nat) := (true, [([], []), ([], []), ([0, 1], [0, 1]), ([2], [2]), ([], []), ([], []), ([4, 5], [4, 5]), ([6], [6]), ([], []), ([], []), ([8, 9], [8, 9]), ([10], [10]), ([3, 7, 11], [3, 7, 11]), ([12], [12])])
def Qh.B14 : List Nat := [0, 0, 3, 7, 0, 0, 48, 112, 0, 0, 768, 1792, 4095, 8191]
theorem Qh.tab14 : Vj .any (opsOf Tryz.f46 14) = Qh.T14 := by kernel_rfl
theorem Qh.bits14 : Z5 Qh.T14.2 Qh.B14 = true := by kernel_rfl
set_option maxHeartbeats 8000000 in
set_option maxRecDepth 100000 in
theorem Qh.calls (k : Nat) (A0 : Option Addr) (c0 : Nat) (l0 : List (S48)) (r : Bool) (w : World) (hr0 : Kd.C k48 w A0 l0.length l0) (hc0 : l0.length ≤ c0) (h : Qh.f k l0 = some r) :
  Calls Tryz.prog 46 #[.slice A0 l0.length c0] w fun e w' => e = .returned (.bool r) ∧ Below w.heap.size w w' := by
 have dD := Tryz.underlying48
 have bL := Qa.mk hr0
 have dE := Qa.mk hc0
 clear hr0 hc0
 have HB := Qa.mk (Below.refl w.heap.size w)
 have H := h
 unfold Qh.f at H
 clear h
 obtain ⟨bY, A2, H⟩ := zO H
 by_cases c3 : bY = true
 ·subst c3
  replace H := (if_pos rfl).symm.trans H
  have H' := Qa.mk H; clear H
  go_enter Tryz.func46, Tryz.ntmps46
  go_wp2_with (first | ((with_reducible refine Qd (f := 70) rfl ?_); refine zD (some 8) Tryz.func70 _ ((Zi.calls (l0.length : Int) 3 7 true _ A2.out).mono ?_); rintro e w' ⟨rfl, ⟨nd, rfl⟩⟩; refine ⟨_, rfl, ?_⟩))
  go_loopg [3] k (fun kq v3 w' => ∃ (aA : Int), v3 = .int .i64 aA ∧ Qa (Qh.l0 kq l0 aA = some r) ∧ Qa (kq ≤ k) ∧ Qa (Below w.heap.size w w'))
  case atStart => exact ⟨(0), zF, H', ⟨Nat.le_refl _⟩, ⟨zB⟩⟩
  case round =>
  clear H'
  try clear c3
  obtain ⟨aA, rfl, HA, bP, HB⟩ := hrel
  cases gk with
  | zero => exact absurd HA.out (by simp [Qh.l0])
  | succ k1 =>
  have H := HA.out
  clear HA
  simp only [Qh.l0] at H
  replace H := Xg H
  rcases H with ⟨bM, H⟩ | ⟨bM, H⟩
  ·replace H := J9 H
   rcases H with ⟨bR, H⟩ | ⟨c5, H⟩
   ·obtain ⟨bZ, A6, H⟩ := zO H
    by_cases c7 : bZ = true
    ·subst c7
     replace H := (if_pos rfl).symm.trans H
     have H' := Qa.mk H; clear H
     have bA : 0 ≤ (aA : Int) := zA
     have bB : aA < (l0.length : Int) := zA
     obtain ⟨aC, e127, aQ, aT⟩ := Jj bL.out aA bA bB
     cases e127
     replace aQ := (HB.out.cell (World.block_lt_of_cell? w _ aQ)).trans aQ
     replace aT := (HB.out.cell (World.block_lt_of_cell? w _ aT)).trans aT
     replace bA := eq_true bA
     replace bB := eq_true bB
     go_wp2_with (first | ((with_reducible refine Qd (f := 90) rfl ?_); refine zD (some 20) Tryz.func90 _ ((Jn.calls ((Qb l0 aA).f0) ((Qb l0 aA).f1) 50 true _ A6.out).mono ?_); rintro e w8 ⟨rfl, hb⟩; refine ⟨_, rfl, ?_⟩; replace HB := zX hb; (try clear hb)))
     go_loopg [4] k1 (fun kq v4 w' => ∃ (aD : Int), v4 = .int .i64 aD ∧ Qa (Qh.l1 kq l0 aA aD = some r) ∧ Qa (kq ≤ k1) ∧ Qa (Below w.heap.size w w'))
     case atStart => exact ⟨(0), zF, H', ⟨Nat.le_refl _⟩, ⟨zB⟩⟩
     case round =>
     clear H'
     try clear c3
     try clear c4
     try clear bM
     try clear c5
     try clear bR
     try clear c7
     try clear aQ
     try clear aT
     try clear bA
     try clear bB
     obtain ⟨aD, rfl, HA, bQ, HB⟩ := hrel
     cases gk with
     | zero => exact absurd HA.out (by simp [Qh.l1])
     | succ k2 =>
     have H := HA.out
     clear HA
     simp only [Qh.l1] at H
     replace H := Xg H
     rcases H with ⟨bS, H⟩ | ⟨bS, H⟩
     ·have H' := Qa.mk H; clear H
      go_wp2
      go_loopg [5] k2 (fun kq v5 w' => ∃ (aN : Int), v5 = .int .i64 aN ∧ Qa (Qh.l2 kq l0 aA aD aN = some r) ∧ Qa (kq ≤ k2) ∧ Qa (Below w.heap.size w w'))
      case atStart => exact ⟨(0), zF, H', ⟨Nat.le_refl _⟩, ⟨zB⟩⟩
      case round =>
      clear H'
      try clear c3
      try clear c4
      try clear bM
      try clear c5
      try clear bR
      try clear c7
      try clear c9
      try clear bS
      try clear aQ
      try clear aT
      try clear bA
      try clear bB
      obtain ⟨aN, rfl, HA, bX, HB⟩ := hrel
      cases gk with
      | zero => exact absurd HA.out (by simp [Qh.l2])
      | succ k3 =>
      have H := HA.out
      clear HA
      simp only [Qh.l2] at H
      replace H := Xg H
      rcases H with ⟨bT, H⟩ | ⟨bT, H⟩
      ·replace H := J9 H
       rcases H with ⟨cB, H⟩ | ⟨c11, H⟩
       ·replace H := J9 H
        rcases H with ⟨cK, H⟩ | ⟨c12, H⟩
        ·replace H := J9 H
         rcases H with ⟨cO, H⟩ | ⟨c13, H⟩
         ·replace H := J9 H
          rcases H with ⟨cZ, H⟩ | ⟨c14, H⟩
          ·replace H := J9 H
           rcases H with ⟨dA, H⟩ | ⟨c15, H⟩
           ·replace H := J9 H
            rcases H with ⟨dB, H⟩ | ⟨c16, H⟩
            ·obtain ⟨bU, dC, H⟩ := zO H
             replace H := Zb H
             rcases H with ⟨bV, bW, H⟩ | ⟨c18, bV, bW, H⟩
             ·obtain rfl := Option.some.inj H
              try go_wp2
              replace HB := Qa.mk (Qp HB.out)
              have bC : 0 ≤ (aN : Int) := zA
              have bD : aN < (l0.length : Int) := zA
              obtain ⟨bI, e129, aG, aH⟩ := Jj bL.out aN bC bD
              have aU := aH
              have aV := aG
              obtain rfl : aC = bI := (by injection e129)
              replace aG := (HB.out.cell (World.block_lt_of_cell? w _ aG)).trans aG
              replace aH := (HB.out.cell (World.block_lt_of_cell? w _ aH)).trans aH
              replace bC := eq_true bC
              replace bD := eq_true bD
              have bE : 0 ≤ (aD : Int) := zA
              have bF : aD < (l0.length : Int) := zA
              obtain ⟨bJ, bN, aI, aJ⟩ := Jj bL.out aD bE bF
              have aW := aJ
              have aX := aI
              obtain rfl : aC = bJ := (by injection bN)
              replace aI := (HB.out.cell (World.block_lt_of_cell? w _ aI)).trans aI
              replace aJ := (HB.out.cell (World.block_lt_of_cell? w _ aJ)).trans aJ
              replace bE := eq_true bE
              replace bF := eq_true bF
              have bG : 0 ≤ (aA : Int) := zA
              have bH : aA < (l0.length : Int) := zA
              obtain ⟨bK, bO, aK, aM⟩ := Jj bL.out aA bG bH
              have aY := aM
              have aZ := aK
              obtain rfl : aC = bK := (by injection bO)
              replace aK := (HB.out.cell (World.block_lt_of_cell? w _ aK)).trans aK
              replace aM := (HB.out.cell (World.block_lt_of_cell? w _ aM)).trans aM
              replace bG := eq_true bG
              replace bH := eq_true bH
              refine Zy (n := 14) (S := fun w' => w'.cell? (aC.add ((aN).toNat * 2)) = some (.int .i64 ((Qb l0 aN).f0)) ∧ w'.cell? ⟨(aC.add ((aN).toNat * 2)).block, (aC.add ((aN).toNat * 2)).off + 1, none⟩ = some (.int .i64 ((Qb l0 aN).f1)) ∧ w'.cell? (aC.add ((aD).toNat * 2)) = some (.int .i64 ((Qb l0 aD).f0)) ∧ w'.cell? ⟨(aC.add ((aD).toNat * 2)).block, (aC.add ((aD).toNat * 2)).off + 1, none⟩ = some (.int .i64 ((Qb l0 aD).f1)) ∧ w'.cell? (aC.add ((aA).toNat * 2)) = some (.int .i64 ((Qb l0 aA).f0)) ∧ w'.cell? ⟨(aC.add ((aA).toNat * 2)).block, (aC.add ((aA).toNat * 2)).off + 1, none⟩ = some (.int .i64 ((Qb l0 aA).f1))) (ds := []) #[false, false, false, false, false, false, false, false, false, false, false, false, false, false] (by kernel_rfl) rfl rfl ⟨((HB.out.cell (World.block_lt_of_cell? w _ aV)).trans aV), ((HB.out.cell (World.block_lt_of_cell? w _ aU)).trans aU), ((HB.out.cell (World.block_lt_of_cell? w _ aX)).trans aX), ((HB.out.cell (World.block_lt_of_cell? w _ aW)).trans aW), ((HB.out.cell (World.block_lt_of_cell? w _ aZ)).trans aZ), ((HB.out.cell (World.block_lt_of_cell? w _ aY)).trans aY)⟩ (fun hHeld => ?_); refine Jr Qh.tab14 Qh.bits14 (fun HT_ HW_ => ?_)
              generalize wr.drew = dF at HB aG aH aI aJ aK aM hHeld ⊢
              refine zP 0 (some 32) rfl rfl ?_
              refine zP 1 (some 33) rfl rfl ?_
              refine zP 2 (some 34) rfl rfl ?_
              refine zP 4 (some 36) rfl rfl ?_
              refine zP 5 (some 37) rfl rfl ?_
              refine zP 6 (some 38) rfl rfl ?_
              refine zP 8 (some 40) rfl rfl ?_
              refine zP 9 (some 41) rfl rfl ?_
              refine zP 10 (some 42) rfl rfl ?_
              refine zY6 3 (some 35) rfl rfl hHeld ?_
              refine zY6 7 (some 39) rfl rfl hHeld ?_
              refine zY6 11 (some 43) rfl rfl hHeld ?_
              refine zU 12 (some 44) rfl rfl (fun K hK => ?_)
              refine Xq Tryz.func59 (by kernel_rfl) rfl #[.agg #[.int .i64 ((Qb l0 aN).f0), .int .i64 ((Qb l0 aN).f1)], .agg #[.int .i64 ((Qb l0 aD).f0), .int .i64 ((Qb l0 aD).f1)], .agg #[.int .i64 ((Qb l0 aA).f0), .int .i64 ((Qb l0 aA).f1)]] (by rfl) rfl rfl zM ?_
              with_reducible refine (Ze.calls ((Qb l0 aN).f0) ((Qb l0 aN).f1) ((Qb l0 aD).f0) ((Qb l0 aD).f1) ((Qb l0 aA).f0) ((Qb l0 aA).f1) bU _ dC.out).mono ?_
              rintro e dG ⟨rfl, hb⟩
              refine ⟨_, rfl, ?_⟩
              replace HB := zX hb
              (try clear hb)
              refine hK.out _ _ ⟨((HB.out.cell (World.block_lt_of_cell? w _ aV)).trans aV), ((HB.out.cell (World.block_lt_of_cell? w _ aU)).trans aU), ((HB.out.cell (World.block_lt_of_cell? w _ aX)).trans aX), ((HB.out.cell (World.block_lt_of_cell? w _ aW)).trans aW), ((HB.out.cell (World.block_lt_of_cell? w _ aZ)).trans aZ), ((HB.out.cell (World.block_lt_of_cell? w _ aY)).trans aY)⟩ (fun hHeld => ?_)
              clear hK K
              refine zN ?_
              refine zP 13 (some 45) rfl rfl ?_
              refine Ya (Zj HT_.out (by kernel_rfl)) ?_
              try go_wp2
              go_ret
              exact ⟨zE, zB⟩
             have H' := Qa.mk H; clear H
             try go_wp2
             replace HB := Qa.mk (Qp HB.out)
             have bC : 0 ≤ (aN : Int) := zA
             have bD : aN < (l0.length : Int) := zA
             obtain ⟨bI, e129, aG, aH⟩ := Jj bL.out aN bC bD
             have aU := aH
             have aV := aG
             obtain rfl : aC = bI := (by injection e129)
             replace aG := (HB.out.cell (World.block_lt_of_cell? w _ aG)).trans aG
             replace aH := (HB.out.cell (World.block_lt_of_cell? w _ aH)).trans aH
             replace bC := eq_true bC
             replace bD := eq_true bD
             have bE : 0 ≤ (aD : Int) := zA
             have bF : aD < (l0.length : Int) := zA
             obtain ⟨bJ, bN, aI, aJ⟩ := Jj bL.out aD bE bF
             have aW := aJ
             have aX := aI
             obtain rfl : aC = bJ := (by injection bN)
             replace aI := (HB.out.cell (World.block_lt_of_cell? w _ aI)).trans aI
             replace aJ := (HB.out.cell (World.block_lt_of_cell? w _ aJ)).trans aJ
             replace bE := eq_true bE
             replace bF := eq_true bF
             have bG : 0 ≤ (aA : Int) := zA
             have bH : aA < (l0.length : Int) := zA
             obtain ⟨bK, bO, aK, aM⟩ := Jj bL.out aA bG bH
             have aY := aM
             have aZ := aK
             obtain rfl : aC = bK := (by injection bO)
             replace aK := (HB.out.cell (World.block_lt_of_cell? w _ aK)).trans aK
             replace aM := (HB.out.cell (World.block_lt_of_cell? w _ aM)).trans aM
             replace bG := eq_true bG
             replace bH := eq_true bH
             refine Zy (n := 14) (S := fun w' => w'.cell? (aC.add ((aN).toNat * 2)) = some (.int .i64 ((Qb l0 aN).f0)) ∧ w'.cell? ⟨(aC.add ((aN).toNat * 2)).block, (aC.add ((aN).toNat * 2)).off + 1, none⟩ = some (.int .i64 ((Qb l0 aN).f1)) ∧ w'.cell? (aC.add ((aD).toNat * 2)) = some (.int .i64 ((Qb l0 aD).f0)) ∧ w'.cell? ⟨(aC.add ((aD).toNat * 2)).block, (aC.add ((aD).toNat * 2)).off + 1, none⟩ = some (.int .i64 ((Qb l0 aD).f1)) ∧ w'.cell? (aC.add ((aA).toNat * 2)) = some (.int .i64 ((Qb l0 aA).f0)) ∧ w'.cell? ⟨(aC.add ((aA).toNat * 2)).block, (aC.add ((aA).toNat * 2)).off + 1, none⟩ = some (.int .i64 ((Qb l0 aA).f1))) (ds := []) #[false, false, false, false, false, false, false, false, false, false, false, false, false, false] (by kernel_rfl) rfl rfl ⟨((HB.out.cell (World.block_lt_of_cell? w _ aV)).trans aV), ((HB.out.cell (World.block_lt_of_cell? w _ aU)).trans aU), ((HB.out.cell (World.block_lt_of_cell? w _ aX)).trans aX), ((HB.out.cell (World.block_lt_of_cell? w _ aW)).trans aW), ((HB.out.cell (World.block_lt_of_cell? w _ aZ)).trans aZ), ((HB.out.cell (World.block_lt_of_cell? w _ aY)).trans aY)⟩ (fun hHeld => ?_); refine Jr Qh.tab14 Qh.bits14 (fun HT_ HW_ => ?_)
             generalize wr.drew = dH at HB aG aH aI aJ aK aM hHeld ⊢
             refine zP 0 (some 32) rfl rfl ?_
             refine zP 1 (some 33) rfl rfl ?_
             refine zP 2 (some 34) rfl rfl ?_
             refine zP 4 (some 36) rfl rfl ?_
             refine zP 5 (some 37) rfl rfl ?_
             refine zP 6 (some 38) rfl rfl ?_
             refine zP 8 (some 40) rfl rfl ?_
             refine zP 9 (some 41) rfl rfl ?_
             refine zP 10 (some 42) rfl rfl ?_
             refine zY6 3 (some 35) rfl rfl hHeld ?_
             refine zY6 7 (some 39) rfl rfl hHeld ?_
             refine zY6 11 (some 43) rfl rfl hHeld ?_
             refine zU 12 (some 44) rfl rfl (fun K hK => ?_)
             refine Xq Tryz.func59 (by kernel_rfl) rfl #[.agg #[.int .i64 ((Qb l0 aN).f0), .int .i64 ((Qb l0 aN).f1)], .agg #[.int .i64 ((Qb l0 aD).f0), .int .i64 ((Qb l0 aD).f1)], .agg #[.int .i64 ((Qb l0 aA).f0), .int .i64 ((Qb l0 aA).f1)]] (by rfl) rfl rfl zM ?_
             with_reducible refine (Ze.calls ((Qb l0 aN).f0) ((Qb l0 aN).f1) ((Qb l0 aD).f0) ((Qb l0 aD).f1) ((Qb l0 aA).f0) ((Qb l0 aA).f1) bU _ dC.out).mono ?_
             rintro e dI ⟨rfl, hb⟩
             refine ⟨_, rfl, ?_⟩
             replace HB := zX hb
             (try clear hb)
             refine hK.out _ _ ⟨((HB.out.cell (World.block_lt_of_cell? w _ aV)).trans aV), ((HB.out.cell (World.block_lt_of_cell? w _ aU)).trans aU), ((HB.out.cell (World.block_lt_of_cell? w _ aX)).trans aX), ((HB.out.cell (World.block_lt_of_cell? w _ aW)).trans aW), ((HB.out.cell (World.block_lt_of_cell? w _ aZ)).trans aZ), ((HB.out.cell (World.block_lt_of_cell? w _ aY)).trans aY)⟩ (fun hHeld => ?_)
             clear hK K
             refine zN ?_
             refine zP 13 (some 45) rfl rfl ?_
             refine Ya (Zj HT_.out (by kernel_rfl)) ?_
             try go_wp2
             go_roundg k3
             case measure => have := bP.out; have := bQ.out; have := bX.out; omega
             case rel => exact ⟨(wrap64 (aN + 1)), zF, H', ⟨by have := bP.out; have := bQ.out; have := bX.out; omega⟩, ⟨zB⟩⟩
            exact absurd H (by simp)
           exact absurd H (by simp)
          exact absurd H (by simp)
         exact absurd H (by simp)
        exact absurd H (by simp)
       exact absurd H (by simp)
      have H' := Qa.mk H; clear H
      go_wp2
      go_roundg k3
      case measure => have := bP.out; have := bQ.out; have := bX.out; omega
      case rel => exact ⟨(wrap64 (aD + 1)), zF, H', ⟨by have := bP.out; have := bQ.out; have := bX.out; omega⟩, ⟨zB⟩⟩
     have H' := Qa.mk H; clear H
     go_wp2
     go_roundg k2
     case measure => have := bP.out; have := bQ.out; omega
     case rel => exact ⟨(wrap64 (aA + 1)), zF, H', ⟨by have := bP.out; have := bQ.out; omega⟩, ⟨zB⟩⟩
    replace c7 := Bool.eq_false_iff.mpr c7
    subst c7
    replace H := (if_neg zFf).symm.trans H
    obtain rfl := Option.some.inj H
    have bA : 0 ≤ (aA : Int) := zA
    have bB : aA < (l0.length : Int) := zA
    obtain ⟨aC, e127, aQ, aT⟩ := Jj bL.out aA bA bB
    cases e127
    replace aQ := (HB.out.cell (World.block_lt_of_cell? w _ aQ)).trans aQ
    replace aT := (HB.out.cell (World.block_lt_of_cell? w _ aT)).trans aT
    replace bA := eq_true bA
    replace bB := eq_true bB
    go_wp2_with (first | ((with_reducible refine Qd (f := 90) rfl ?_); refine zD (some 20) Tryz.func90 _ ((Jn.calls ((Qb l0 aA).f0) ((Qb l0 aA).f1) 50 false _ A6.out).mono ?_); rintro e dJ ⟨rfl, hb⟩; refine ⟨_, rfl, ?_⟩; replace HB := zX hb; (try clear hb)))
    go_ret
    exact ⟨zE, zB⟩
   exact absurd H (by simp)
  obtain rfl := Option.some.inj H
  go_wp2
  go_ret
  exact ⟨zE, zB⟩
 replace c3 := Bool.eq_false_iff.mpr c3
 subst c3
 replace H := (if_neg zFf).symm.trans H
 obtain rfl := Option.some.inj H
 go_enter Tryz.func46, Tryz.ntmps46
 go_wp2_with (first | ((with_reducible refine Qd (f := 70) rfl ?_); refine zD (some 8) Tryz.func70 _ ((Zi.calls (l0.length : Int) 3 7 false _ A2.out).mono ?_); rintro e w' ⟨rfl, ⟨nd, rfl⟩⟩; refine ⟨_, rfl, ?_⟩))
 go_ret
 exact ⟨zE, zB⟩
theorem jIe (d : Nat) (w : World) (x0 y0 : Int) (x1 y1 : Int) :
  (Op.equalIn (d + 2) 48 (.agg #[.int .i64 x0, .int .i64 x1]) (.agg #[.int .i64 y0, .int .i64 y1])).run Tryz.prog w = .ok (x0 == y0 && (x1 == y1)) w := by
 refine jIn Tryz.underlying48 (by kernel_rfl) ?_
 refine jFy (by rfl) (by go_simp; rfl) (by go_simp; rfl) (by go_simp) ?_
 exact jF8 (by rfl) (by go_simp; rfl) (by go_simp; rfl) (by go_simp)
def Qe (w0 W : World) (g : Nat) (f0 : List Int) (f1 : Int) (f2 : Int) : Prop := ∃ A0 c0, W.heap[g]? = some (.cells #[.slice A0 f0.length c0, .int .i64 f1, .int .i64 f2] 110 (0, 0)) ∧ w0.heap.size ≤ g ∧ Kd.C (Kd.int .u8) w0 A0 f0.length f0
theorem Qe.grown {w0 W : World} {g : Nat} {f0 : List Int} {f1 : Int} {f2 : Int} {W1 : World} {row : Option Nat} (h : Qe w0 W g f0 f1 f2) (hw : W.grownBy W1 row) (hne : some g ≠ row) : Qe w0 W1 g f0 f1 f2 := by
 obtain ⟨A0, c0, hb, hg, hr0⟩ := h
 exact ⟨A0, c0, Vs hb hw hne, hg, hr0⟩
theorem Qe.fresh {w0 W : World} {g : Nat} {f0 : List Int} {f1 : Int} {f2 : Int} (h : Qe w0 W g f0 f1 f2) : ∀ k, W.heap.size ≤ k → k ≠ g := by
 obtain ⟨A0, c0, hb, hg, hr0⟩ := h
 exact Kd.freshB hb
theorem Qe.below {w0 W : World} {g : Nat} {f0 : List Int} {f1 : Int} {f2 : Int} {W1 : World} (h : Qe w0 W g f0 f1 f2) (hw : Below W.heap.size W W1) : Qe w0 W1 g f0 f1 f2 := h.grown (V5 hw none) (by simp)
theorem Qe.alloc {w0 W : World} {g : Nat} {f0 : List Int} {f1 : Int} {f2 : Int} (h : Qe w0 W g f0 f1 f2) (o : Obj) : Qe w0 (W.alloc o) g f0 f1 f2 := h.below (Qw (Below.refl _ _) o)
theorem Qe.drewN {w0 W : World} {g : Nat} {f0 : List Int} {f1 : Int} {f2 : Int} (h : Qe w0 W g f0 f1 f2) (m : Nat) : Qe w0 (W.drewN m) g f0 f1 f2 := h
theorem Qe.drew {w0 W : World} {g : Nat} {f0 : List Int} {f1 : Int} {f2 : Int} (h : Qe w0 W g f0 f1 f2) : Qe w0 W.drew g f0 f1 f2 := h
theorem Qe.apart {w0 W : World} {g : Nat} {f0 : List Int} {f1 : Int} {f2 : Int} {α : Type} {d : Kd α} {e : Nat} {base : Nat} {ok : Nat → Prop} {v : Value} {xs : List α} (h : Qe w0 W g f0 f1 f2) (ho : d.R e W base ok v xs) (ht : ∀ q, q ∈ e :: d.E → q ≠ 110) : d.R e W base (fun k => ok k ∧ k ≠ g) v xs := by
 obtain ⟨A0, c0, hb, hg, hr0⟩ := h
 exact Kd.R_types ho hb ht
theorem Qe.own_ne {w0 W : World} {g : Nat} {f0 : List Int} {f1 : Int} {f2 : Int} {α : Type} {d : Kd α} {e : Nat} {base : Nat} {ok : Nat → Prop} {v : Value} {xs : List α} (h : Qe w0 W g f0 f1 f2) (ho : d.R e W base ok v xs) (ht : e ≠ 110) : some g ≠ v.ownBlock := by
 obtain ⟨A0, c0, hb, hg, hr0⟩ := h
 exact Kd.R_ne ho hb ht
theorem Qe.lt {w0 W : World} {g : Nat} {f0 : List Int} {f1 : Int} {f2 : Int} (h : Qe w0 W g f0 f1 f2) : g < W.heap.size := by
 obtain ⟨A0, c0, hb, hg, hr0⟩ := h
 exact V3 hb
theorem Qe.ge {w0 W : World} {g : Nat} {f0 : List Int} {f1 : Int} {f2 : Int} (h : Qe w0 W g f0 f1 f2) : w0.heap.size ≤ g := by
 obtain ⟨A0, c0, hb, hg, hr0⟩ := h
 exact hg
theorem Qe.ne_blk {w0 W : World} {g : Nat} {f0 : List Int} {f1 : Int} {f2 : Int} {a : Nat} {cs : Array Value} {t : TypeId} {fr : Nat × Nat} (h : Qe w0 W g f0 f1 f2) (hb2 : W.heap[a]? = some (.cells cs t fr)) (ht : t ≠ 110) : g ≠ a := by
 obtain ⟨A0, c0, hb, hg, hr0⟩ := h
 rintro rfl
 rw [hb] at hb2
 injection hb2 with hb2
 injection hb2 with _ ht2
 exact ht ht2.symm
theorem Qe.far {w0 W : World} {g : Nat} {f0 : List Int} {f1 : Int} {f2 : Int} {p : Addr} (h : Qe w0 W g f0 f1 f2) (hne : g ≠ p.block) (u : Value) : Qe w0 (W.setCell p u) g f0 f1 f2 := by
 obtain ⟨A0, c0, hb, hg, hr0⟩ := h
 exact ⟨A0, c0, X6 hb hne u, hg, hr0⟩
theorem Ww {W : World} {g : Nat} {A0 : Option Addr} {c0 : Nat} {f0 : List Int} {f1 : Int} {f2 : Int} (h : W.heap[g]? = some (.cells #[.slice A0 f0.length c0, .int .i64 f1, .int .i64 f2] 110 (0, 0))) : W.cell? ⟨g, 0, none⟩ = some (.slice A0 f0.length c0) := (Qn h 0).trans rfl
theorem Wy {W : World} {g : Nat} {A0 : Option Addr} {c0 : Nat} {f0 : List Int} {f1 : Int} {f2 : Int} (h : W.heap[g]? = some (.cells #[.slice A0 f0.length c0, .int .i64 f1, .int .i64 f2] 110 (0, 0))) : W.cell? ⟨g, 1, none⟩ = some (.int .i64 f1) := (Qn h 1).trans rfl
theorem Qe.set_1 {w0 W : World} {g : Nat} {f0 : List Int} {f1 : Int} {f2 : Int} (h : Qe w0 W g f0 f1 f2) (x : Int) : Qe w0 (W.setCell ⟨g, 1, none⟩ (.int .i64 x)) g f0 x f2 := by
 obtain ⟨A0, c0, hb, hg, hr0⟩ := h
 exact ⟨A0, c0, by simpa using jAo hb 1 (.int .i64 x), hg, hr0⟩
theorem Wu {W : World} {g : Nat} {A0 : Option Addr} {c0 : Nat} {f0 : List Int} {f1 : Int} {f2 : Int} (h : W.heap[g]? = some (.cells #[.slice A0 f0.length c0, .int .i64 f1, .int .i64 f2] 110 (0, 0))) : W.cell? ⟨g, 2, none⟩ = some (.int .i64 f2) := (Qn h 2).trans rfl
theorem Qe.set_2 {w0 W : World} {g : Nat} {f0 : List Int} {f1 : Int} {f2 : Int} (h : Qe w0 W g f0 f1 f2) (x : Int) : Qe w0 (W.setCell ⟨g, 2, none⟩ (.int .i64 x)) g f0 f1 x := by
 obtain ⟨A0, c0, hb, hg, hr0⟩ := h
 exact ⟨A0, c0, by simpa using jAo hb 2 (.int .i64 x), hg, hr0⟩
def Jm.l0 : Nat → List Int → Int → Int → Option (List Int × Int × Int)
 | 0, _, _, _ => none
 | k + 1, x0, x3, x4 => if x4 < (x0.length : Int) then (if x4 < 4000 then (if 0 ≤ x4 then (Jm.l0 k x0 (Go.bits .and .i64 (wrap64 ((wrap64 ((wrap64 (x3 * 131)) + (wrap64 (rd x0 x4)))) + 7)) 1073741823) (wrap64 (x4 + 1))) else (none)) else (some (x0, 0, x3))) else (some (x0, 0, x3))
def Jm.f (k : Nat) (l0 : List Int) : Option (List Int × Int × Int) := Jm.l0 k l0 (wrap64 (26583 + (l0.length : Int))) 0
theorem jC6 {p q : Prop} (g : p) (h : p → q := by intro zg_; repeat (first | (with_reducible first | exact zg_ | apply Qw | apply Qs | apply Qp) | exact zg_)) : q := h g
theorem jIu {p q p0 : Prop} (g : p) (g0 : p0) (h : p → p0 → q := by intro zg_ aA; repeat (first | (with_reducible first | exact zg_ | apply Qw | apply Qs | apply Qp | refine Q5 ?_ aA) | exact zg_)) : q := h g g0
set_option maxHeartbeats 8000000 in
set_option maxRecDepth 100000 in
theorem Jm.calls (k : Nat) (A0 : Option Addr) (c0 : Nat) (l0 : List Int) (r1 : List Int) (r2 : Int) (r3 : Int) (w0 w : World) (hB : Below w0.heap.size w0 w) (hr0 : Kd.C (Kd.int .u8) w0 A0 l0.length l0) (hc0 : l0.length ≤ c0) (h : Jm.f k l0 = some (r1, r2, r3)) :
  Calls Tryz.prog 49 #[.slice A0 l0.length c0] w fun e w' => ∃ g_ : Nat, e = .returned (.pointer (some ⟨g_, 0, none⟩)) ∧ Qe w0 w' g_ r1 r2 r3 ∧ Below w0.heap.size w0 w' ∧ Below w.heap.size w w' := by
 have aZ := Tryz.underlying110
 have aV := Qa.mk hr0
 have bD := Qa.mk hc0
 clear hr0 hc0
 have HBW := Qa.mk (Below.refl w.heap.size w)
 have HW0 := Qa.mk hB.size
 have HB := Qa.mk hB
 clear hB
 have H := h
 unfold Jm.f at H
 clear h
 have H' := Qa.mk H; clear H
 go_enter Tryz.func49, Tryz.ntmps49
 go_wp2
 go_loopg [3, 4] k (fun kq v3 v4 w' => ∃ (aA : Int) (aC : Int), v3 = .int .i64 aA ∧ v4 = .int .i64 aC ∧ Qa (Jm.l0 kq l0 aA aC = some (r1, r2, r3)) ∧ Qa (kq ≤ k) ∧ Qa (Below w0.heap.size w0 w') ∧ Qa (Below w.heap.size w w'))
 case atStart => exact ⟨(wrap64 (26583 + (l0.length : Int))), (0), zF, zF, H', ⟨Nat.le_refl _⟩, ⟨zB⟩, ⟨(jC6 HBW.out)⟩⟩
 case round =>
 clear H'
 obtain ⟨aA, aC, rfl, rfl, HA, bA, HB, HBW⟩ := hrel
 cases gk with
 | zero => exact absurd HA.out (by simp [Jm.l0])
 | succ k1 =>
 have H := HA.out
 clear HA
 simp only [Jm.l0] at H
 replace H := Xg H
 rcases H with ⟨aW, H⟩ | ⟨aW, H⟩
 ·replace H := Xg H
  rcases H with ⟨aX, H⟩ | ⟨aX, H⟩
  ·replace H := J9 H
   rcases H with ⟨bC, H⟩ | ⟨c4, H⟩
   ·have H' := Qa.mk H; clear H
    have aK : 0 ≤ (aC : Int) := zA
    have aM : aC < (l0.length : Int) := zA
    obtain ⟨bB, aY, aD⟩ := Kd.at_int aV.out aC aK aM
    cases aY
    replace aD := X7 HB.out aD
    replace aK := eq_true aK
    replace aM := eq_true aM
    go_wp2
    go_roundg k1
    case measure => have := bA.out; omega
    case rel => exact ⟨(Go.bits .and .i64 (wrap64 ((wrap64 ((wrap64 (aA * 131)) + (wrap64 (rd l0 aC)))) + 7)) 1073741823), (wrap64 (aC + 1)), zF, zF, H', ⟨by have := bA.out; omega⟩, ⟨zB⟩, ⟨(jC6 HBW.out)⟩⟩
   exact absurd H (by simp)
  simp only [Option.some.injEq, Prod.mk.injEq] at H
  obtain ⟨rfl, rfl, rfl⟩ := H
  go_wp2_with (first | ((with_reducible refine Qo (N := 31) rfl ?_); refine zBx (N := 31) #[.slice A0 l0.length c0, .int .i64 0, .int .i64 aA] 110 ?_; intro aG hg w5 hbox hb; have aN := Qa.mk (hbox); have aQ := Qa.mk ((by rw [hg]; exact (Ql (jC6 HBW.out)) : w.heap.size ≤ aG)); have aI := Qa.mk ((Nat.le_trans HW0.out (by rw [hg]; exact (Ql (jC6 HBW.out)) : w.heap.size ≤ aG) : w0.heap.size ≤ aG)); replace HBW := Qa.mk (Qk HBW.out hb); replace HB := zX hb; clear hb hbox hg))
  go_ret
  exact ⟨_, rfl, (show Qe w0 _ aG l0 0 aA from ⟨_, _, zK aN.out, aI.out, aV.out⟩), zG aI.out, (jIu HBW.out aQ.out)⟩
 simp only [Option.some.injEq, Prod.mk.injEq] at H
 obtain ⟨rfl, rfl, rfl⟩ := H
 go_wp2_with (first | ((with_reducible refine Qo (N := 31) rfl ?_); refine zBx (N := 31) #[.slice A0 l0.length c0, .int .i64 0, .int .i64 aA] 110 ?_; intro aH hg w6 hbox hb; have aT := Qa.mk (hbox); have aU := Qa.mk ((by rw [hg]; exact (Ql (jC6 HBW.out)) : w.heap.size ≤ aH)); have aJ := Qa.mk ((Nat.le_trans HW0.out (by rw [hg]; exact (Ql (jC6 HBW.out)) : w.heap.size ≤ aH) : w0.heap.size ≤ aH)); replace HBW := Qa.mk (Qk HBW.out hb); replace HB := zX hb; clear hb hbox hg))
 go_ret
 exact ⟨_, rfl, (show Qe w0 _ aH l0 0 aA from ⟨_, _, zK aT.out, aJ.out, aV.out⟩), zG aJ.out, (jIu HBW.out aU.out)⟩
def J8.f (aD : List Int) (aC : Int) (aA : Int) : Option (Int × Int × Int) := if aC < (aD.length : Int) then (if 0 ≤ aC then (some (Go.bits .and .i64 (wrap64 ((Go.bits .and .i64 (Go.bits .xor .i64 ((wrap64 ((wrap64 (aA * 6364136223846793005)) + 1442695040888963407)) / 8589934592) ((wrap64 ((wrap64 (aA * 6364136223846793005)) + 1442695040888963407)) / 35184372088832)) 255) + (wrap64 (rd aD aC)))) 255, wrap64 (aC + 1), wrap64 ((wrap64 (aA * 6364136223846793005)) + 1442695040888963407))) else (none)) else (some (Go.bits .and .i64 (Go.bits .xor .i64 ((wrap64 ((wrap64 (aA * 6364136223846793005)) + 1442695040888963407)) / 8589934592) ((wrap64 ((wrap64 (aA * 6364136223846793005)) + 1442695040888963407)) / 35184372088832)) 255, aC, wrap64 ((wrap64 (aA * 6364136223846793005)) + 1442695040888963407)))
theorem jIk {p q : Prop} (g : p) (h : p → q := by intro zg_; repeat (first | (with_reducible first | exact zg_ | apply Qe.alloc | apply Qe.drewN | apply Qe.drew | apply Qe.set_1 | apply Qe.set_2) | exact zg_)) : q := h g
theorem jHq {p q : Prop} (g : p) (h : p → q := by intro zg_; repeat (first | (with_reducible first | exact zg_ | apply Qq.set_ | apply Xl | apply Xa | apply Xm) | exact zg_)) : q := h g
set_option maxHeartbeats 8000000 in
set_option maxRecDepth 100000 in
theorem J8.calls (g : Nat) (aI : List Int) (aH : Int) (aJ : Int) (r1 : Int) (r2 : Int) (r3 : Int) (w0 w : World) (hI : Qe w0 w g aI aH aJ) (hB : Below w0.heap.size w0 w) (h : J8.f aI aH aJ = some (r1, r2, r3)) :
  Calls Tryz.prog 102 #[.pointer (some ⟨g, 0, none⟩)] w fun e w' => e = .returned (.int .i64 r1) ∧ Qe w0 w' g aI r2 r3 ∧ Below w0.heap.size w0 w' ∧ Qq w w' g none := by
 have HI0 := Qa.mk hI
 have HK := Qa.mk (Qq.refl w g none)
 have HL := Qa.mk hB.size
 clear hI
 have HW0 := Qa.mk hB.size
 have HB := Qa.mk hB
 clear hB
 have H := h
 unfold J8.f at H
 clear h
 replace H := Xg H
 rcases H with ⟨aU, H⟩ | ⟨aU, H⟩
 ·replace H := J9 H
  rcases H with ⟨bN, H⟩ | ⟨c3, H⟩
  ·simp only [Option.some.injEq, Prod.mk.injEq] at H
   obtain ⟨rfl, rfl, rfl⟩ := H
   obtain ⟨aV, aW, aD, aX, aK⟩ := HI0.out
   have aY := Ww aD
   have aZ := Wy aD
   have bA := Wu aD
   have bB := Qy aD 1
   have bC := Qy aD 2
   clear aD aX
   have aM : 0 ≤ (aH : Int) := zA
   have aN : aH < (aI.length : Int) := zA
   obtain ⟨aQ, bD, aA⟩ := Kd.at_int aK aH aM aN
   cases bD
   have aC : aQ.block ≠ g := Nat.ne_of_lt (Nat.lt_of_lt_of_le (by have := World.block_lt_of_cell? _ _ aA; first | rwa [add_block] at this | exact this) (Qe.ge HI0.out))
   replace aA := X7 HB.out aA
   replace aA := (cell_far (p := ⟨g, 2, none⟩) (by first | (rw [add_block]; exact aC) | (show (Addr.add _ _).block ≠ _; rw [add_block]; exact aC) | exact aC) (.int .i64 (wrap64 ((wrap64 (aJ * 6364136223846793005)) + 1442695040888963407)))).trans aA
   (try have aT := fun (n_ : Nat) => (show (((w.drewN n_).setCell ⟨g, 2, none⟩ (.int .i64 (wrap64 ((wrap64 (aJ * 6364136223846793005)) + 1442695040888963407))))).cell? _ = some _ from aA))
   clear aC
   replace aM := eq_true aM
   replace aN := eq_true aN
   go_enter Tryz.func102, Tryz.ntmps102
   go_wp2
   repeat (go_quiet (fail); try go_wp2)
   go_ret
   exact ⟨zE, (jIk HI0.out), zG (Qe.ge HI0.out), (jHq HK.out)⟩
  exact absurd H (by simp)
 simp only [Option.some.injEq, Prod.mk.injEq] at H
 obtain ⟨rfl, rfl, rfl⟩ := H
 obtain ⟨bE, bF, aG, bG, bH⟩ := HI0.out
 have bI := Ww aG
 have bJ := Wy aG
 have bK := Wu aG
 have bL := Qy aG 1
 have bM := Qy aG 2
 clear aG bG
 go_enter Tryz.func102, Tryz.ntmps102
 go_wp2
 repeat (go_quiet (fail); try go_wp2)
 go_ret
 exact ⟨zE, (jIk HI0.out), zG (Qe.ge HI0.out), (jHq HK.out)⟩
def Q3.f (aA : List Int) (aJ : Int) (aK : Int) (a1 : Int) : Option (Int × Int × Int) := if a1 ≤ 0 then (some (0, aJ, aK)) else (if a1 ≤ 256 then ((J8.f aA aJ aK).bind fun aC => (if a1 = 0 then (none) else (some (Int.tmod aC.1 a1, aC.2.1, aC.2.2)))) else ((J8.f aA aJ aK).bind fun aD => ((J8.f aA aD.2.1 aD.2.2).bind fun aG => ((J8.f aA aG.2.1 aG.2.2).bind fun aH => ((J8.f aA aH.2.1 aH.2.2).bind fun aI => (if a1 = 0 then (none) else (some (Int.tmod (wrap64 ((wrap64 ((wrap64 ((wrap64 (aD.1 * 16777216)) + (wrap64 (aG.1 * 65536)))) + (wrap64 (aH.1 * 256)))) + aI.1)) a1, aI.2.1, aI.2.2))))))))
theorem jBs {p q : Prop} (g : p) (h : p → q := by intro zg_; repeat (first | (with_reducible first | exact zg_ | apply Qe.alloc | apply Qe.drewN | apply Qe.drew | apply Qe.set_1 | apply Qe.set_2) | exact zg_)) : q := h g
theorem jBo {p q : Prop} (g : p) (h : p → q := by intro zg_; repeat (first | (with_reducible first | exact zg_ | apply Qq.set_ | apply Xl | apply Xa | apply Xm) | exact zg_)) : q := h g
theorem jEm {p q p0 : Prop} (g : p) (g0 : p0) (h : p → p0 → q := by intro zg_ aA; repeat (first | (with_reducible first | exact zg_ | apply Qw | apply Qs | apply Qp | refine Q5 ?_ aA) | exact zg_)) : q := h g g0
set_option maxHeartbeats 8000000 in
set_option maxRecDepth 100000 in
theorem Q3.calls (g : Nat) (aD : List Int) (aG : Int) (aH : Int) (a1 : Int) (r1 : Int) (r2 : Int) (r3 : Int) (w0 w : World) (hI : Qe w0 w g aD aG aH) (hB : Below w0.heap.size w0 w) (h : Q3.f aD aG aH a1 = some (r1, r2, r3)) :
  Calls Tryz.prog 51 #[.pointer (some ⟨g, 0, none⟩), .int .i64 a1] w fun e w' => e = .returned (.int .i64 r1) ∧ Qe w0 w' g aD r2 r3 ∧ Below w0.heap.size w0 w' ∧ Qq w w' g none := by
 have HI0 := Qa.mk hI
 have HK := Qa.mk (Qq.refl w g none)
 have HL := Qa.mk hB.size
 clear hI
 have HW0 := Qa.mk hB.size
 have HB := Qa.mk hB
 clear hB
 have H := h
 unfold Q3.f at H
 clear h
 replace H := Xg H
 rcases H with ⟨aT, H⟩ | ⟨aT, H⟩
 ·simp only [Option.some.injEq, Prod.mk.injEq] at H
  obtain ⟨rfl, rfl, rfl⟩ := H
  go_enter Tryz.func51, Tryz.ntmps51
  go_wp2
  go_ret
  exact ⟨zE, (jBs HI0.out), zG (Qe.ge HI0.out), (jBo HK.out)⟩
 replace H := Xg H
 rcases H with ⟨aU, H⟩ | ⟨aU, H⟩
 ·obtain ⟨⟨aV, aW, aX⟩, A5, H⟩ := zO H
  dsimp only at H
  replace H := jD6 H
  rcases H with ⟨c6, H⟩ | ⟨c6, bG, bH, H⟩
  ·exact absurd H (by simp)
  simp only [Option.some.injEq, Prod.mk.injEq] at H
  obtain ⟨rfl, rfl, rfl⟩ := H
  go_enter Tryz.func51, Tryz.ntmps51
  go_wp2_with (first | ((with_reducible refine Qd (f := 102) rfl ?_); refine zD (some 14) Tryz.func102 _ ((J8.calls g aD aG aH aV aW aX w0 _ ?aA ?aC A5.out).mono ?_); (case aA => exact (jBs HI0.out)); (case aC => exact (jEm HB.out (Qe.ge HI0.out))); rintro e w7 ⟨rfl, hi, hb, hk⟩; refine ⟨_, rfl, ?_⟩; replace HK := Qa.mk (Qq.trans (jBo HK.out) hk (.inl rfl)); replace HI0 := Qa.mk (hi); replace HB := Qa.mk (hb); (try clear hb); (try clear hk); (try clear hi)))
  go_ret
  exact ⟨zE, (jBs HI0.out), zG (Qe.ge HI0.out), (jBo HK.out)⟩
 obtain ⟨⟨aY, aI, aJ⟩, A8, H⟩ := zO H
 dsimp only at H
 obtain ⟨⟨aZ, aK, aM⟩, A9, H⟩ := zO H
 dsimp only at H
 obtain ⟨⟨bA, aN, aQ⟩, bI, H⟩ := zO H
 dsimp only at H
 obtain ⟨⟨bB, bC, bD⟩, bJ, H⟩ := zO H
 dsimp only at H
 replace H := jD6 H
 rcases H with ⟨c12, H⟩ | ⟨c12, bE, bF, H⟩
 ·exact absurd H (by simp)
 simp only [Option.some.injEq, Prod.mk.injEq] at H
 obtain ⟨rfl, rfl, rfl⟩ := H
 go_enter Tryz.func51, Tryz.ntmps51
 go_wp2_with (first | ((with_reducible refine Qd (f := 102) rfl ?_); refine zD (some 18) Tryz.func102 _ ((J8.calls g aD aG aH aY aI aJ w0 _ ?aA ?aC A8.out).mono ?_); (case aA => exact (jBs HI0.out)); (case aC => exact (jEm HB.out (Qe.ge HI0.out))); rintro e bK ⟨rfl, hi, hb, hk⟩; refine ⟨_, rfl, ?_⟩; replace HK := Qa.mk (Qq.trans (jBo HK.out) hk (.inl rfl)); replace HI0 := Qa.mk (hi); replace HB := Qa.mk (hb); (try clear hb); (try clear hk); (try clear hi)) | ((with_reducible refine Qd (f := 102) rfl ?_); refine zD (some 20) Tryz.func102 _ ((J8.calls g aD aI aJ aZ aK aM w0 _ ?aA ?aC A9.out).mono ?_); (case aA => exact (jBs HI0.out)); (case aC => exact (jEm HB.out (Qe.ge HI0.out))); rintro e bL ⟨rfl, hi, hb, hk⟩; refine ⟨_, rfl, ?_⟩; replace HK := Qa.mk (Qq.trans (jBo HK.out) hk (.inl rfl)); replace HI0 := Qa.mk (hi); replace HB := Qa.mk (hb); (try clear hb); (try clear hk); (try clear hi)) | ((with_reducible refine Qd (f := 102) rfl ?_); refine zD (some 22) Tryz.func102 _ ((J8.calls g aD aK aM bA aN aQ w0 _ ?aA ?aC bI.out).mono ?_); (case aA => exact (jBs HI0.out)); (case aC => exact (jEm HB.out (Qe.ge HI0.out))); rintro e bM ⟨rfl, hi, hb, hk⟩; refine ⟨_, rfl, ?_⟩; replace HK := Qa.mk (Qq.trans (jBo HK.out) hk (.inl rfl)); replace HI0 := Qa.mk (hi); replace HB := Qa.mk (hb); (try clear hb); (try clear hk); (try clear hi)) | ((with_reducible refine Qd (f := 102) rfl ?_); refine zD (some 24) Tryz.func102 _ ((J8.calls g aD aN aQ bB bC bD w0 _ ?aA ?aC bJ.out).mono ?_); (case aA => exact (jBs HI0.out)); (case aC => exact (jEm HB.out (Qe.ge HI0.out))); rintro e w16 ⟨rfl, hi, hb, hk⟩; refine ⟨_, rfl, ?_⟩; replace HK := Qa.mk (Qq.trans (jBo HK.out) hk (.inl rfl)); replace HI0 := Qa.mk (hi); replace HB := Qa.mk (hb); (try clear hb); (try clear hk); (try clear hi)))
 go_ret
 exact ⟨zE, (jBs HI0.out), zG (Qe.ge HI0.out), (jBo HK.out)⟩
end Go.Proofs.YtckkfjdkaimmhaaGreatDoor.PX
namespace Go.Proofs.YtckkfjdkaimmhaaGreatDoor.PX
open Go.RowKit Go.Proofs.YtckkfjdkaimmhaaGreatDoor.G Go.Proofs.YtckkfjdkaimmhaaGreatDoorW.PrintWords Go.Proofs.YtckkfjdkaimmhaaGreatDoorW.PrintLast Go.Proofs.YtckkfjdkaimmhaaGreatDoorW.PrintMore
attribute [local go_sem] max2_int min2_int Yi Yh Z4 Z7 Xk Xn   -- for this text's walks alone
set_option linter.unusedVariables false
set_option linter.unusedSimpArgs false
attribute [local go_sem high] jIe
mutual
def Qj.l0 : Nat → Int → List (S48) → Int → List Int → Int → Int → Option ((List (S48)) × Int × Int)
 | 0, _, _, _, _, _, _ => none
 | k + 1, x3, x4, x5, x1000, aA, aC => if x5 < 12 then (Qj.j1 k x3 x4 x5 (decide ((x4.length : Int) < x3)) x1000 aA aC) else (Qj.j1 k x3 x4 x5 false x1000 aA aC)
def Qj.j1 : Nat → Int → List (S48) → Int → Bool → List Int → Int → Int → Option ((List (S48)) × Int × Int)
 | 0, _, _, _, _, _, _, _ => none
 | k + 1, x3, x4, x5, aH, x1000, aA, aC => if aH = true then ((Q3.f x1000 aA aC 13).bind fun aD => ((Q3.f x1000 aD.2.1 aD.2.2 13).bind fun aG => (Qj.l1 k x3 x4 x5 true 0 x1000 aG.2.1 aG.2.2 (wrap64 (aD.1 - 6)) (wrap64 (aG.1 - 6))))) else (if (x4.length : Int) < 3 then (some ((([(⟨0, 0⟩ : S48), (⟨4, 1⟩ : S48), (⟨1, 3⟩ : S48), (⟨2, 2⟩ : S48)] : List (S48))), aA, aC)) else (some (x4, aA, aC)))
def Qj.l1 : Nat → Int → List (S48) → Int → Bool → Int → List Int → Int → Int → Int → Int → Option ((List (S48)) × Int × Int)
 | 0, _, _, _, _, _, _, _, _, _, _ => none
 | k + 1, x3, x4, x5, x7, x8, x1000, aD, aG, aA, aC => if x8 < (x4.length : Int) then (Qj.j3 k x3 x4 x5 x7 x8 x7 x1000 aD aG aA aC) else (Qj.j3 k x3 x4 x5 x7 x8 false x1000 aD aG aA aC)
def Qj.j3 : Nat → Int → List (S48) → Int → Bool → Int → Bool → List Int → Int → Int → Int → Int → Option ((List (S48)) × Int × Int)
 | 0, _, _, _, _, _, _, _, _, _, _, _ => none
 | k + 1, x3, x4, x5, x7, x8, aH, x1000, aD, aG, aA, aC => if aH = true then (if 0 ≤ x8 then (if x8 < (x4.length : Int) then (Qj.l2 k x3 x4 x5 (!(((Qb x4 x8).f0) == aA) || (!(((Qb x4 x8).f1) == aC))) x8 0 x1000 aD aG aA aC) else (none)) else (none)) else (if x7 = true then (if x4.length < 8796093022208 then (Qj.l0 k x3 (x4 ++ [(⟨aA, aC⟩ : S48)]) (wrap64 (x5 + 1)) x1000 aD aG) else (none)) else (Qj.l0 k x3 x4 (wrap64 (x5 + 1)) x1000 aD aG))
def Qj.l2 : Nat → Int → List (S48) → Int → Bool → Int → Int → List Int → Int → Int → Int → Int → Option ((List (S48)) × Int × Int)
 | 0, _, _, _, _, _, _, _, _, _, _, _ => none
 | k + 1, x3, x4, x5, x7, x8, x9, x1000, aD, aG, aA, aC => if x9 < x8 then (if x7 = true then (if 0 ≤ x9 then (if x9 < (x4.length : Int) then (if 0 ≤ x8 then (if x8 < (x4.length : Int) then ((Ze.f ((Qb x4 x9).f0) ((Qb x4 x9).f1) ((Qb x4 x8).f0) ((Qb x4 x8).f1) aA aC).bind fun aH => (Qj.l2 k x3 x4 x5 (aH != 0) x8 (wrap64 (x9 + 1)) x1000 aD aG aA aC)) else (none)) else (none)) else (none)) else (none)) else (Qj.l1 k x3 x4 x5 x7 (wrap64 (x8 + 1)) x1000 aD aG aA aC)) else (Qj.l1 k x3 x4 x5 x7 (wrap64 (x8 + 1)) x1000 aD aG aA aC)
end
def Qj.f (k : Nat) (aC : List Int) (aD : Int) (aG : Int) : Option ((List (S48)) × Int × Int) := (Q3.f aC aD aG 4).bind fun aA => (Qj.l0 k (wrap64 (3 + aA.1)) (([] : List (S48))) 0 aC aA.2.1 aA.2.2)
def Qj.T15 : Bool × List (List Nat × List Nat) := (true, [([], []), ([], []), ([0, 1], [0, 1]), ([2], [2]), ([], []), ([], []), ([4, 5], [4, 5]), ([6], [6]), ([], []), ([3, 7, 8], [3, 7, 8]), ([9], [9]), ([10, 9, 0, 1, 2, 3, 4, 5, 6, 7, 8, 9, 10], [10])])
def Qj.B15 : List Nat := [0, 0, 3, 7, 0, 0, 48, 112, 0, 511, 1023, 2047]
theorem Qj.tab15 : Vj .any (opsOf Tryz.f85 15) = Qj.T15 := by kernel_rfl
theorem Qj.bits15 : Z5 Qj.T15.2 Qj.B15 = true := by kernel_rfl
theorem Yx {p q : Prop} (g : p) (h : p → q := by intro zg_; repeat (first | (with_reducible first | exact zg_ | apply Qe.alloc | apply Qe.drewN | apply Qe.drew | apply Qe.set_1 | apply Qe.set_2) | exact zg_)) : q := h g
theorem jFa {p q p0 : Prop} (g : p) (g0 : p0) (h : p → p0 → q := by intro zg_ aA; repeat (first | (with_reducible first | exact zg_ | apply Qw | apply Qs | apply Qp | refine Q5 ?_ aA) | exact zg_)) : q := h g g0
theorem Yz {p q : Prop} (g : p) (h : p → q := by intro zg_; repeat (first | (with_reducible first | exact zg_ | apply Qq.set_ | apply Xl | apply Xa | apply Xm) | exact zg_)) : q := h g
theorem Vl {p q p0 : Prop} (g : p) (g0 : p0) (h : p → p0 → q := by intro zg_ aA; repeat (first | (with_reducible first | exact zg_ | apply Qe.alloc | apply Qe.drewN | apply Qe.drew | apply Qe.set_1 | apply Qe.set_2 | refine Qe.far ?_ aA _) | exact zg_)) : q := h g g0
theorem Vg {p q p0 : Prop} (g : p) (g0 : p0) (h : p → p0 → q := by intro zg_ aA; repeat (first | (with_reducible first | exact zg_ | apply Qq.set_ | apply Xl | apply Xa | apply Xm | refine jFx ?_ aA _) | exact zg_)) : q := h g g0
set_option maxHeartbeats 8000000 in
set_option maxRecDepth 100000 in
theorem Qj.calls (k : Nat) (g : Nat) (aJ : List Int) (dG : Int) (dH : Int) (r1 : List (S48)) (r2 : Int) (r3 : Int) (w0 w : World) (hI : Qe w0 w g aJ dG dH) (hB : Below w0.heap.size w0 w) (h : Qj.f k aJ dG dH = some (r1, r2, r3)) :
  Calls Tryz.prog 85 #[.pointer (some ⟨g, 0, none⟩)] w fun e w' => ∃ fU : Value, e = .returned (fU) ∧ Kd.R k48 48 w' w.heap.size (fun _ => True) fU r1 ∧ Qe w0 w' g aJ r2 r3 ∧ Below w0.heap.size w0 w' ∧ Qq w w' g none := by
 have gT := Tryz.underlying48
 have HI0 := Qa.mk hI
 have HK := Qa.mk (Qq.refl w g none)
 have HL := Qa.mk hB.size
 clear hI
 have HW0 := Qa.mk hB.size
 have HB := Qa.mk hB
 clear hB
 have H := h
 unfold Qj.f at H
 clear h
 obtain ⟨⟨bL, dQ, dR⟩, A2, H⟩ := zO H
 dsimp only at H
 generalize dD : (([] : List (S48)) : List (S48)) = fC at H
 have dE := Qa.mk dD.symm
 clear dD
 have H' := Qa.mk H; clear H
 go_enter Tryz.func85, Tryz.ntmps85
 go_wp2_with (first | ((with_reducible refine Qd (f := 51) rfl ?_); refine zD (some 11) Tryz.func51 _ ((Q3.calls g aJ dG dH 4 bL dQ dR w0 _ ?bI ?bJ A2.out).mono ?_); (case bI => exact (Yx HI0.out)); (case bJ => exact (jFa HB.out (Qe.ge HI0.out))); rintro e w3 ⟨rfl, hi, hb, hk⟩; refine ⟨_, rfl, ?_⟩; replace HK := Qa.mk (Qq.trans (Yz HK.out) hk (.inl rfl)); replace HI0 := Qa.mk (hi); replace HB := Qa.mk (hb); (try clear hb); (try clear hk); (try clear hi)) | ((with_reducible refine Qo (N := 13) rfl ?_); (try (refine Xc (by rfl) ?_; dsimp only)); refine Kd.R_lit k48 _ 48 ?hg (N := 13) ?hd (xs := ([] : List (S48))) (inner := []) (ok := fun _ => True) (okp := fun _ => True) ?hr ?hp (fun _ hk => hk) trivial (Below.refl _ _) (Nat.le_refl _) (by simp) ?_; (case hd => rfl); (case hg => rfl); (case hr => first | (go_simp; done) | (go_simp; rfl)); (case hp => exact (J6.none _ _)); intro v148 w4 dS hb hg_ hnew_; clear hg_ hnew_; (first | rw [← dE.out] at dS | (simp only [Int.reduceToNat] at dS; rw [← dE.out] at dS)); have bM := Qa.mk (Kd.R_lower dS (Xt (w := w) (g := g) (row := none) (Yz HK.out))); have bN := Qa.mk (Qe.below (Yx HI0.out) hb); have bO := Qa.mk (Qq.trans (Yz HK.out) (Qq.of_below hb g none) (.inl rfl)); have bP := Qa.mk (Qk (zG (Qe.ge HI0.out)) hb); clear HI0; clear HK; clear HB; have dU := bM; have HI0 := bN; have HK := bO; have HB := bP; clear bM bN bO bP; clear hb dS))
 go_loopg [4, 5] k (fun kq v4 v5 w' => ∃ (aD : List (S48)) (bA : Int) (aK : Int) (aM : Int), v5 = .int .i64 bA ∧ Qa (Qj.l0 kq (wrap64 (3 + bL)) aD bA aJ aK aM = some (r1, r2, r3)) ∧ Qa (kq ≤ k) ∧ Qa (Kd.R k48 48 w' w.heap.size (fun _ => True) v4 aD) ∧ Qa (Qe w0 w' g aJ aK aM) ∧ Qa (Qq w w' g none) ∧ Qa (Below w0.heap.size w0 w'))
 case atStart => exact ⟨(fC), (0), (dQ), (dR), zF, H', ⟨Nat.le_refl _⟩, ⟨zR dU.out⟩, ⟨(Yx HI0.out)⟩, ⟨(Yz HK.out)⟩, ⟨zG (Qe.ge HI0.out)⟩⟩
 case round =>
 clear H'
 obtain ⟨aD, bA, aK, aM, rfl, HA, bQ, aA, HI0, HK, HB⟩ := hrel
 cases gk with
 | zero => exact absurd HA.out (by simp [Qj.l0])
 | succ k1 =>
 have H := HA.out
 clear HA
 simp only [Qj.l0] at H
 have fD := Qa.mk H
 clear H
 go_upto_region 4 with (fail)
 go_cut [21] (fun v21 wc => ∃ (kq : Nat) (bR : Bool), v21 = .bool bR ∧ Qa (Qj.j1 kq (wrap64 (3 + bL)) aD bA bR aJ aK aM = some (r1, r2, r3)) ∧ Qa (kq ≤ k1) ∧ Qa (Kd.R k48 48 wc w.heap.size (fun _ => True) u4 aD) ∧ Qa (Qe w0 wc g aJ aK aM) ∧ Qa (Qq w wc g none) ∧ Qa (Below w0.heap.size w0 wc))
 case first =>
  have H := fD.out
  clear fD
  replace H := Xg H
  rcases H with ⟨cK, H⟩ | ⟨cK, H⟩
  ·(first | rw [cK] | (simp only [Zd, Zf]; rw [cK]) | skip)
   have H' := Qa.mk H; clear H
   obtain ⟨iN, iO, gU⟩ := Kd.R_slice aA.out
   subst gU
   go_wp2
   go_meet
   case rel => exact ⟨_, (decide ((aD.length : Int) < (wrap64 (3 + bL)))), zF, H', ⟨by have := bQ.out; first | omega | exact Nat.le_refl _⟩, ⟨zR aA.out⟩, ⟨(Yx HI0.out)⟩, ⟨(Yz HK.out)⟩, ⟨zG (Qe.ge HI0.out)⟩⟩
  (first | rw [cK] | (simp only [Zd, Zf]; rw [cK]) | skip)
  have H' := Qa.mk H; clear H
  go_wp2
  go_meet
  case rel => exact ⟨_, (false), zF, H', ⟨by have := bQ.out; first | omega | exact Nat.le_refl _⟩, ⟨zR aA.out⟩, ⟨(Yx HI0.out)⟩, ⟨(Yz HK.out)⟩, ⟨zG (Qe.ge HI0.out)⟩⟩
 case rest =>
 clear fD
 obtain ⟨kq, bR, rfl, HA, bZ, aA, HI0, HK, HB⟩ := hcut
 cases kq with
 | zero => exact absurd HA.out (by simp [Qj.j1])
 | succ fV =>
 have H := HA.out
 clear HA
 simp only [Qj.j1] at H
 by_cases c9 : bR = true
 ·subst c9
  replace H := (if_pos rfl).symm.trans H
  obtain ⟨⟨aN, dI, dJ⟩, gV, H⟩ := zO H
  dsimp only at H
  obtain ⟨⟨aQ, aX, aY⟩, gW, H⟩ := zO H
  dsimp only at H
  have H' := Qa.mk H; clear H
  go_wp2_with (first | ((with_reducible refine Qd (f := 51) rfl ?_); refine zD (some 25) Tryz.func51 _ ((Q3.calls g aJ aK aM 13 aN dI dJ w0 _ ?bI ?bJ gV.out).mono ?_); (case bI => exact (Yx HI0.out)); (case bJ => exact (jFa HB.out (Qe.ge HI0.out))); rintro e iP ⟨rfl, hi, hb, hk⟩; refine ⟨_, rfl, ?_⟩; replace aA := Qa.mk (Kd.R_mono (Kd.R_keep (Qe.apart (show Qe w0 _ g aJ aK aM from (Yx HI0.out)) (zR aA.out) (by decide)) hk (fun _ h => h.2)) (fun _ h => h.1)); replace HK := Qa.mk (Qq.trans (Yz HK.out) hk (.inl rfl)); replace HI0 := Qa.mk (hi); replace HB := Qa.mk (hb); (try clear hb); (try clear hk); (try clear hi)) | ((with_reducible refine Qd (f := 51) rfl ?_); refine zD (some 28) Tryz.func51 _ ((Q3.calls g aJ dI dJ 13 aQ aX aY w0 _ ?bI ?bJ gW.out).mono ?_); (case bI => exact (Yx HI0.out)); (case bJ => exact (jFa HB.out (Qe.ge HI0.out))); rintro e iQ ⟨rfl, hi, hb, hk⟩; refine ⟨_, rfl, ?_⟩; replace aA := Qa.mk (Kd.R_mono (Kd.R_keep (Qe.apart (show Qe w0 _ g aJ dI dJ from (Yx HI0.out)) (zR aA.out) (by decide)) hk (fun _ h => h.2)) (fun _ h => h.1)); replace HK := Qa.mk (Qq.trans (Yz HK.out) hk (.inl rfl)); replace HI0 := Qa.mk (hi); replace HB := Qa.mk (hb); (try clear hb); (try clear hk); (try clear hi)) | ((with_reducible refine Qo (N := 6) rfl ?_); (try (refine Xc (by rfl) ?_; dsimp only)); refine zBx (N := 6) #[.int .i64 0, .int .i64 0] 48 ?_; intro aH hg iR hbox hb; have bM := Qa.mk (Kd.R_below (Kd.R_elderB (zR aA.out) aH (Nat.le_of_eq hg.symm)) hb); have bN := Qa.mk (Qe.below (Yx HI0.out) hb); have bO := Qa.mk (Qq.trans (Yz HK.out) (Qq.of_below hb g none) (.inl rfl)); have bP := Qa.mk (Qk (zG (Qe.ge HI0.out)) hb); have cO := Qa.mk (hbox); have fZ := Qa.mk ((by rw [hg]; exact (Xt (w := w) (g := g) (row := none) (Yz HK.out)) : w.heap.size ≤ aH)); have gB := Qa.mk ((Nat.le_trans HW0.out (by rw [hg]; exact (Xt (w := w) (g := g) (row := none) (Yz HK.out)) : w.heap.size ≤ aH) : w0.heap.size ≤ aH)); have gD := Qa.mk ((by rw [hg]; exact Nat.ne_of_lt (Qe.lt (show Qe w0 _ g aJ aX aY from (Yx HI0.out))) : g ≠ aH)); have gF := Qa.mk ((by rw [hg]; exact Nat.ne_of_gt (Qe.lt (show Qe w0 _ g aJ aX aY from (Yx HI0.out))) : aH ≠ g)); clear aA; clear HI0; clear HK; clear HB; have aA := bM; have HI0 := bN; have HK := bO; have HB := bP; have aC := cO; have aT := fZ; have aV := gB; have aG := gD; have bS := gF; clear bM bN bO bP cO fZ gB gD gF; clear hb hbox hg; have gG := bS.out; have gH := aG.out; obtain ⟨bB, bC, bD, bE⟩ := zq2 aC.out))
  go_loopg [7, 8] fV (fun kq v7 v8 w' => ∃ (bX : Bool) (aI : Int), v7 = .bool bX ∧ v8 = .int .i64 aI ∧ Qa (Qj.l1 kq (wrap64 (3 + bL)) aD bA bX aI aJ aX aY (wrap64 (aN - 6)) (wrap64 (aQ - 6)) = some (r1, r2, r3)) ∧ Qa (kq ≤ fV) ∧ Qa (Kd.R k48 48 w' w.heap.size (fun k_ => k_ ≠ aH) u4 aD) ∧ Qa (w'.heap[aH]? = some (.cells #[.int .i64 (wrap64 (aN - 6)), .int .i64 (wrap64 (aQ - 6))] 48 (0, 0))) ∧ Qa (Qe w0 w' g aJ aX aY) ∧ Qa (Qq w w' g none) ∧ Qa (Below w0.heap.size w0 w'))
  case atStart => exact ⟨(true), (0), zF, zF, H', ⟨Nat.le_refl _⟩, ⟨by (with_reducible repeat (first | apply Kd.R_alloc | apply Kd.R_drewN | apply Kd.R_drew)); exact Kd.R_mono (Kd.R_far (p := ⟨aH, 1, none⟩) (Kd.R_far (p := ⟨aH, 0, none⟩) (Kd.R_mono aA.out (fun k_ hk => (⟨hk, hk.2⟩ : _ ∧ k_ ≠ aH))) (fun _ hk => hk.2) (.int .i64 (wrap64 (aN - 6)))) (fun _ hk => hk.2) (.int .i64 (wrap64 (aQ - 6)))) (fun _ hk => hk.1.2)⟩, ⟨zk0 aC.out⟩, ⟨(Vl HI0.out aG.out)⟩, ⟨(Vg HK.out aT.out)⟩, ⟨zG2 (Qe.ge HI0.out) aV.out⟩⟩
  case round =>
  clear H'
  try clear c9
  try clear bB
  try clear bC
  try clear bD
  try clear bE
  obtain ⟨bX, aI, rfl, rfl, HA, cB, aA, aC, HI0, HK, HB⟩ := hrel
  cases gk with
  | zero => exact absurd HA.out (by simp [Qj.l1])
  | succ k3 =>
  have H := HA.out
  clear HA
  simp only [Qj.l1] at H
  have dK := Qa.mk H
  clear H
  go_upto_region 9 with (fail)
  go_cut [37] (fun v37 wc => ∃ (kq : Nat) (bF : Bool), v37 = .bool bF ∧ Qa (Qj.j3 kq (wrap64 (3 + bL)) aD bA bX aI bF aJ aX aY (wrap64 (aN - 6)) (wrap64 (aQ - 6)) = some (r1, r2, r3)) ∧ Qa (kq ≤ k3) ∧ Qa (Kd.R k48 48 wc w.heap.size (fun k_ => k_ ≠ aH) u4 aD) ∧ Qa (wc.heap[aH]? = some (.cells #[.int .i64 (wrap64 (aN - 6)), .int .i64 (wrap64 (aQ - 6))] 48 (0, 0))) ∧ Qa (Qe w0 wc g aJ aX aY) ∧ Qa (Qq w wc g none) ∧ Qa (Below w0.heap.size w0 wc))
  case first =>
   have H := dK.out
   clear dK
   replace H := Xg H
   rcases H with ⟨bK, H⟩ | ⟨bK, H⟩
   ·(first | rw [bK] | (simp only [Zd, Zf]; rw [bK]) | skip)
    have H' := Qa.mk H; clear H
    obtain ⟨gX, gY, fE⟩ := Kd.R_slice aA.out
    subst fE
    go_wp2
    go_meet
    case rel => exact ⟨_, (bX), zF, H', ⟨by have := bQ.out; have := bZ.out; have := cB.out; first | omega | exact Nat.le_refl _⟩, ⟨zR aA.out⟩, ⟨zK aC.out⟩, ⟨(Vl HI0.out aG.out)⟩, ⟨(Vg HK.out aT.out)⟩, ⟨zG2 (Qe.ge HI0.out) aV.out⟩⟩
   (first | rw [bK] | (simp only [Zd, Zf]; rw [bK]) | skip)
   have H' := Qa.mk H; clear H
   obtain ⟨gZ, iA, fF⟩ := Kd.R_slice aA.out
   subst fF
   go_wp2
   go_meet
   case rel => exact ⟨_, (false), zF, H', ⟨by have := bQ.out; have := bZ.out; have := cB.out; first | omega | exact Nat.le_refl _⟩, ⟨zR aA.out⟩, ⟨zK aC.out⟩, ⟨(Vl HI0.out aG.out)⟩, ⟨(Vg HK.out aT.out)⟩, ⟨zG2 (Qe.ge HI0.out) aV.out⟩⟩
  case rest =>
  clear dK
  try clear c9
  try clear bB
  try clear bC
  try clear bD
  try clear bE
  obtain ⟨kq, bF, rfl, HA, aZ, aA, aC, HI0, HK, HB⟩ := hcut
  cases kq with
  | zero => exact absurd HA.out (by simp [Qj.j3])
  | succ dA =>
  have H := HA.out
  clear HA
  simp only [Qj.j3] at H
  by_cases c21 : bF = true
  ·subst c21
   replace H := (if_pos rfl).symm.trans H
   replace H := J9 H
   rcases H with ⟨dV, H⟩ | ⟨iB, H⟩
   ·replace H := J9 H
    rcases H with ⟨dW, H⟩ | ⟨c23, H⟩
    ·have H' := Qa.mk H; clear H
     try go_wp2
     replace aA := Qa.mk (Kd.R_drew aA.out)
     replace aC := Qa.mk (Q8 aC.out)
     replace HI0 := Qa.mk (Qe.drew HI0.out)
     replace HK := Qa.mk (Xa HK.out)
     replace HB := Qa.mk (Qp HB.out)
     obtain ⟨iC, fG, dX⟩ := Kd.R_slice aA.out
     (first | subst dX | (injection dX with gI iD gJ; have iE := gI.symm; have iF := gJ.symm; clear gI iD gJ; subst iE; subst iF))
     have dB : 0 ≤ (aI : Int) := zA
     have dC : aI < (aD.length : Int) := zA
     obtain ⟨aU, fH, bG, bH⟩ := Jj (Kd.R_reads' aA.out).2.2 aI dB dC
     cases fH
     replace dB := eq_true dB
     replace dC := eq_true dC
     refine Zy (n := 7) (S := fun w' => w'.cell? ⟨aH, 0, none⟩ = some (.int .i64 (wrap64 (aN - 6))) ∧ w'.cell? ⟨aH, 1, none⟩ = some (.int .i64 (wrap64 (aQ - 6))) ∧ w'.cell? (aU.add ((aI).toNat * 2)) = some (.int .i64 ((Qb aD aI).f0)) ∧ w'.cell? ⟨(aU.add ((aI).toNat * 2)).block, (aU.add ((aI).toNat * 2)).off + 1, none⟩ = some (.int .i64 ((Qb aD aI).f1))) (ds := []) #[false, false, false, false, false, false, false] (by kernel_rfl) rfl rfl ⟨(Qn aC.out 0).trans rfl, (Qn aC.out 1).trans rfl, bG, bH⟩ (fun hHeld => ?_)
     generalize wc.drew = iT at aA aC HI0 HK HB bG bH hHeld ⊢
     refine Yb (i := 0) (N := some 40) (v := ?_) (a' := ?_) #[true, false, false, false, false, false, false] rfl rfl (by kernel_rfl) (fun _ _ _ h => h) (Or.inl ⟨by rfl, ?_⟩) ?_ ?_
     rotate_left
     ·intro w'
      go_simp
      with_reducible rfl
     rotate_left
     ·simp only [Act.put, List.setIfInBounds_toArray, List.set_cons_zero, List.set_cons_succ, Zd, Zf]
      rfl
     refine Yb (i := 1) (N := some 41) (v := ?_) (a' := ?_) #[true, true, false, false, false, false, false] rfl rfl (by kernel_rfl) (fun _ _ _ h => h) (Or.inl ⟨by rfl, ?_⟩) ?_ ?_
     rotate_left
     ·intro w'
      go_simp
      with_reducible rfl
     rotate_left
     ·simp only [Act.put, List.setIfInBounds_toArray, List.set_cons_zero, List.set_cons_succ, Zd, Zf]
      rfl
     refine Yb (i := 2) (N := some 42) (v := ?_) (a' := ?_) #[true, true, true, false, false, false, false] rfl rfl (by kernel_rfl) (fun _ _ _ h => h) (Or.inl ⟨by rfl, ?_⟩) ?_ ?_
     rotate_left
     ·intro w'
      go_simp
      with_reducible rfl
     rotate_left
     ·simp only [Act.put, List.setIfInBounds_toArray, List.set_cons_zero, List.set_cons_succ, Zd, Zf]
      rfl
     refine take_ (i := 3) (N := some 43) (v := ?_) (a' := ?_) #[true, true, true, true, false, false, false] rfl rfl (by kernel_rfl) (fun _ _ _ h => h) (Or.inl ⟨by rfl, ?_⟩) hHeld ?_ ?_
     rotate_left
     ·rintro w' ⟨s0, s1, s2, s3⟩
      go_simp
      with_reducible rfl
     rotate_left
     ·simp only [Act.put, List.setIfInBounds_toArray, List.set_cons_zero, List.set_cons_succ, Zd, Zf]
      rfl
     refine take_ (i := 4) (N := some 44) (v := ?_) (a' := ?_) #[true, true, true, true, true, false, false] rfl rfl (by kernel_rfl) (fun _ _ _ h => h) (Or.inl ⟨by rfl, ?_⟩) hHeld ?_ ?_
     rotate_left
     ·rintro w' ⟨s0, s1, s2, s3⟩
      go_simp
      with_reducible rfl
     rotate_left
     ·simp only [Act.put, List.setIfInBounds_toArray, List.set_cons_zero, List.set_cons_succ, Zd, Zf]
      rfl
     refine Yb (i := 5) (N := some 45) (v := ?_) (a' := ?_) #[true, true, true, true, true, true, false] rfl rfl (by kernel_rfl) (fun _ _ _ h => h) (Or.inl ⟨by rfl, ?_⟩) ?_ ?_
     rotate_left
     ·intro w'
      go_simp
      with_reducible rfl
     rotate_left
     ·simp only [Act.put, List.setIfInBounds_toArray, List.set_cons_zero, List.set_cons_succ, Zd, Zf]
      rfl
     refine Yb (i := 6) (N := some 7) (v := ?_) (a' := ?_) #[true, true, true, true, true, true, true] rfl rfl (by kernel_rfl) (fun _ _ _ h => h) (Or.inl ⟨by rfl, ?_⟩) ?_ ?_
     rotate_left
     ·intro w'
      go_simp
      with_reducible rfl
     rotate_left
     ·simp only [Act.put, List.setIfInBounds_toArray, List.set_cons_zero, List.set_cons_succ, Zd, Zf]
      rfl
     refine Ya (by kernel_rfl) ?_
     try go_wp2
     go_loopg [7, 9] dA (fun kq v7 v9 w' => ∃ (cZ : Bool) (aW : Int), v7 = .bool cZ ∧ v9 = .int .i64 aW ∧ Qa (Qj.l2 kq (wrap64 (3 + bL)) aD bA cZ aI aW aJ aX aY (wrap64 (aN - 6)) (wrap64 (aQ - 6)) = some (r1, r2, r3)) ∧ Qa (kq ≤ dA) ∧ Qa (Kd.R k48 48 w' w.heap.size (fun k_ => k_ ≠ aH) (.slice (some aU) aD.length fG) aD) ∧ Qa (w'.heap[aH]? = some (.cells #[.int .i64 (wrap64 (aN - 6)), .int .i64 (wrap64 (aQ - 6))] 48 (0, 0))) ∧ Qa (Qe w0 w' g aJ aX aY) ∧ Qa (Qq w w' g none) ∧ Qa (Below w0.heap.size w0 w'))
     case atStart => exact ⟨((!(((Qb aD aI).f0) == (wrap64 (aN - 6))) || (!(((Qb aD aI).f1) == (wrap64 (aQ - 6)))))), (0), zF, zF, H', ⟨Nat.le_refl _⟩, ⟨zR aA.out⟩, ⟨zK aC.out⟩, ⟨(Vl HI0.out aG.out)⟩, ⟨(Vg HK.out aT.out)⟩, ⟨zG2 (Qe.ge HI0.out) aV.out⟩⟩
     case round =>
     clear H'
     try clear c9
     try clear c21
     try clear iB
     try clear dV
     try clear c23
     try clear dW
     try clear bB
     try clear bC
     try clear bD
     try clear bE
     try clear bG
     try clear bH
     try clear dB
     try clear dC
     obtain ⟨cZ, aW, rfl, rfl, HA, dP, aA, aC, HI0, HK, HB⟩ := hrel
     cases gk with
     | zero => exact absurd HA.out (by simp [Qj.l2])
     | succ k5 =>
     have H := HA.out
     clear HA
     simp only [Qj.l2] at H
     replace H := Xg H
     rcases H with ⟨dY, H⟩ | ⟨dY, H⟩
     ·by_cases eU : cZ = true
      ·subst eU
       replace H := (if_pos rfl).symm.trans H
       replace H := J9 H
       rcases H with ⟨gK, H⟩ | ⟨c28, H⟩
       ·replace H := J9 H
        rcases H with ⟨gL, H⟩ | ⟨iU, H⟩
        ·replace H := J9 H
         rcases H with ⟨gM, H⟩ | ⟨iV, H⟩
         ·replace H := J9 H
          rcases H with ⟨gN, H⟩ | ⟨c31, H⟩
          ·obtain ⟨dZ, iG, H⟩ := zO H
           have H' := Qa.mk H; clear H
           try go_wp2
           replace aA := Qa.mk (Kd.R_drew aA.out)
           replace aC := Qa.mk (Q8 aC.out)
           replace HI0 := Qa.mk (Qe.drew HI0.out)
           replace HK := Qa.mk (Xa HK.out)
           replace HB := Qa.mk (Qp HB.out)
           have dL : 0 ≤ (aW : Int) := zA
           have dM : aW < (aD.length : Int) := zA
           obtain ⟨eB, fI, bT, bU⟩ := Jj (Kd.R_reads' aA.out).2.2 aW dL dM
           obtain rfl : aU = eB := (by injection fI)
           replace dL := eq_true dL
           replace dM := eq_true dM
           have dN : 0 ≤ (aI : Int) := zA
           have dO : aI < (aD.length : Int) := zA
           obtain ⟨eD, e165, bV, bW⟩ := Jj (Kd.R_reads' aA.out).2.2 aI dN dO
           obtain rfl : aU = eD := (by injection e165)
           replace dN := eq_true dN
           replace dO := eq_true dO
           refine Zy (n := 12) (S := fun w' => w'.cell? ⟨aH, 0, none⟩ = some (.int .i64 (wrap64 (aN - 6))) ∧ w'.cell? ⟨aH, 1, none⟩ = some (.int .i64 (wrap64 (aQ - 6))) ∧ w'.cell? (aU.add ((aW).toNat * 2)) = some (.int .i64 ((Qb aD aW).f0)) ∧ w'.cell? ⟨(aU.add ((aW).toNat * 2)).block, (aU.add ((aW).toNat * 2)).off + 1, none⟩ = some (.int .i64 ((Qb aD aW).f1)) ∧ w'.cell? (aU.add ((aI).toNat * 2)) = some (.int .i64 ((Qb aD aI).f0)) ∧ w'.cell? ⟨(aU.add ((aI).toNat * 2)).block, (aU.add ((aI).toNat * 2)).off + 1, none⟩ = some (.int .i64 ((Qb aD aI).f1))) (ds := []) #[false, false, false, false, false, false, false, false, false, false, false, false] (by kernel_rfl) rfl rfl ⟨(Qn aC.out 0).trans rfl, (Qn aC.out 1).trans rfl, bT, bU, bV, bW⟩ (fun hHeld => ?_); refine Jr Qj.tab15 Qj.bits15 (fun HT_ HW_ => ?_)
           generalize wr.drew = iW at aA aC HI0 HK HB bT bU bV bW hHeld ⊢
           refine zP 0 (some 54) rfl rfl ?_
           refine zP 1 (some 55) rfl rfl ?_
           refine zP 2 (some 56) rfl rfl ?_
           refine zP 4 (some 58) rfl rfl ?_
           refine zP 5 (some 59) rfl rfl ?_
           refine zP 6 (some 60) rfl rfl ?_
           refine zY6 3 (some 57) rfl rfl hHeld ?_
           refine zY6 7 (some 61) rfl rfl hHeld ?_
           refine zY6 8 (some 62) rfl rfl hHeld ?_
           refine zU 9 (some 63) rfl rfl (fun K hK => ?_)
           refine Xq Tryz.func59 (by kernel_rfl) rfl #[.agg #[.int .i64 ((Qb aD aW).f0), .int .i64 ((Qb aD aW).f1)], .agg #[.int .i64 ((Qb aD aI).f0), .int .i64 ((Qb aD aI).f1)], .agg #[.int .i64 (wrap64 (aN - 6)), .int .i64 (wrap64 (aQ - 6))]] (by rfl) rfl rfl zM ?_
           with_reducible refine (Ze.calls ((Qb aD aW).f0) ((Qb aD aW).f1) ((Qb aD aI).f0) ((Qb aD aI).f1) (wrap64 (aN - 6)) (wrap64 (aQ - 6)) dZ _ iG.out).mono ?_
           rintro e iX ⟨rfl, hb⟩
           have fJ := (hb.cell (World.block_lt_of_cell? _ _ (hHeld.2.2.1))).trans (hHeld.2.2.1)
           have fK := (hb.cell (World.block_lt_of_cell? _ _ (hHeld.2.2.2.1))).trans (hHeld.2.2.2.1)
           have fM := (hb.cell (World.block_lt_of_cell? _ _ (hHeld.2.2.2.2.1))).trans (hHeld.2.2.2.2.1)
           have fO := (hb.cell (World.block_lt_of_cell? _ _ (hHeld.2.2.2.2.2))).trans (hHeld.2.2.2.2.2)
           refine ⟨_, rfl, ?_⟩
           have bM := zW aA.out hb
           have bN := zV aC.out hb
           have bO := Qa.mk (Qe.below (Vl HI0.out aG.out) hb)
           have bP := Qa.mk (Qq.trans (Vg HK.out aT.out) (Qq.of_below hb g none) (.inl rfl))
           have cO := Qa.mk (Qk (zG2 (Qe.ge HI0.out) aV.out) hb)
           clear aA
           clear aC
           clear HI0
           clear HK
           clear HB
           have aA := bM
           have aC := bN
           have HI0 := bO
           have HK := bP
           have HB := cO
           clear bM bN bO bP cO
           (try clear hb)
           refine hK.out _ _ ⟨(Qn aC.out 0).trans rfl, (Qn aC.out 1).trans rfl, fJ, fK, fM, fO⟩ (fun hHeld => ?_)
           clear hK K
           refine zN ?_
           refine zP 10 (some 64) rfl rfl ?_
           refine zP 11 (some 7) rfl rfl ?_
           refine Ya (Zj HT_.out (by kernel_rfl)) ?_
           try go_wp2
           go_roundg k5
           case measure => have := bQ.out; have := bZ.out; have := cB.out; have := aZ.out; have := dP.out; omega
           case rel => exact ⟨((dZ != 0)), (wrap64 (aW + 1)), zF, zF, H', ⟨by have := bQ.out; have := bZ.out; have := cB.out; have := aZ.out; have := dP.out; omega⟩, ⟨zR aA.out⟩, ⟨zK aC.out⟩, ⟨(Vl HI0.out aG.out)⟩, ⟨(Vg HK.out aT.out)⟩, ⟨zG2 (Qe.ge HI0.out) aV.out⟩⟩
          exact absurd H (by simp)
         exact absurd H (by simp)
        exact absurd H (by simp)
       exact absurd H (by simp)
      replace eU := Bool.eq_false_iff.mpr eU
      subst eU
      replace H := (if_neg zFf).symm.trans H
      have H' := Qa.mk H; clear H
      go_wp2
      go_roundg k5
      case measure => have := bQ.out; have := bZ.out; have := cB.out; have := aZ.out; have := dP.out; omega
      case rel => exact ⟨(false), (wrap64 (aI + 1)), zF, zF, H', ⟨by have := bQ.out; have := bZ.out; have := cB.out; have := aZ.out; have := dP.out; omega⟩, ⟨zR aA.out⟩, ⟨zK aC.out⟩, ⟨(Vl HI0.out aG.out)⟩, ⟨(Vg HK.out aT.out)⟩, ⟨zG2 (Qe.ge HI0.out) aV.out⟩⟩
     have H' := Qa.mk H; clear H
     go_wp2
     go_roundg k5
     case measure => have := bQ.out; have := bZ.out; have := cB.out; have := aZ.out; have := dP.out; omega
     case rel => exact ⟨(cZ), (wrap64 (aI + 1)), zF, zF, H', ⟨by have := bQ.out; have := bZ.out; have := cB.out; have := aZ.out; have := dP.out; omega⟩, ⟨zR aA.out⟩, ⟨zK aC.out⟩, ⟨(Vl HI0.out aG.out)⟩, ⟨(Vg HK.out aT.out)⟩, ⟨zG2 (Qe.ge HI0.out) aV.out⟩⟩
    exact absurd H (by simp)
   exact absurd H (by simp)
  replace c21 := Bool.eq_false_iff.mpr c21
  subst c21
  replace H := (if_neg zFf).symm.trans H
  by_cases eX : bX = true
  ·subst eX
   replace H := (if_pos rfl).symm.trans H
   replace H := Z8 H
   rcases H with ⟨fP, H⟩ | ⟨fP, H⟩
   ·have eF := Qa.mk fP
    clear fP
    generalize hy160 : (aD ++ [(⟨(wrap64 (aN - 6)), (wrap64 (aQ - 6))⟩ : S48)] : List (S48)) = y160 at H
    have eG := Qa.mk hy160.symm
    clear hy160
    have H' := Qa.mk H; clear H
    have gP := bS.out
    have gQ := aG.out
    obtain ⟨eY, eZ, fA, fB⟩ := zq2 aC.out
    go_wp2_with (first | ((with_reducible refine J5 (b := .append) (xs := #[.tmp 66, .tmp 68]) rfl ?_); (try (refine Xc (by rfl) ?_; dsimp only)); at_builtin; refine Kd.R_append k48 w.heap.size rfl (.tmp 66) (.tmp 68) 28 48 (.agg #[(.int .i64 0), (.int .i64 0)]) 16 rfl Tryz.underlying28 Yf rfl (by decide) (by omega) u4 aD (⟨(wrap64 (aN - 6)), (wrap64 (aQ - 6))⟩ : S48) [.int .i64 (wrap64 (aN - 6)), .int .i64 (wrap64 (aQ - 6))] (fun k_ => k_ ≠ aH) (fun _ => False) rfl rfl ?aP (fun _ hk => hk.elim) ?aF ?aO (Below.refl _ _) ?aS ?aL ?_; (case aP => exact Z0 _ _ _ (⟨(wrap64 (aN - 6)), (wrap64 (aQ - 6))⟩ : S48)); (case aF => exact (fun k_ hk => Kd.freshB (g := aH) (o := .cells #[.int .i64 (wrap64 (aN - 6)), .int .i64 (wrap64 (aQ - 6))] 48 (0, 0)) (zK aC.out) k_ hk)); (case aO => exact (zR aA.out)); (case aS => exact (Xt (w := w) (g := g) (row := none) (Vg HK.out aT.out))); (case aL => have := eF.out; omega); intro iH iY ho hb hg hat; rw [← eG.out] at ho; have bM := Qa.mk (Vs (g := aH) (o := .cells #[.int .i64 (wrap64 (aN - 6)), .int .i64 (wrap64 (aQ - 6))] 48 (0, 0)) (zK aC.out) hg (Kd.R_away aA.out (fun _ hk => hk))); have bN := Qa.mk (Qe.grown (Vl HI0.out aG.out) hg (Qe.own_ne HI0.out aA.out (by decide))); have bO := Qa.mk (Ub (zG2 (Qe.ge HI0.out) aV.out) HL.out hb); have bP := Qa.mk (Qq.trans (Vg HK.out aT.out) (Qq.of_grown hg g) (Kd.R_base2 aA.out)); have cO := Qa.mk (ho); clear aC; clear HI0; clear HB; clear HK; clear aA; have aC := bM; have HI0 := bN; have HB := bO; have HK := bP; have eH := cO; clear bM bN bO bP cO; clear ho hb hg hat))
    go_roundg dA
    case measure => have := bQ.out; have := bZ.out; have := cB.out; have := aZ.out; omega
    case rel => exact ⟨(y160), (wrap64 (bA + 1)), (aX), (aY), zF, H', ⟨by have := bQ.out; have := bZ.out; have := cB.out; have := aZ.out; omega⟩, ⟨zR (Kd.R_mono eH.out (fun _ hk => trivial))⟩, ⟨(Vl HI0.out aG.out)⟩, ⟨(Vg HK.out aT.out)⟩, ⟨zG2 (Qe.ge HI0.out) aV.out⟩⟩
   exact absurd H (by simp)
  replace eX := Bool.eq_false_iff.mpr eX
  subst eX
  replace H := (if_neg zFf).symm.trans H
  have H' := Qa.mk H; clear H
  go_wp2
  go_roundg dA
  case measure => have := bQ.out; have := bZ.out; have := cB.out; have := aZ.out; omega
  case rel => exact ⟨(aD), (wrap64 (bA + 1)), (aX), (aY), zF, H', ⟨by have := bQ.out; have := bZ.out; have := cB.out; have := aZ.out; omega⟩, ⟨zR (Kd.R_mono aA.out (fun _ hk => trivial))⟩, ⟨(Vl HI0.out aG.out)⟩, ⟨(Vg HK.out aT.out)⟩, ⟨zG2 (Qe.ge HI0.out) aV.out⟩⟩
 replace c9 := Bool.eq_false_iff.mpr c9
 subst c9
 replace H := (if_neg zFf).symm.trans H
 replace H := jCd H
 rcases H with ⟨c40, eO, H⟩ | ⟨c40, eO, H⟩
 ·have eP : decide (aD.length < 3) = true := decide_eq_true (by omega)
  clear c40
  generalize hy150 : (([(⟨0, 0⟩ : S48), (⟨4, 1⟩ : S48), (⟨1, 3⟩ : S48), (⟨2, 2⟩ : S48)] : List (S48)) : List (S48)) = y150 at H
  have dF := Qa.mk hy150.symm
  clear hy150
  simp only [Option.some.injEq, Prod.mk.injEq] at H
  obtain ⟨rfl, rfl, rfl⟩ := H
  obtain ⟨iI, iJ, fQ⟩ := Kd.R_slice aA.out
  subst fQ
  go_wp2_with (first | ((with_reducible refine Qo (N := 77) rfl ?_); (try (refine Xc (by rfl) ?_; dsimp only)); refine Kd.R_lit k48 _ 48 ?hg (N := 77) ?hd (xs := ([(⟨0, 0⟩ : S48), (⟨4, 1⟩ : S48), (⟨1, 3⟩ : S48), (⟨2, 2⟩ : S48)] : List (S48))) (inner := [.int .i64 0, .int .i64 0, .int .i64 4, .int .i64 1, .int .i64 1, .int .i64 3, .int .i64 2, .int .i64 2]) (ok := fun _ => True) (okp := fun _ => True) ?hr ?hp (fun _ hk => hk) trivial (Below.refl _ _) (Nat.le_refl _) (by simp) ?_; (case hd => rfl); (case hg => rfl); (case hr => first | (go_simp; done) | (go_simp; rfl)); (case hp => exact (J6.c2 (show Kd.M k48 _ _ _ (⟨0, 0⟩ : S48) [.int .i64 0, .int .i64 0] from (Z0 _ _ _ (⟨0, 0⟩ : S48) )) (J6.c2 (show Kd.M k48 _ _ _ (⟨4, 1⟩ : S48) [.int .i64 4, .int .i64 1] from (Z0 _ _ _ (⟨4, 1⟩ : S48) )) (J6.c2 (show Kd.M k48 _ _ _ (⟨1, 3⟩ : S48) [.int .i64 1, .int .i64 3] from (Z0 _ _ _ (⟨1, 3⟩ : S48) )) (J6.c2 (show Kd.M k48 _ _ _ (⟨2, 2⟩ : S48) [.int .i64 2, .int .i64 2] from (Z0 _ _ _ (⟨2, 2⟩ : S48) )) (J6.none _ _)))))); intro iK iZ bY hb hg_ hnew_; clear hg_ hnew_; (first | rw [← dF.out] at bY | (simp only [Int.reduceToNat] at bY; rw [← dF.out] at bY)); have bM := Qa.mk (Kd.R_elder' (zR aA.out) (Kd.R_base bY) hb); have bN := Qa.mk (Kd.R_lower (Kd.R_new' bY (Kd.R_lt (zR aA.out))) (Xt (w := w) (g := g) (row := none) (Yz HK.out))); have bO := Qa.mk (Qe.below (Yx HI0.out) hb); have bP := Qa.mk (Qq.trans (Yz HK.out) (Qq.of_below hb g none) (.inl rfl)); have cO := Qa.mk (Qk (zG (Qe.ge HI0.out)) hb); clear aA; clear HI0; clear HK; clear HB; have aA := bM; have eQ := bN; have HI0 := bO; have HK := bP; have HB := cO; clear bM bN bO bP cO; clear hb bY))
  go_ret
  exact ⟨_, zE, zR (Kd.R_mono eQ.out (fun _ hk => trivial)), (Yx HI0.out), zG (Qe.ge HI0.out), (Yz HK.out)⟩
 have eP : decide (aD.length < 3) = false := decide_eq_false (by omega)
 clear c40
 simp only [Option.some.injEq, Prod.mk.injEq] at H
 obtain ⟨rfl, rfl, rfl⟩ := H
 obtain ⟨iL, iM, fT⟩ := Kd.R_slice aA.out
 subst fT
 go_wp2
 go_ret
 exact ⟨_, zE, zR aA.out, (Yx HI0.out), zG (Qe.ge HI0.out), (Yz HK.out)⟩
end Go.Proofs.YtckkfjdkaimmhaaGreatDoor.PX
namespace Go.Proofs.YtckkfjdkaimmhaaGreatDoor.PX
open Go.RowKit Go.Proofs.YtckkfjdkaimmhaaGreatDoor.G Go.Proofs.YtckkfjdkaimmhaaGreatDoorW.PrintWords Go.Proofs.YtckkfjdkaimmhaaGreatDoorW.PrintLast Go.Proofs.YtckkfjdkaimmhaaGreatDoorW.PrintMore
attribute [local go_sem] max2_int min2_int Yi Yh Z4 Z7 Xk Xn   -- for this text's walks alone
set_option linter.unusedVariables false
set_option linter.unusedSimpArgs false
def J7.f (aC : List Int) (aD : Int) (aG : Int) (l1 : List Int) : Option (Int × Int × Int) := (Q3.f aC aD aG (l1.length : Int)).bind fun aA => (if 0 ≤ aA.1 then (if aA.1 < (l1.length : Int) then (some (rd l1 aA.1, aA.2.1, aA.2.2)) else (none)) else (none))
theorem jGl {p q : Prop} (g : p) (h : p → q := by intro zg_; repeat (first | (with_reducible first | exact zg_ | apply Qe.alloc | apply Qe.drewN | apply Qe.drew | apply Qe.set_1 | apply Qe.set_2) | exact zg_)) : q := h g
theorem jIm {p q p0 : Prop} (g : p) (g0 : p0) (h : p → p0 → q := by intro zg_ aA; repeat (first | (with_reducible first | exact zg_ | apply Qw | apply Qs | apply Qp | refine Q5 ?_ aA) | exact zg_)) : q := h g g0
theorem jGm {p q : Prop} (g : p) (h : p → q := by intro zg_; repeat (first | (with_reducible first | exact zg_ | apply Qq.set_ | apply Xl | apply Xa | apply Xm) | exact zg_)) : q := h g
set_option maxHeartbeats 8000000 in
set_option maxRecDepth 100000 in
theorem J7.calls (g : Nat) (aC : List Int) (aG : Int) (aH : Int) (A1 : Option Addr) (c1 : Nat) (l1 : List Int) (r1 : Int) (r2 : Int) (r3 : Int) (w0 w : World) (hI : Qe w0 w g aC aG aH) (hB : Below w0.heap.size w0 w) (hr1 : Kd.C (Kd.int .i64) w A1 l1.length l1) (hc1 : l1.length ≤ c1) (hf1 : ∀ ad, A1 = some ad → 0 < l1.length → ad.block ≠ g) (h : J7.f aC aG aH l1 = some (r1, r2, r3)) :
  Calls Tryz.prog 88 #[.pointer (some ⟨g, 0, none⟩), .slice A1 l1.length c1] w fun e w' => e = .returned (.int .i64 r1) ∧ Qe w0 w' g aC r2 r3 ∧ Below w0.heap.size w0 w' ∧ Qq w w' g none := by
 have HR1 := Qa.mk hr1
 have aW := Qa.mk hc1
 clear hr1 hc1
 have HI0 := Qa.mk hI
 have HK := Qa.mk (Qq.refl w g none)
 have HL := Qa.mk hB.size
 clear hI
 have HW0 := Qa.mk hB.size
 have HB := Qa.mk hB
 clear hB
 have H := h
 unfold J7.f at H
 clear h
 obtain ⟨⟨aD, aQ, aT⟩, A3, H⟩ := zO H
 dsimp only at H
 replace H := J9 H
 rcases H with ⟨aU, H⟩ | ⟨c4, H⟩
 ·replace H := J9 H
  rcases H with ⟨aV, H⟩ | ⟨c5, H⟩
  ·simp only [Option.some.injEq, Prod.mk.injEq] at H
   obtain ⟨rfl, rfl, rfl⟩ := H
   go_enter Tryz.func88, Tryz.ntmps88
   go_wp2_with (first | ((with_reducible refine Qd (f := 51) rfl ?_); refine zD (some 9) Tryz.func51 _ ((Q3.calls g aC aG aH (l1.length : Int) aD aQ aT w0 _ ?aK ?aM A3.out).mono ?_); (case aK => exact (jGl HI0.out)); (case aM => exact (jIm HB.out (Qe.ge HI0.out))); rintro e w6 ⟨rfl, hi, hb, hk⟩; refine ⟨_, rfl, ?_⟩; replace HK := Qa.mk (Qq.trans (jGm HK.out) hk (.inl rfl)); replace HI0 := Qa.mk (hi); replace HB := Qa.mk (hb); (try clear hb); (try clear hk); (try clear hi); have aI : 0 ≤ (aD : Int) := zA; have aJ : aD < (l1.length : Int) := zA; obtain ⟨aN, e197, aA⟩ := Kd.at_int HR1.out aD aI aJ; cases e197; replace aA := U5 HK.out aA (by first | (rw [add_block]; exact hf1 _ rfl (by omega)) | exact hf1 _ rfl (by omega) | exact hf1 aN rfl (by omega)); replace aI := eq_true aI; replace aJ := eq_true aJ))
   go_ret
   exact ⟨zE, (jGl HI0.out), zG (Qe.ge HI0.out), (jGm HK.out)⟩
  exact absurd H (by simp)
 exact absurd H (by simp)
end Go.Proofs.YtckkfjdkaimmhaaGreatDoor.PX
