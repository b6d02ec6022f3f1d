/- FnPoints returns true for all arguments and leaves them as they were. No condition. -/
import Derived.Test.YtckkfjdkaimmhaaGreatDoorProg
import Derived.Test.YtckkfjdkaimmhaaGreatDoorRows
import Derived.Test.YtckkfjdkaimmhaaGreatDoorTie
import Derived.Test.YtckkfjdkaimmhaaGreatDoorCards
import Derived.SevenTiedAt
import Derived.WalkKit
import Derived.ProofKit
import Derived.OpenShut
import Derived.ShutString
import Derived.ChangeOld
import Derived.Below
import Derived.SizedLaws
import Derived.Lib.SmallJoins
import Derived.ChangeSame
import Derived.Test.YtckkfjdkaimmhaaGreatDoorV1
import Derived.Test.YtckkfjdkaimmhaaGreatDoorBkqzpml1
import Derived.Test.YtckkfjdkaimmhaaGreatDoorBkqzpml3
import Derived.Test.YtckkfjdkaimmhaaGreatDoorBkqzpml4
set_option linter.unusedVariables false
set_option linter.unusedSimpArgs false
namespace Go.Proofs.YtckkfjdkaimmhaaGreatDoor.Pure
open Go.RowKit Go.Proofs.YtckkfjdkaimmhaaGreatDoorW.PrintWords Go.Proofs.YtckkfjdkaimmhaaGreatDoor.PX Go.Proofs.YtckkfjdkaimmhaaGreatDoor.M Go.Proofs.YtckkfjdkaimmhaaGreatDoor.G
theorem jHd (a b c : IP) : X4 b a c = -X4 a b c := by unfold X4; grind
theorem jG4 (x : Int) : jBx (-x) = -jBx x := by
 unfold jBx
 split <;> split <;> (try split) <;> (try split) <;> omega
theorem jD7 (a b c : IP) : Vh b c a = Vh a b c := by
 unfold Vh
 cases Jw 1000 a <;> cases Jw 1000 b <;> cases Jw 1000 c <;> rfl
theorem jDc (a b c : IP) : Vh b a c = Vh a b c := by
 unfold Vh
 cases Jw 1000 a <;> cases Jw 1000 b <;> cases Jw 1000 c <;> rfl
theorem jFo (a b c : IP) : Uh b c a = Uh a b c := by
 unfold Uh
 rw [jD7, show X4 b c a = X4 a b c by unfold X4; grind]
theorem jH2 (x : Int) : -1 ≤ jBx x ∧ jBx x ≤ 1 := by
 unfold jBx
 split
 ·omega
 ·split <;> omega
theorem jFe (a b c : IP) : Uh a b c = wrap64 (-(Uh b a c)) := by
 unfold Uh
 rw [jDc a b c, jHd a b c, jG4]
 have h := jH2 (X4 a b c)
 split
 ·rw [Jg (by omega) (by omega)]; omega
 ·rw [Jg (by omega) (by omega)]; rfl
theorem jEe {l : List IP} (h : Zn l = true) : l.Nodup := by
 obtain ⟨h1, _, h3⟩ := Xd.1 h
 unfold List.Nodup
 rw [List.pairwise_iff_getElem]
 intro i j hi hj hij e
 have hz : ∀ c, c < l.length → c ≠ i → c ≠ j → False := by
  intro c hc hci hcj
  have h0 : ∀ x y z : IP, x = y → X4 x y z = 0 := by rintro x y z rfl; unfold X4; grind
  have h0' : ∀ x y z : IP, x = z → X4 x y z = 0 := by rintro x y z rfl; unfold X4; grind
  have aA : ∀ x y z : IP, y = z → X4 x y z = 0 := by rintro x y z rfl; unfold X4; grind
  have e' : pt l i = pt l j := by rw [Vy hi, Vy hj]; exact e
  rcases Nat.lt_or_ge c i with g | g
  ·exact h3 c i j g hij hj (aA _ _ _ e')
  ·rcases Nat.lt_or_ge c j with g' | g'
   ·exact h3 i c j (by omega) g' hj (h0' _ _ _ e')
   ·exact h3 i j c hij (by omega) hc (h0 _ _ _ e')
 by_cases g0 : i = 0
 ·by_cases g1 : j = 1
  ·exact hz 2 (by omega) (by omega) (by omega)
  ·exact hz 1 (by omega) (by omega) (by omega)
 ·exact hz 0 (by omega) (by omega) (by omega)
theorem jBe (l : List IP) {i : Nat} (h : i + 1 < (Y9 l).length) : ltOf Y8 (pt (Y9 l) i) (pt (Y9 l) (i + 1)) = true := by
 unfold Y9 at *
 by_cases g : Zn l = true
 ·rw [if_pos g] at h ⊢
  have hs := Ue l
  have hn : (Vb l).Nodup := (jAa l).symm.nodup (jEe g)
  unfold List.Nodup at hn
  rw [List.pairwise_iff_getElem] at hs hn
  have h1 := (jAn _ _).1 (hs i (i + 1) (by omega) h (by omega))
  have h2 := hn i (i + 1) (by omega) h (by omega)
  rw [Vy (by omega), Vy h, jHn]
  have h3 : ¬ ((Vb l)[i].f0 = (Vb l)[i + 1].f0 ∧ (Vb l)[i].f1 = (Vb l)[i + 1].f1) := fun e => h2 (by
   cases g1 : (Vb l)[i]; cases g2 : (Vb l)[i + 1]
   rw [g1, g2] at e
   simp only [S48.mk.injEq]
   exact e)
  omega
 ·rw [if_neg g] at h
  cases h
theorem jDn (k : Int) (a b c : IP) : X4 (J2 k a) (J2 k b) (J2 k c) = X4 a b c := by
 unfold X4 J2
 grind
theorem jB7 {k : Int} {a b c : IP} (h : Jw 50 a = true ∧ Jw 50 b = true ∧ Jw 50 c = true) (h' : Jw 50 (J2 k a) = true ∧ Jw 50 (J2 k b) = true ∧ Jw 50 (J2 k c) = true) : jAz (J2 k a) (J2 k b) (J2 k c) = jAz a b c := by
 unfold jAz
 rw [if_pos (Yl.2 ⟨X9 h.1, X9 h.2.1, X9 h.2.2⟩), if_pos (Yl.2 ⟨X9 h'.1, X9 h'.2.1, X9 h'.2.2⟩), jDn]
theorem jJa (s : List IP) (k : Int) (hs : s.length ≤ 1000) : ∀ (d i : Nat), 2 ≤ i → i + d = s.length ∨ (d = 0 ∧ s.length ≤ i) → Ev (fun q => Qc.l1 q s (Zt s k).1 (Zt s k).2 (i : Int)) true := by
 intro d
 induction d with
 | zero =>
  intro i h2 hi
  have hle : s.length ≤ i := by omega
  refine Jh ?_
  simp only [Qc.l1]
  have fin : ∀ b, b = false → Ev (fun q => Qc.j5 q s (Zt s k).1 (Zt s k).2 (i : Int) b) true := by
   rintro b rfl
   refine Jh ?_
   simp only [Qc.j5]
   exact Jb (by decide) (Ev.now _)
  by_cases g : (Zt s k).2 = true
  ·exact Qr g (fin _ (decide_eq_false (by omega)))
  ·exact Jb g (fin _ rfl)
 | succ d ih =>
  intro i h2 hi
  have hil : i < s.length := by omega
  have nx := ih (i + 1) (by omega) (by omega)
  refine Jh ?_
  simp only [Qc.l1]
  by_cases g : (Zt s k).2 = true
  ·refine Qr g (Jh ?_)
   have hsh : Zn s = true ∧ (-100 ≤ k ∧ k ≤ 100) ∧ (s.map (J2 k)).all (Jw 50) = true := by
    unfold Zt at g
    split at g
    ·assumption
    ·cases g
   have e1 : (Zt s k).1 = s.map (J2 k) := by unfold Zt; rw [if_pos hsh]
   rw [e1] at nx ⊢
   have hn := (Xd.1 hsh.1).2.1
   have hn' : ∀ p ∈ s, Jw 50 (J2 k p) = true := fun p hp => List.all_eq_true.1 hsh.2.2 _ (List.mem_map.2 ⟨p, hp, rfl⟩)
   simp only [Qc.j5]
   rw [Jg (x := (i : Int) + 1) (by omega) (by omega)]
   have r0 : Qb s 0 = s[0] := jFh (i := 0) (by omega)
   have r1 : Qb s 1 = s[1] := jFh (i := 1) (by omega)
   have r2 : Qb s (i : Int) = s[i] := jFh hil
   have q0 : Qb (s.map (J2 k)) 0 = J2 k s[0] := (jFh (i := 0) (by rw [List.length_map]; omega)).trans (List.getElem_map _)
   have q1 : Qb (s.map (J2 k)) 1 = J2 k s[1] := (jFh (i := 1) (by rw [List.length_map]; omega)).trans (List.getElem_map _)
   have q2 : Qb (s.map (J2 k)) (i : Int) = J2 k s[i] := (jFh (by rw [List.length_map]; omega)).trans (List.getElem_map _)
   have hl : (s.map (J2 k)).length = s.length := List.length_map _
   have ha := jB7 (k := k) ⟨hn _ (List.getElem_mem (show 0 < s.length by omega)), hn _ (List.getElem_mem (show 1 < s.length by omega)), hn _ (List.getElem_mem hil)⟩ ⟨hn' _ (List.getElem_mem (show 0 < s.length by omega)), hn' _ (List.getElem_mem (show 1 < s.length by omega)), hn' _ (List.getElem_mem hil)⟩
   rw [r0, r1, r2, q0, q1, q2, hl]
   exact Qr (by rw [decide_eq_true_eq]; omega) (Qr (by omega) (Qr (by omega) (Qr (by omega) (Qr (by omega) (Jl (V6 _ _ _) (Qr (by omega) (Qr (by omega) (Qr (by omega) (Jl (V6 _ _ _) (Qr ha.symm nx))))))))))
  ·refine Jb g (Jh ?_)
   simp only [Qc.j5]
   exact Jb (by decide) (Ev.now _)
theorem jJg (s : List IP) (k : Int) (hs : s.length ≤ 1000) (p : List IP) (hp : p.length ≤ 1000) : ∀ (d i : Nat), i + 1 + d = (Y9 p).length ∨ (d = 0 ∧ (Y9 p).length ≤ i + 1) → Ev (fun q => Qc.l0 q s (Zt s k).1 (Zt s k).2 (Y9 p) ((i + 1 : Nat) : Int)) true := by
 have hv := jBc p
 intro d
 induction d with
 | zero =>
  intro i hi
  refine Jh ?_
  simp only [Qc.l0]
  refine Jb (by omega) ?_
  exact jJa s k hs (s.length - 2) 2 (Nat.le_refl _) (by omega)
 | succ d ih =>
  intro i hi
  have hil : i + 1 < (Y9 p).length := by omega
  have nx := ih (i + 1) (by omega)
  have hst := (jHn _ _).1 (jBe p hil)
  unfold pt at hst
  refine Jh ?_
  simp only [Qc.l0]
  rw [Jg (x := ((i + 1 : Nat) : Int) - 1) (by omega) (by omega), Jg (x := ((i + 1 : Nat) : Int) + 1) (by omega) (by omega), show ((i + 1 : Nat) : Int) - 1 = (i : Int) by omega, show ((i + 1 : Nat) : Int) + 1 = ((i + 1 + 1 : Nat) : Int) by omega]
  refine Qr (by omega) (Qr (by omega) (Qr (by omega) (Qr (by omega) (Jb (by omega) ?_))))
  by_cases g : (Qb (Y9 p) (i : Int)).f0 = (Qb (Y9 p) ((i + 1 : Nat) : Int)).f0
  ·exact Qr g (Jb (by omega) nx)
  ·exact Jb g nx
theorem jC5 (l : List Int) (_ : l.length ≤ 9223372036854775807) (_ : ∀ x ∈ l, (Lit.int .u8 x).wf = true) :
  ∃ k, Qc.f k l = some true := by
 refine Ev.rounds (r := true) ?_
 unfold Qc.f Y3.f
 refine Jl rfl ?_
 by_cases hb : (l.length : Int) > 1048576
 ·exact Qr (decide_eq_true hb) (Ev.now _)
 refine Jb (by simpa using hb) ?_
 have hl : l.length ≤ 1048576 := by omega
 obtain ⟨a, b, c, d1⟩ := jFt hl
 obtain ⟨P, d2, lP⟩ := jIy hl
 obtain ⟨T, d3, sT⟩ := jIw hl
 obtain ⟨S, kk, d4, lS, hk⟩ := jHx hl
 obtain ⟨p, q, d5, lp⟩ := jIf hl
 have hi := jAy T (by omega)
 have hs := jEk T (by omega)
 have hlen := jHe (Zo T 32) []
 have hi2 := jAy (jFg P) (by have := jA1 P; omega)
 rw [jEh] at hi2
 have sI := jDe S kk hk (by omega)
 have sS := jDj S kk (by omega)
 have sL := jC7 S kk
 have vL := jBc P
 have hj2 : ∀ z, z = false → Ev (fun k => Qc.j2 k S (Zt S kk).1 (Zt S kk).2 (Y9 P) z) true := by
  rintro z rfl
  refine Jh ?_
  simp only [Qc.j2]
  exact Jb (by decide) (jJg S kk (by omega) P (by omega) ((Y9 P).length - 1) 0 (by omega))
 have hj1 : ∀ z, z = false → Ev (fun k => Qc.j1 k S (Zt S kk).1 (Zt S kk).2 (Y9 P) z a.f0 a.f1 b.f0 b.f1 c.f0 c.f1) true := by
  rintro z rfl
  refine Jh ?_
  simp only [Qc.j1]
  refine Jb (by decide) (Jl (Y1 a b c) (Jl (Y1 b c a) (Qr (jFo a b c).symm (Jl (Y1 a b c) (Jl (Y1 b a c) (hj2 _ ?_))))))
  rw [← jFe]
  exact bne_self_eq_false _
 have hj0 : ∀ z, z = false → Ev (fun k => Qc.j0 k P S (Zt S kk).1 (Zt S kk).2 (Y9 P) z a.f0 a.f1 b.f0 b.f1 c.f0 c.f1) true := by
  rintro z rfl
  refine Jh ?_
  simp only [Qc.j0]
  refine Jb (by decide) (Ev.bind (jD1 P (by omega)) (Ev.bind hi2 (Ev.bind (jBl P (by omega)) (Qr rfl (Ev.bind (Xx P (by omega)) ?_)))))
  by_cases g : Zn P = true
  ·rw [if_pos g, g]
   exact Jb (by simp) (Qr rfl (Ev.bind (Kh P (by omega)) (hj1 _ rfl)))
  ·rw [if_neg g, Bool.not_eq_true] at *
   rw [g]
   exact Jb (by simp) (Jb (by simp) (hj1 _ rfl))
 unfold jG9 at hi hs
 generalize paL (Zo T 32) [] = V at hi hs hlen
 obtain ⟨v, f⟩ := V
 simp only at hlen
 refine Ev.bind d1 (Ev.bind d2 (Ev.bind d3 (Ev.bind hi (Ev.bind hs (Ev.bind d4 (Ev.bind sI (Ev.bind sS (Ev.bind d5 (Jl (jD8 P (by omega)) (Jl (Y1 a b c) (Jl (jFc a b c) (Qr rfl (Jl (V6 a b c) (Jl (Un a b c) (Qr rfl ?_)))))))))))))))
 refine Jb (by simp) (Ev.bind (Kh v (by omega)) (Qr rfl (Jb (by simp) (Ev.bind (Kh _ (by omega)) (Qr rfl (Ev.bind (jDd p q (by omega)) (Ev.bind (Uf p q (by omega)) (Jb (by simp) (Ev.bind (jDt P (by omega)) (Ev.bind (Kh _ (by omega)) (Qr rfl (Ev.bind (Y2 P (by omega)) (Ev.bind (Xx P (by omega)) (hj0 _ (bne_self_eq_false _)))))))))))))))
end Go.Proofs.YtckkfjdkaimmhaaGreatDoor.Pure
namespace Go.Proofs.YtckkfjdkaimmhaaGreatDoor.fnPoints
open Go.ChangeShapes Go.WideShapes Go.ChangeAt Go.RowKit Go.Joins
open Go.ChangeMaps (open_string shut_string)
set_option linter.unusedVariables false
theorem own : ownKnob Tryz.prog.godebug = none := by kernel_rfl
theorem jJl {H : Type} {enc : TypeId × Value → H} {P : Program} {w : World} {base : Nat} {spare : Nat → Bool} {held : Bool} {t : TypeId} {s : ByteArray} (ht : P.underlying t = some .string) (hs : s.size ≤ maxLen) : DataW.trod enc P w base spare held 1 t [.string s] = some (.lit (.string s.data.toList), []) := by
 simp [DataW.trod, ht, hs]
theorem laidOut : laidOutB Tryz.prog = true := by kernel_rfl
def jJd (k : IntKind) (w : World) (a : Option Addr) (len cap : Nat) (zs : List Int) : Prop :=
 (a = none ∧ len = 0 ∧ cap = 0 ∧ zs = []) ∨
 ∃ x, a = some x ∧ len ≤ cap ∧ cap ≤ maxLen ∧ zs.length = cap ∧ (∀ i, i < zs.length → w.cell? (x.add i) = some (.int k (zs.getD i 0))) ∧ ∀ n ∈ zs, (Lit.int k n).wf = true
set_option maxRecDepth 100000 in
theorem lifted (os : Os) (started : os.Started) (H : Type) (enc : TypeId × Value → H) :
  ReturnsInHanded {} Tryz.checked os 4 .any (fun w args => (Rows.fnPointsSpec.pre enc Tryz.prog Tryz.f4 Rows.fnPointsRow.domain false w args ∧ laidMetH Tryz.prog G.l5 w) ∧ sizedMet enc Tryz.prog Tryz.f4 (OpenSpec.ofChange Rows.fnPointsSpec) false w args) (Rows.fnPointsSpec.post enc Tryz.prog Tryz.f4 false true false false) := by
 refine Go.Proofs.YtckkfjdkaimmhaaGreatDoor.G.Ky (C := Tryz.checked) (X := fun w _ => laidMetH Tryz.prog G.l5 w) (fun _ _ _ hh h => h.of_heap hh) own started (by kernel_rfl) Tryz.func4
  (ChangeSpec.witness_shaped (enc := enc) (C := Tryz.checked) (os := os) (X := fun w _ => laidMetH Tryz.prog G.l5 w) false (World.doorLaid Tryz.prog 62 os) #[.slice none 0 0] 8 rfl (World.shaped_of_RefB (by kernel_rfl) (by kernel_rfl)) (by kernel_rfl) (by kernel_rfl) (by kernel_rfl) (G.jJt os _)) ?_
 intro W base args ds gs before hval0 hW hcnd hsz0 hL hsh _
 have hsz : (DataW.weightsEach Tryz.prog (Tryz.f4.params.toList ++ Rows.fnPointsSpec.plain.varTypes Tryz.prog) (ds ++ gs)).all (· ≤ reachBytes) = true := hsz0
 have hval : ∀ (j : Nat) t v, Tryz.f4.params[j]? = some t → args[j]? = some v → Value.okWide Tryz.prog W .any base t v := hval0
 have hW' := hW
 obtain ⟨p, q, aC, hV, rfl, hfz, hnd⟩ := hW
 have hA : DataW.TrodAll enc Tryz.prog W 0 (fun _ => true) true Tryz.f4.params.toList args.toList ds p := aC
 rw [Tryz.params4] at hA hval hsz
 obtain ⟨v0, aG, d0, ds0, p0, q0, hargs, rfl, rfl, h0, r0⟩ := trodAll_cons hA
 obtain ⟨rfl, rfl, rfl⟩ := trodAll_nil r0
 obtain rfl : args = #[v0] := by cases args; simp_all
 obtain ⟨rfl, rfl⟩ := trodVars_none hV
 obtain ⟨a0, aA, cap0, rfl⟩ := okWide_slice Tryz.underlying22 (hval 0 22 v0 rfl rfl)
 have k0 := h0
 have aD : ∀ x ∈ p0, x.block < W.heap.size := by obtain ⟨m, hm⟩ := k0; exact DataW.trod_lt m _ _ _ hm
 obtain ⟨z0, w0⟩ : ∃ zs, jJd .u8 W a0 aA cap0 zs := by
  obtain ⟨fuel, hf⟩ := h0
  rcases open_ints Tryz.underlying22 Tryz.underlying5 (by kernel_rfl) hf with ⟨hcs, _⟩ | ⟨x, l, c, zs, hcs, _, hl, hm, hz, _, hcell, hwz⟩
  ·simp [Value.cells] at hcs
   obtain ⟨rfl, rfl, rfl⟩ := hcs
   exact ⟨[], .inl ⟨rfl, rfl, rfl, rfl⟩⟩
  ·simp [Value.cells] at hcs
   obtain ⟨rfl, rfl, rfl⟩ := hcs
   exact ⟨zs, .inr ⟨_, rfl, hl, hm, by simpa using hz, hcell, hwz⟩⟩
 obtain ⟨l0, rfl, hr0, hm0, hw0, hc0⟩ := Go.Proofs.YtckkfjdkaimmhaaGreatDoorW.PrintWords.Zq.ofRowC w0
 clear aC hval0 hsz0 hsz
 obtain ⟨k, hP⟩ := Pure.jC5 l0 (Nat.le_trans hm0 (by decide)) hw0
 refine (PX.Qc.calls k _ _ l0 true W (Go.Proofs.YtckkfjdkaimmhaaGreatDoorW.PrintWords.Kd.C_of_reads (d := (0 : Int)) (h1 := fun _ => rfl) hr0) hc0 hP rfl (G.jF6 hL hsh)).mono fun e W' ⟨he, bel⟩ => ?_
 subst he
 exact ⟨_, rfl, _, _, _, [], _, [], hW', trodAll_mk1 (shut_bool Tryz.underlying4 _), (trodAll_cons_mk (Below.trod laidOut (by kernel_rfl) (of_decide_eq_true (by kernel_rfl)) k0 bel aD) trodAll_mk0), rfl, bel.frame _, fun h => by cases h⟩
theorem over : Rows.fnPointsRow.holds Tryz.pinned (OpenSpec.ofChange Rows.fnPointsSpec) :=
 OpenClaim.holds_of_wide 4 Tryz.f4 rfl rfl rfl rfl rfl rfl rfl ⟨rfl, rfl, rfl, rfl, rfl⟩ rfl rfl rfl rfl rfl (by kernel_rfl) Tryz.func4 (by kernel_rfl)
  (of_decide_eq_true (by kernel_rfl)) (by unfold Func.isWrapper; first | (rw [if_pos (by decide +kernel)]; kernel_rfl) | (rw [if_neg (by decide +kernel)]; exact ⟨rfl, rfl⟩))
  (fun os started H enc _ => lifted os started H enc)
theorem proved : Rows.FnPointsCardSaid :=
 Claim7.holds_tied_plain_at .later [] [.data, .data, .data, .sentinel, .sentinel] true (true, "b35d68ad186b05db690a75d8360495bfd116e918c58861557b9d38e7c44736b3") true over (fun _ h => by cases h) (by kernel_rfl) (fun _ h => by cases h) fnPoints_row_tie rfl ⟨rfl, rfl⟩ (by kernel_rfl) rfl
  (fun f fn hf hfn => by
   obtain rfl : f = 4 := Option.some.inj (hf.symm.trans (show Tryz.prog.funcNamed "loop.example/g03104/laws.FnPoints" = some 4 by kernel_rfl))
   obtain rfl : fn = Tryz.f4 := (Option.some.inj (Tryz.func4.symm.trans hfn)).symm
   exact ⟨by kernel_rfl, fun j t ht => by
    have hm : t ∈ Tryz.f4.params.toList := Array.mem_toList_iff.2 (Array.mem_of_getElem? ht)
    have hall : (Tryz.f4.params.toList.all fun u => !Tryz.prog.wantsStandIn u) = true := by kernel_rfl
    exact (show Tryz.prog.wantsStandIn t = false by simpa using List.all_eq_true.1 hall t hm)⟩)
  (by kernel_rfl)
#print axioms proved
end Go.Proofs.YtckkfjdkaimmhaaGreatDoor.fnPoints
namespace Go.Proofs.YtckkfjdkaimmhaaGreatDoor
theorem fnPoints_holds : Rows.FnPointsCardSaid := fnPoints.proved
end Go.Proofs.YtckkfjdkaimmhaaGreatDoor
