/- strconv.Itoa of any int, by what the kit's shelf proves of it once for all programs. -/
import Derived.Shelf.Strconv.Itoa3
import Derived.Lib.AppendIntMem
import Derived.Test.YtfgkjgfigjpkoaaDoorFb
namespace Go.Proofs.YtfgkjgfigjpkoaaDoor
set_option linter.unusedVariables false
set_option linter.unusedSimpArgs false
set_option linter.unusedSectionVars false
open Go.RowKit Pl
def itoRen : Go.Shelf.Ren := ⟨fun | 171 => 56 | 243 => 73 | 246 => 82 | 283 => 87 | 284 => 88 | 285 => 89 | 286 => 90 | 129 => 92 | 317 => 91 | 318 => 93 | 319 => 94 | 320 => 95 | 337 => 96 | 338 => 97 | n => n, fun | 3 => 3 | 9 => 9 | 2 => 2 | 4 => 4 | 171 => 124 | 0 => 0 | 53 => 111 | 37 => 22 | 5 => 5 | 173 => 127 | 212 => 130 | 51 => 108 | 20 => 20 | 213 => 131 | 46 => 84 | 232 => 134 | 233 => 135 | n => n, fun | 17 => 6 | 18 => 7 | 19 => 8 | n => n⟩
theorem zbe : LaysM.n171 Tryd.prog itoRen where
 mixed := by kernel_rfl
 f129 := Tryd.func92.trans (congrArg some (by kernel_rfl))
 f171 := Tryd.func56.trans (congrArg some (by kernel_rfl))
 f243 := Tryd.func73.trans (congrArg some (by kernel_rfl))
 f246 := Tryd.func82.trans (congrArg some (by kernel_rfl))
 f283 := Tryd.func87.trans (congrArg some (by kernel_rfl))
 f284 := Tryd.func88.trans (congrArg some (by kernel_rfl))
 f285 := Tryd.func89.trans (congrArg some (by kernel_rfl))
 f286 := Tryd.func90.trans (congrArg some (by kernel_rfl))
 f317 := Tryd.func91.trans (congrArg some (by kernel_rfl))
 f318 := Tryd.func93.trans (congrArg some (by kernel_rfl))
 f319 := Tryd.func94.trans (congrArg some (by kernel_rfl))
 f320 := Tryd.func95.trans (congrArg some (by kernel_rfl))
 f337 := Tryd.func96.trans (congrArg some (by kernel_rfl))
 f338 := Tryd.func97.trans (congrArg some (by kernel_rfl))
 t0 := Tryd.underlying0
 a0 := Tryd.isAgg0
 z0 := Tryd.sizeOf0
 v0 := Tryd.zeroValue0
 t2 := Tryd.underlying2
 a2 := Tryd.isAgg2
 z2 := Tryd.sizeOf2
 v2 := Tryd.zeroValue2
 t3 := Tryd.underlying3
 a3 := Tryd.isAgg3
 z3 := Tryd.sizeOf3
 v3 := Tryd.zeroValue3
 t4 := Tryd.underlying4
 a4 := Tryd.isAgg4
 z4 := Tryd.sizeOf4
 v4 := Tryd.zeroValue4
 t5 := Tryd.underlying5
 a5 := Tryd.isAgg5
 z5 := Tryd.sizeOf5
 v5 := Tryd.zeroValue5
 t9 := Tryd.underlying9
 a9 := Tryd.isAgg9
 z9 := Tryd.sizeOf9
 v9 := Tryd.zeroValue9
 t20 := Tryd.underlying20
 a20 := Tryd.isAgg20
 z20 := Tryd.sizeOf20
 v20 := Tryd.zeroValue20
 t37 := Tryd.underlying22
 a37 := Tryd.isAgg22
 z37 := Tryd.sizeOf22
 v37 := Tryd.zeroValue22
 t46 := Tryd.underlying84
 a46 := Tryd.isAgg84
 z46 := Tryd.sizeOf84
 v46 := Tryd.zeroValue84
 t51 := Tryd.underlying108
 a51 := Tryd.isAgg108
 z51 := Tryd.sizeOf108
 v51 := Tryd.zeroValue108
 t53 := Tryd.underlying111
 a53 := Tryd.isAgg111
 z53 := Tryd.sizeOf111
 v53 := Tryd.zeroValue111
 t171 := Tryd.underlying124
 a171 := Tryd.isAgg124
 z171 := Tryd.sizeOf124
 v171 := Tryd.zeroValue124
 t173 := Tryd.underlying127
 a173 := Tryd.isAgg127
 z173 := Tryd.sizeOf127
 v173 := Tryd.zeroValue127
 t212 := Tryd.underlying130
 a212 := Tryd.isAgg130
 z212 := Tryd.sizeOf130
 v212 := Tryd.zeroValue130
 t213 := Tryd.underlying131
 a213 := Tryd.isAgg131
 z213 := Tryd.sizeOf131
 t232 := Tryd.underlying134
 a232 := Tryd.isAgg134
 z232 := Tryd.sizeOf134
 v232 := Tryd.zeroValue134
 t233 := Tryd.underlying135
 a233 := Tryd.isAgg135
 z233 := Tryd.sizeOf135
 v233 := Tryd.zeroValue135
 g17 := by kernel_rfl
 g18 := by kernel_rfl
 g19 := by kernel_rfl
 i0 := by kernel_rfl
 i2 := by kernel_rfl
 i3 := by kernel_rfl
 i4 := by kernel_rfl
 i5 := by kernel_rfl
 i9 := by kernel_rfl
 i20 := by kernel_rfl
 i37 := by kernel_rfl
 i46 := by kernel_rfl
 i51 := by kernel_rfl
 i53 := by kernel_rfl
 i171 := by kernel_rfl
 i173 := by kernel_rfl
 i212 := by kernel_rfl
 i232 := by kernel_rfl
 i233 := by kernel_rfl
 m17 := by kernel_rfl
 m18 := by kernel_rfl
 m19 := by kernel_rfl
theorem z6I {ow : Own} {w : World} : ∀ (zs : List Int) (vs : List Value), RL ow w (zs.map fun z => T.int .u64 z) vs → vs = zs.map fun z => Value.int .u64 z
 | [], vs, h => by simpa only [List.map_nil, RL] using h
 | z :: zs, vs, h => by
   simp only [List.map_cons, RL] at h
   obtain ⟨u, us, rfl, h1, h2⟩ := h
   simp only [RV] at h1
   rw [h1, z6I zs us h2]
   rfl
theorem zbf {P : Program} {f : FuncId} {ts : List T} {v : Value} {r : T} (hfn : ∃ fn, P.funcs[f]? = some fn ∧ (fn.name == "runtime.NumGoroutine") = false ∧ fn.body.isNone = false)
 (hp : ts.all z8w = true) (hr : ∀ X, RS X r v) (h : ∀ X : Cx, HR X → Calls P f (ts.map zv1).toArray X.w fun e w' => e = .returned v ∧ Below X.w.heap.size X.w w') : CT P f [] ts r [] := by
 refine ⟨hfn, fun X hh hH hu vs ha => ?_⟩
 rw [z1U hp ha]
 refine (h X hh).mono ?_
 rintro e w' ⟨rfl, hb⟩
 have hgl : Gl { X with w := w' } := Gl.mono (X := X) (X' := { X with w := w' }) (fun g (hg : g < X.w.heap.size) hn => ⟨hn, hb.block g hg⟩) hh.gl
 have hno : ∀ r, X.H r = none := fun r => by rw [hH]; exact z4A r
 refine ⟨v, { X with w := w' }, rfl, rfl, hH, hu, ⟨fun g g' r hr => absurd (hno r) hr, fun g r hg => ?_, fun r e he => ?_, hh.zero, hh.pos, hgl⟩, hr _, ?_⟩
 ·obtain ⟨a, b⟩ := hh.lt g r hg
  exact ⟨Nat.lt_of_lt_of_le a hb.size, b⟩
 ·have := hno r
  rw [show X.H r = some e from he] at this; cases this
 ·refine ⟨fun _ h => h, hb.os, hb.tape, hb.output, hb.size, fun g hg hn => ⟨hn, hb.block g hg⟩, fun r _ e' he => ?_, fun g hg => ⟨hg, hb.block g (hh.lt g 0 hg).1⟩, fun r _ hn => absurd (hno r) hn⟩
  have := hno r
  rw [show X.H r = some e' from he] at this; cases this
section
attribute [local irreducible] z0t z0u z0C AnsP LeP
end
end Go.Proofs.YtfgkjgfigjpkoaaDoor
