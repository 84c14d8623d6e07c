/- strconv.Itoa of any int, by what the kit's shelf proves of it once for all programs. -/
import Derived.Shelf.Strconv.Itoa3
import Derived.Lib.AppendIntMem
import Derived.Test.YtfgfkhmldlpmkaaGreatDoorFFJ
namespace Go.Proofs.YtfgfkhmldlpmkaaGreatDoor
open Go.RowKit Pl
set_option linter.unusedVariables false
set_option linter.unusedSimpArgs false

def itoRen : Go.Shelf.Ren := ⟨fun | 171 => 70 | 243 => 89 | 246 => 106 | 283 => 127 | 284 => 128 | 285 => 129 | 286 => 130 | 129 => 126 | 317 => 141 | 318 => 142 | 319 => 143 | 320 => 144 | 337 => 147 | 338 => 148 | n => n, fun | 3 => 3 | 9 => 9 | 2 => 2 | 4 => 4 | 171 => 224 | 0 => 0 | 53 => 223 | 37 => 115 | 5 => 5 | 173 => 226 | 212 => 244 | 51 => 221 | 20 => 20 | 213 => 245 | 46 => 149 | 232 => 250 | 233 => 251 | n => n, fun | 17 => 0 | 18 => 1 | 19 => 2 | n => n⟩
theorem itoLays : LaysM.n171 Tryz.prog itoRen where
  mixed := by kernel_rfl
  f129 := Tryz.func126.trans (congrArg some (by kernel_rfl))
  f171 := Tryz.func70.trans (congrArg some (by kernel_rfl))
  f243 := Tryz.func89.trans (congrArg some (by kernel_rfl))
  f246 := Tryz.func106.trans (congrArg some (by kernel_rfl))
  f283 := Tryz.func127.trans (congrArg some (by kernel_rfl))
  f284 := Tryz.func128.trans (congrArg some (by kernel_rfl))
  f285 := Tryz.func129.trans (congrArg some (by kernel_rfl))
  f286 := Tryz.func130.trans (congrArg some (by kernel_rfl))
  f317 := Tryz.func141.trans (congrArg some (by kernel_rfl))
  f318 := Tryz.func142.trans (congrArg some (by kernel_rfl))
  f319 := Tryz.func143.trans (congrArg some (by kernel_rfl))
  f320 := Tryz.func144.trans (congrArg some (by kernel_rfl))
  f337 := Tryz.func147.trans (congrArg some (by kernel_rfl))
  f338 := Tryz.func148.trans (congrArg some (by kernel_rfl))
  t0 := Tryz.underlying0
  a0 := Tryz.isAgg0
  z0 := Tryz.sizeOf0
  v0 := Tryz.zeroValue0
  t2 := Tryz.underlying2
  a2 := Tryz.isAgg2
  z2 := Tryz.sizeOf2
  v2 := Tryz.zeroValue2
  t3 := Tryz.underlying3
  a3 := Tryz.isAgg3
  z3 := Tryz.sizeOf3
  v3 := Tryz.zeroValue3
  t4 := Tryz.underlying4
  a4 := Tryz.isAgg4
  z4 := Tryz.sizeOf4
  v4 := Tryz.zeroValue4
  t5 := Tryz.underlying5
  a5 := Tryz.isAgg5
  z5 := Tryz.sizeOf5
  v5 := Tryz.zeroValue5
  t9 := Tryz.underlying9
  a9 := Tryz.isAgg9
  z9 := Tryz.sizeOf9
  v9 := Tryz.zeroValue9
  t20 := Tryz.underlying20
  a20 := Tryz.isAgg20
  z20 := Tryz.sizeOf20
  v20 := Tryz.zeroValue20
  t37 := Tryz.underlying115
  a37 := Tryz.isAgg115
  z37 := Tryz.sizeOf115
  v37 := Tryz.zeroValue115
  t46 := Tryz.underlying149
  a46 := Tryz.isAgg149
  z46 := Tryz.sizeOf149
  v46 := Tryz.zeroValue149
  t51 := Tryz.underlying221
  a51 := Tryz.isAgg221
  z51 := Tryz.sizeOf221
  v51 := Tryz.zeroValue221
  t53 := Tryz.underlying223
  a53 := Tryz.isAgg223
  z53 := Tryz.sizeOf223
  v53 := Tryz.zeroValue223
  t171 := Tryz.underlying224
  a171 := Tryz.isAgg224
  z171 := Tryz.sizeOf224
  v171 := Tryz.zeroValue224
  t173 := Tryz.underlying226
  a173 := Tryz.isAgg226
  z173 := Tryz.sizeOf226
  v173 := Tryz.zeroValue226
  t212 := Tryz.underlying244
  a212 := Tryz.isAgg244
  z212 := Tryz.sizeOf244
  v212 := Tryz.zeroValue244
  t213 := Tryz.underlying245
  a213 := Tryz.isAgg245
  z213 := Tryz.sizeOf245
  t232 := Tryz.underlying250
  a232 := Tryz.isAgg250
  z232 := Tryz.sizeOf250
  v232 := Tryz.zeroValue250
  t233 := Tryz.underlying251
  a233 := Tryz.isAgg251
  z233 := Tryz.sizeOf251
  v233 := Tryz.zeroValue251
  g17 := by kernel_rfl
  g18 := by kernel_rfl
  g19 := by kernel_rfl
  i0 := by kernel_rfl
  i2 := by kernel_rfl
  i3 := by kernel_rfl
  i4 := by kernel_rfl
  i5 := by kernel_rfl
  i9 := by kernel_rfl
  i20 := by kernel_rfl
  i37 := by kernel_rfl
  i46 := by kernel_rfl
  i51 := by kernel_rfl
  i53 := by kernel_rfl
  i171 := by kernel_rfl
  i173 := by kernel_rfl
  i212 := by kernel_rfl
  i232 := by kernel_rfl
  i233 := by kernel_rfl
  m17 := by kernel_rfl
  m18 := by kernel_rfl
  m19 := by kernel_rfl
theorem pow_vals {ow : Own} {w : World} : ∀ (zs : List Int) (vs : List Value), RL ow w (zs.map fun z => T.int .u64 z) vs → vs = zs.map fun z => Value.int .u64 z
  | [], vs, h => by simpa only [List.map_nil, RL] using h
  | z :: zs, vs, h => by
    simp only [List.map_cons, RL] at h
    obtain ⟨u, us, rfl, h1, h2⟩ := h
    simp only [RV] at h1
    rw [h1, pow_vals zs us h2]
    rfl
theorem tab_pow {X : Cx} (h : HR X) : Lib.TabIs Tryz.prog X.w "internal/strconv.uint64pow10" .u64 Lib.pow10Tab := by
  obtain ⟨-, C, t, fr, hh, hr⟩ := h.gl 0 (powZ.map fun z => T.int .u64 z) rfl
  have hg : Tryz.prog.globalNamed "internal/strconv.uint64pow10" = some 0 := by kernel_rfl
  have hc := pow_vals _ _ hr
  unfold Lib.TabIs World.var?
  rw [hg]
  simp only [Option.bind_some]
  rw [hh]
  show some C = some _
  congr 1
  rw [← Array.toArray_toList (xs := C), hc]
  rfl
theorem old_ctX {P : Program} {f : FuncId} {ts : List T} {v : Value} {r : T} (hfn : ∃ fn, P.funcs[f]? = some fn ∧ (fn.name == "runtime.NumGoroutine") = false ∧ fn.body.isNone = false)
    (hp : ts.all plain1 = true) (hr : ∀ X, RS X r v) (h : ∀ X : Cx, HR X → Calls P f (ts.map zv1).toArray X.w fun e w' => e = .returned v ∧ Below X.w.heap.size X.w w') : CT P f [] ts r [] := by
  refine ⟨hfn, fun X hh hH hu vs ha => ?_⟩
  rw [plain_args hp ha]
  refine (h X hh).mono ?_
  rintro e w' ⟨rfl, hb⟩
  have hgl : Gl { X with w := w' } := Gl.mono (X := X) (X' := { X with w := w' }) (fun g (hg : g < X.w.heap.size) hn => ⟨hn, hb.block g hg⟩) hh.gl
  have hno : ∀ r, X.H r = none := fun r => by rw [hH]; exact idxE_nil r
  refine ⟨v, { X with w := w' }, rfl, rfl, hH, hu, ⟨fun g g' r hr => absurd (hno r) hr, fun g r hg => ?_, fun r e he => ?_, hh.zero, hh.pos, hgl⟩, hr _, ?_⟩
  · obtain ⟨a, b⟩ := hh.lt g r hg
    exact ⟨Nat.lt_of_lt_of_le a hb.size, b⟩
  · have := hno r
    rw [show X.H r = some e from he] at this; cases this
  · refine ⟨fun _ h => h, hb.os, hb.tape, hb.output, hb.size, fun g hg hn => ⟨hn, hb.block g hg⟩, fun r _ e' he => ?_, fun g hg => ⟨hg, hb.block g (hh.lt g 0 hg).1⟩, fun r _ hn => absurd (hno r) hn⟩
    have := hno r
    rw [show X.H r = some e' from he] at this; cases this
theorem c_ItoaAny (n : Int) (h0 : -9223372036854775808 ≤ n) (h1 : n ≤ 9223372036854775807) : CT Tryz.prog 70 [] [.int .i64 n] (.str (Lib.itoa n)) [] :=
  old_ctX (v := .string ⟨(Lib.itoa n).toArray⟩) ⟨_, Tryz.func70, rfl, rfl⟩ rfl (fun X => rfl) fun X hh =>
    (Any.strconv_Itoa itoLays n h0 h1 X.w (tab_pow hh)).mono (by
      rintro e w' ⟨rfl, k, os, rfl⟩
      exact ⟨rfl, Lib.below_grow _ _ (Nat.le_refl _) k os⟩)
section
attribute [local irreducible] CondB CallP LoopW AnsP LeP
set_option maxRecDepth 100000 in
set_option maxHeartbeats 4000000 in
theorem c_DecimalAny (n : Int) (h0 : -9223372036854775808 ≤ n) (h1 : n ≤ 9223372036854775807) : CT Tryz.prog 49 [] [.int .i64 n] (.str (Lib.itoa n)) [] := by
  have c1 := c_ItoaAny n h0 h1
  generalize Lib.itoa n = D at c1 ⊢
  refine ct_intro tt_ok 1 rfl Tryz.func49 rfl rfl rfl ?_
  repeat ((try conv => whnf); first | (refine ccA ([]) (c1) ?_) | (refine stpQ ?_))
  (refine ans_auto (by rfl) ?_ ?_ (by rfl)) <;> (repeat' (first | (exact eqA) | (refine And.intro ?_ ?_) | ((fail_if_success (with_reducible (show _ = _))); (show _ = _))))
end
end Go.Proofs.YtfgfkhmldlpmkaaGreatDoor
