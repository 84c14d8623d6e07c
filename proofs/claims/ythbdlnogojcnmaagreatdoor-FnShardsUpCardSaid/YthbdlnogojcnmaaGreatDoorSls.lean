/- Functions by content: sort.Slice of at most one file, by what the kit's shelf proves once for all programs. -/
import Derived.Shelf.GgSortFunc.Tiny
import Derived.Test.YthbdlnogojcnmaaGreatDoorVe
import Derived.Test.YthbdlnogojcnmaaGreatDoorXt
namespace Go.Proofs.YthbdlnogojcnmaaGreatDoor
set_option linter.unusedVariables false
set_option linter.unusedSimpArgs false
set_option linter.unusedSectionVars false
open Go.RowKit Pl
def slsRen : Go.Shelf.Ren := ⟨fun | 6 => 180 | 10 => 195 | 11 => 196 | 12 => 197 | 13 => 198 | 14 => 199 | 24 => 213 | 25 => 214 | 26 => 215 | 27 => 216 | 28 => 217 | 29 => 218 | 30 => 219 | 31 => 220 | 32 => 221 | 33 => 222 | 34 => 224 | 35 => 225 | 36 => 226 | 37 => 227 | 38 => 228 | 39 => 229 | n => n, fun | 20 => 20 | 26 => 199 | 35 => 210 | 0 => 0 | 37 => 212 | 3 => 3 | 41 => 76 | 44 => 217 | 49 => 120 | 51 => 223 | 4 => 4 | 54 => 226 | 53 => 225 | 58 => 230 | 5 => 5 | 9 => 9 | 60 => 232 | 64 => 236 | 66 => 238 | 67 => 239 | 17 => 17 | 32 => 207 | 33 => 208 | 82 => 253 | 12 => 12 | 75 => 246 | 76 => 247 | 77 => 248 | 78 => 249 | 79 => 250 | 80 => 251 | n => n, fun n => n⟩
theorem zhp : LaysGg.n6 Tryz.prog slsRen where
 mixed := by kernel_rfl
 f6 := Tryz.func180.trans (congrArg some (by kernel_rfl))
 f10 := Tryz.func195.trans (congrArg some (by kernel_rfl))
 f11 := Tryz.func196.trans (congrArg some (by kernel_rfl))
 f12 := Tryz.func197.trans (congrArg some (by kernel_rfl))
 f13 := Tryz.func198.trans (congrArg some (by kernel_rfl))
 f14 := Tryz.func199.trans (congrArg some (by kernel_rfl))
 f24 := Tryz.func213.trans (congrArg some (by kernel_rfl))
 f25 := Tryz.func214.trans (congrArg some (by kernel_rfl))
 f26 := Tryz.func215.trans (congrArg some (by kernel_rfl))
 f27 := Tryz.func216.trans (congrArg some (by kernel_rfl))
 f28 := Tryz.func217.trans (congrArg some (by kernel_rfl))
 f29 := Tryz.func218.trans (congrArg some (by kernel_rfl))
 f30 := Tryz.func219.trans (congrArg some (by kernel_rfl))
 f31 := Tryz.func220.trans (congrArg some (by kernel_rfl))
 f32 := Tryz.func221.trans (congrArg some (by kernel_rfl))
 f33 := Tryz.func222.trans (congrArg some (by kernel_rfl))
 f34 := Tryz.func224.trans (congrArg some (by kernel_rfl))
 f35 := Tryz.func225.trans (congrArg some (by kernel_rfl))
 f36 := Tryz.func226.trans (congrArg some (by kernel_rfl))
 f37 := Tryz.func227.trans (congrArg some (by kernel_rfl))
 f38 := Tryz.func228.trans (congrArg some (by kernel_rfl))
 f39 := Tryz.func229.trans (congrArg some (by kernel_rfl))
 t0 := Tryz.underlying0
 a0 := Tryz.isAgg0
 z0 := Tryz.sizeOf0
 v0 := Tryz.zeroValue0
 i0 := by kernel_rfl
 t3 := Tryz.underlying3
 a3 := Tryz.isAgg3
 z3 := Tryz.sizeOf3
 v3 := Tryz.zeroValue3
 i3 := by kernel_rfl
 t4 := Tryz.underlying4
 a4 := Tryz.isAgg4
 z4 := Tryz.sizeOf4
 v4 := Tryz.zeroValue4
 i4 := by kernel_rfl
 t5 := Tryz.underlying5
 a5 := Tryz.isAgg5
 z5 := Tryz.sizeOf5
 v5 := Tryz.zeroValue5
 i5 := by kernel_rfl
 t9 := Tryz.underlying9
 a9 := Tryz.isAgg9
 z9 := Tryz.sizeOf9
 v9 := Tryz.zeroValue9
 i9 := by kernel_rfl
 t12 := Tryz.underlying12
 a12 := Tryz.isAgg12
 z12 := Tryz.sizeOf12
 v12 := Tryz.zeroValue12
 i12 := by kernel_rfl
 t17 := Tryz.underlying17
 a17 := Tryz.isAgg17
 z17 := Tryz.sizeOf17
 v17 := Tryz.zeroValue17
 i17 := by kernel_rfl
 t20 := Tryz.underlying20
 a20 := Tryz.isAgg20
 z20 := Tryz.sizeOf20
 v20 := Tryz.zeroValue20
 i20 := by kernel_rfl
 t26 := Tryz.underlying199
 a26 := Tryz.isAgg199
 z26 := Tryz.sizeOf199
 v26 := Tryz.zeroValue199
 i26 := by kernel_rfl
 t32 := Tryz.underlying207
 a32 := Tryz.isAgg207
 z32 := Tryz.sizeOf207
 v32 := Tryz.zeroValue207
 i32 := by kernel_rfl
 t33 := Tryz.underlying208
 a33 := Tryz.isAgg208
 z33 := Tryz.sizeOf208
 v33 := Tryz.zeroValue208
 i33 := by kernel_rfl
 t35 := Tryz.underlying210
 a35 := Tryz.isAgg210
 z35 := Tryz.sizeOf210
 v35 := Tryz.zeroValue210
 i35 := by kernel_rfl
 t37 := Tryz.underlying212
 a37 := Tryz.isAgg212
 z37 := Tryz.sizeOf212
 v37 := Tryz.zeroValue212
 i37 := by kernel_rfl
 t41 := Tryz.underlying76
 a41 := Tryz.isAgg76
 z41 := Tryz.sizeOf76
 v41 := Tryz.zeroValue76
 i41 := by kernel_rfl
 t44 := Tryz.underlying217
 a44 := Tryz.isAgg217
 z44 := Tryz.sizeOf217
 v44 := Tryz.zeroValue217
 i44 := by kernel_rfl
 t49 := Tryz.underlying120
 a49 := Tryz.isAgg120
 z49 := Tryz.sizeOf120
 v49 := Tryz.zeroValue120
 i49 := by kernel_rfl
 t51 := Tryz.underlying223
 a51 := Tryz.isAgg223
 z51 := Tryz.sizeOf223
 v51 := Tryz.zeroValue223
 i51 := by kernel_rfl
 t53 := Tryz.underlying225
 a53 := Tryz.isAgg225
 z53 := Tryz.sizeOf225
 v53 := Tryz.zeroValue225
 i53 := by kernel_rfl
 t54 := Tryz.underlying226
 a54 := Tryz.isAgg226
 z54 := Tryz.sizeOf226
 v54 := Tryz.zeroValue226
 i54 := by kernel_rfl
 t58 := Tryz.underlying230
 a58 := Tryz.isAgg230
 z58 := Tryz.sizeOf230
 v58 := Tryz.zeroValue230
 i58 := by kernel_rfl
 t60 := Tryz.underlying232
 a60 := Tryz.isAgg232
 z60 := Tryz.sizeOf232
 v60 := Tryz.zeroValue232
 i60 := by kernel_rfl
 t64 := Tryz.underlying236
 a64 := Tryz.isAgg236
 z64 := Tryz.sizeOf236
 v64 := Tryz.zeroValue236
 i64 := by kernel_rfl
 t66 := Tryz.underlying238
 a66 := Tryz.isAgg238
 z66 := Tryz.sizeOf238
 v66 := Tryz.zeroValue238
 i66 := by kernel_rfl
 t67 := Tryz.underlying239
 a67 := Tryz.isAgg239
 z67 := Tryz.sizeOf239
 v67 := Tryz.zeroValue239
 i67 := by kernel_rfl
 t75 := Tryz.underlying246
 a75 := Tryz.isAgg246
 z75 := Tryz.sizeOf246
 v75 := Tryz.zeroValue246
 i75 := by kernel_rfl
 t76 := Tryz.underlying247
 a76 := Tryz.isAgg247
 z76 := Tryz.sizeOf247
 v76 := Tryz.zeroValue247
 i76 := by kernel_rfl
 t77 := Tryz.underlying248
 a77 := Tryz.isAgg248
 z77 := Tryz.sizeOf248
 v77 := Tryz.zeroValue248
 i77 := by kernel_rfl
 t78 := Tryz.underlying249
 a78 := Tryz.isAgg249
 z78 := Tryz.sizeOf249
 v78 := Tryz.zeroValue249
 i78 := by kernel_rfl
 t79 := Tryz.underlying250
 a79 := Tryz.isAgg250
 z79 := Tryz.sizeOf250
 v79 := Tryz.zeroValue250
 i79 := by kernel_rfl
 t80 := Tryz.underlying251
 a80 := Tryz.isAgg251
 z80 := Tryz.sizeOf251
 v80 := Tryz.zeroValue251
 i80 := by kernel_rfl
 t82 := Tryz.underlying253
 a82 := Tryz.isAgg253
 z82 := Tryz.sizeOf253
 v82 := Tryz.zeroValue253
 i82 := by kernel_rfl
theorem zhq {P : Program} {f : FuncId} {ts : List T} {r : T} (hfn : ∃ fn, P.funcs[f]? = some fn ∧ (fn.name == "runtime.NumGoroutine") = false ∧ fn.body.isNone = false)
 (h : ∀ X : Cx, HR X → ∀ vs, Args X ts vs → Calls P f vs.toArray X.w fun e w' => ∃ v, e = .returned v ∧ Below X.w.heap.size X.w w' ∧ RS { X with w := w' } r v) : CT P f [] ts r [] := by
 refine ⟨hfn, fun X hh hH hu vs ha => ?_⟩
 refine (h X hh vs ha).mono ?_
 rintro e w' ⟨v, rfl, hb, hr⟩
 have hgl : Gl { X with w := w' } := Gl.mono (X := X) (X' := { X with w := w' }) (fun g (hg : g < X.w.heap.size) hn => ⟨hn, hb.block g hg⟩) hh.gl
 have hno : ∀ r, X.H r = none := fun r => by rw [hH]; simp [idxE]
 refine ⟨v, { X with w := w' }, rfl, rfl, hH, hu, ⟨fun g g' r hr => absurd (hno r) hr, fun g r hg => ?_, fun r e he => ?_, hh.zero, hh.pos, hgl, fun g hg => ⟨(hh.inn g hg).1, Nat.lt_of_lt_of_le (hh.inn g hg).2.1 hb.size, (hh.inn g hg).2.2⟩⟩, hr, ?_⟩
 ·obtain ⟨a, b⟩ := hh.lt g r hg
  exact ⟨Nat.lt_of_lt_of_le a hb.size, b⟩
 ·have := hno r
  rw [show X.H r = some e from he] at this; cases this
 ·refine ⟨fun _ h => h, hb.os, hb.tape, hb.output, hb.size, fun g hg hn => ⟨hn, hb.block g hg⟩, fun r _ e' he => ?_, fun g hg hg0 => ⟨⟨hg, hg0⟩, hb.block g (hh.lt g 0 hg).1⟩, fun r _ hn => absurd (hno r) hn⟩
  have := hno r
  rw [show X.H r = some e' from he] at this; cases this
theorem zat (w : World) (os : Array Obj) : Below w.heap.size w (Go.Sort.grow w os) :=
 ⟨rfl, rfl, rfl, by show w.heap.size ≤ (w.heap ++ os).size; rw [Array.size_append]; omega, fun b hb => by
   show (w.heap ++ os)[b]? = w.heap[b]?
   rw [Array.getElem?_append_left hb]⟩
set_option maxRecDepth 100000 in
set_option maxHeartbeats 4000000 in
theorem z3V (n : Nat) (hn : n ≤ 1) : CT Tryz.prog 180 [] [.ifz 24 n, .fna] (.tup []) [] := by
 obtain ⟨i, hi⟩ : ∃ i, Tryz.prog.info? 24 = some i := ⟨_, rfl⟩
 obtain ⟨ie, hie⟩ : ∃ i, Tryz.prog.info? 144 = some i := ⟨_, rfl⟩
 have hd : i.desc = .slice 144 := by
  have : (Tryz.prog.info? 24).map (·.desc) = some (.slice 144) := by kernel_rfl
  rw [hi] at this; injection this
 have hsz : ie.size = 3 := by
  have : (Tryz.prog.info? 144).map (·.size) = some 3 := by kernel_rfl
  rw [hie] at this; injection this
 have hp0 : Tryz.prog.funcs.findIdx? (·.name == "internal/reflectlite" ++ ".Swapper$" ++ toString (1 : Nat)) = some 204 := by kernel_rfl
 have hp1 : Tryz.prog.funcs.findIdx? (·.name == "internal/reflectlite" ++ ".Swapper$" ++ toString (2 : Nat)) = some 205 := by kernel_rfl
 have h01 : n = 0 ∨ n = 1 := by omega
 have hK : ∀ ke, Lib.swapperK n ie ke = n + 1 := fun ke => by
  rcases h01 with h | h <;> (rw [h]; simp [Lib.swapperK, hsz])
 obtain ⟨f, hf⟩ : ∃ f, ∀ ke, Tryz.prog.funcs.findIdx? (·.name == "internal/reflectlite" ++ ".Swapper$" ++ toString (Lib.swapperK n ie ke)) = some f := by
  rcases h01 with h | h
  ·exact ⟨_, fun ke => by rw [hK, h]; exact hp0⟩
  ·exact ⟨_, fun ke => by rw [hK, h]; exact hp1⟩
 refine zhq ⟨_, Tryz.func180, rfl, rfl⟩ fun X hh vs ha => ?_
 obtain ⟨v, us, rfl, hv, u, us2, rfl, hu, rfl⟩ := ha
 have hv : RV X.ow X.w (.ifz 24 n) v := hv
 have hu : RV X.ow X.w .fna u := hu
 simp only [RV] at hv hu
 obtain ⟨p, c, rfl⟩ := hv
 obtain ⟨lf, la, lb, rfl⟩ := hu
 refine (Any.sort_Slice_tiny zhp 24 144 i ie hi hd (by kernel_rfl) hie 25 (fun _ => by kernel_rfl) p n c hn f (hf 25) lf la lb X.w).mono ?_
 rintro e w' ⟨rfl, os, rfl⟩
 exact ⟨_, rfl, zat X.w os, ⟨_, rfl, rfl⟩⟩
end Go.Proofs.YthbdlnogojcnmaaGreatDoor
