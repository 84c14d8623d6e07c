/- Functions by content: sort.Slice of at most one file, by what the kit's shelf proves once for all programs. Functions by content: the program signs texts and heads. -/
import Derived.Shelf.GgSortFunc.Tiny
import Derived.Test.YtkjjacndfieeoaaGreatDoorVe
import Derived.Test.YtkjjacndfieeoaaGreatDoorXt
import Derived.Test.YtkjjacndfieeoaaGreatDoorSp
import Derived.Test.YtkjjacndfieeoaaGreatDoorCk
import Derived.Test.YtkjjacndfieeoaaGreatDoorCsy
namespace Go.Proofs.YtkjjacndfieeoaaGreatDoor
set_option linter.unusedVariables false
set_option linter.unusedSimpArgs false
set_option linter.unusedSectionVars false
open Go.RowKit Pl
def slsRen : Go.Shelf.Ren := ⟨fun | 6 => 180 | 10 => 199 | 11 => 200 | 12 => 201 | 13 => 202 | 14 => 203 | 24 => 222 | 25 => 223 | 26 => 224 | 27 => 225 | 28 => 226 | 29 => 227 | 30 => 228 | 31 => 229 | 32 => 230 | 33 => 231 | 34 => 238 | 35 => 239 | 36 => 240 | 37 => 241 | 38 => 242 | 39 => 245 | n => n, fun | 20 => 20 | 26 => 178 | 35 => 192 | 0 => 0 | 37 => 194 | 3 => 3 | 41 => 47 | 44 => 199 | 49 => 108 | 51 => 203 | 4 => 4 | 54 => 214 | 53 => 213 | 58 => 218 | 5 => 5 | 9 => 9 | 60 => 224 | 64 => 228 | 66 => 230 | 67 => 231 | 17 => 17 | 32 => 189 | 33 => 190 | 82 => 247 | 12 => 12 | 75 => 240 | 76 => 241 | 77 => 242 | 78 => 243 | 79 => 244 | 80 => 245 | n => n, fun n => n⟩
theorem zj4 : LaysGg.n6 Tryz.prog slsRen where
 mixed := by kernel_rfl
 f6 := Tryz.func180.trans (congrArg some (by kernel_rfl))
 f10 := Tryz.func199.trans (congrArg some (by kernel_rfl))
 f11 := Tryz.func200.trans (congrArg some (by kernel_rfl))
 f12 := Tryz.func201.trans (congrArg some (by kernel_rfl))
 f13 := Tryz.func202.trans (congrArg some (by kernel_rfl))
 f14 := Tryz.func203.trans (congrArg some (by kernel_rfl))
 f24 := Tryz.func222.trans (congrArg some (by kernel_rfl))
 f25 := Tryz.func223.trans (congrArg some (by kernel_rfl))
 f26 := Tryz.func224.trans (congrArg some (by kernel_rfl))
 f27 := Tryz.func225.trans (congrArg some (by kernel_rfl))
 f28 := Tryz.func226.trans (congrArg some (by kernel_rfl))
 f29 := Tryz.func227.trans (congrArg some (by kernel_rfl))
 f30 := Tryz.func228.trans (congrArg some (by kernel_rfl))
 f31 := Tryz.func229.trans (congrArg some (by kernel_rfl))
 f32 := Tryz.func230.trans (congrArg some (by kernel_rfl))
 f33 := Tryz.func231.trans (congrArg some (by kernel_rfl))
 f34 := Tryz.func238.trans (congrArg some (by kernel_rfl))
 f35 := Tryz.func239.trans (congrArg some (by kernel_rfl))
 f36 := Tryz.func240.trans (congrArg some (by kernel_rfl))
 f37 := Tryz.func241.trans (congrArg some (by kernel_rfl))
 f38 := Tryz.func242.trans (congrArg some (by kernel_rfl))
 f39 := Tryz.func245.trans (congrArg some (by kernel_rfl))
 t0 := Tryz.underlying0
 a0 := Tryz.isAgg0
 z0 := Tryz.sizeOf0
 v0 := Tryz.zeroValue0
 i0 := by kernel_rfl
 t3 := Tryz.underlying3
 a3 := Tryz.isAgg3
 z3 := Tryz.sizeOf3
 v3 := Tryz.zeroValue3
 i3 := by kernel_rfl
 t4 := Tryz.underlying4
 a4 := Tryz.isAgg4
 z4 := Tryz.sizeOf4
 v4 := Tryz.zeroValue4
 i4 := by kernel_rfl
 t5 := Tryz.underlying5
 a5 := Tryz.isAgg5
 z5 := Tryz.sizeOf5
 v5 := Tryz.zeroValue5
 i5 := by kernel_rfl
 t9 := Tryz.underlying9
 a9 := Tryz.isAgg9
 z9 := Tryz.sizeOf9
 v9 := Tryz.zeroValue9
 i9 := by kernel_rfl
 t12 := Tryz.underlying12
 a12 := Tryz.isAgg12
 z12 := Tryz.sizeOf12
 v12 := Tryz.zeroValue12
 i12 := by kernel_rfl
 t17 := Tryz.underlying17
 a17 := Tryz.isAgg17
 z17 := Tryz.sizeOf17
 v17 := Tryz.zeroValue17
 i17 := by kernel_rfl
 t20 := Tryz.underlying20
 a20 := Tryz.isAgg20
 z20 := Tryz.sizeOf20
 v20 := Tryz.zeroValue20
 i20 := by kernel_rfl
 t26 := Tryz.underlying178
 a26 := Tryz.isAgg178
 z26 := Tryz.sizeOf178
 v26 := Tryz.zeroValue178
 i26 := by kernel_rfl
 t32 := Tryz.underlying189
 a32 := Tryz.isAgg189
 z32 := Tryz.sizeOf189
 v32 := Tryz.zeroValue189
 i32 := by kernel_rfl
 t33 := Tryz.underlying190
 a33 := Tryz.isAgg190
 z33 := Tryz.sizeOf190
 v33 := Tryz.zeroValue190
 i33 := by kernel_rfl
 t35 := Tryz.underlying192
 a35 := Tryz.isAgg192
 z35 := Tryz.sizeOf192
 v35 := Tryz.zeroValue192
 i35 := by kernel_rfl
 t37 := Tryz.underlying194
 a37 := Tryz.isAgg194
 z37 := Tryz.sizeOf194
 v37 := Tryz.zeroValue194
 i37 := by kernel_rfl
 t41 := Tryz.underlying47
 a41 := Tryz.isAgg47
 z41 := Tryz.sizeOf47
 v41 := Tryz.zeroValue47
 i41 := by kernel_rfl
 t44 := Tryz.underlying199
 a44 := Tryz.isAgg199
 z44 := Tryz.sizeOf199
 v44 := Tryz.zeroValue199
 i44 := by kernel_rfl
 t49 := Tryz.underlying108
 a49 := Tryz.isAgg108
 z49 := Tryz.sizeOf108
 v49 := Tryz.zeroValue108
 i49 := by kernel_rfl
 t51 := Tryz.underlying203
 a51 := Tryz.isAgg203
 z51 := Tryz.sizeOf203
 v51 := Tryz.zeroValue203
 i51 := by kernel_rfl
 t53 := Tryz.underlying213
 a53 := Tryz.isAgg213
 z53 := Tryz.sizeOf213
 v53 := Tryz.zeroValue213
 i53 := by kernel_rfl
 t54 := Tryz.underlying214
 a54 := Tryz.isAgg214
 z54 := Tryz.sizeOf214
 v54 := Tryz.zeroValue214
 i54 := by kernel_rfl
 t58 := Tryz.underlying218
 a58 := Tryz.isAgg218
 z58 := Tryz.sizeOf218
 v58 := Tryz.zeroValue218
 i58 := by kernel_rfl
 t60 := Tryz.underlying224
 a60 := Tryz.isAgg224
 z60 := Tryz.sizeOf224
 v60 := Tryz.zeroValue224
 i60 := by kernel_rfl
 t64 := Tryz.underlying228
 a64 := Tryz.isAgg228
 z64 := Tryz.sizeOf228
 v64 := Tryz.zeroValue228
 i64 := by kernel_rfl
 t66 := Tryz.underlying230
 a66 := Tryz.isAgg230
 z66 := Tryz.sizeOf230
 v66 := Tryz.zeroValue230
 i66 := by kernel_rfl
 t67 := Tryz.underlying231
 a67 := Tryz.isAgg231
 z67 := Tryz.sizeOf231
 v67 := Tryz.zeroValue231
 i67 := by kernel_rfl
 t75 := Tryz.underlying240
 a75 := Tryz.isAgg240
 z75 := Tryz.sizeOf240
 v75 := Tryz.zeroValue240
 i75 := by kernel_rfl
 t76 := Tryz.underlying241
 a76 := Tryz.isAgg241
 z76 := Tryz.sizeOf241
 v76 := Tryz.zeroValue241
 i76 := by kernel_rfl
 t77 := Tryz.underlying242
 a77 := Tryz.isAgg242
 z77 := Tryz.sizeOf242
 v77 := Tryz.zeroValue242
 i77 := by kernel_rfl
 t78 := Tryz.underlying243
 a78 := Tryz.isAgg243
 z78 := Tryz.sizeOf243
 v78 := Tryz.zeroValue243
 i78 := by kernel_rfl
 t79 := Tryz.underlying244
 a79 := Tryz.isAgg244
 z79 := Tryz.sizeOf244
 v79 := Tryz.zeroValue244
 i79 := by kernel_rfl
 t80 := Tryz.underlying245
 a80 := Tryz.isAgg245
 z80 := Tryz.sizeOf245
 v80 := Tryz.zeroValue245
 i80 := by kernel_rfl
 t82 := Tryz.underlying247
 a82 := Tryz.isAgg247
 z82 := Tryz.sizeOf247
 v82 := Tryz.zeroValue247
 i82 := by kernel_rfl
theorem zj5 {P : Program} {f : FuncId} {ts : List T} {r : T} (hfn : ∃ fn, P.funcs[f]? = some fn ∧ (fn.name == "runtime.NumGoroutine") = false ∧ fn.body.isNone = false)
 (h : ∀ X : Cx, HR X → ∀ vs, Args X ts vs → Calls P f vs.toArray X.w fun e w' => ∃ v, e = .returned v ∧ Below X.w.heap.size X.w w' ∧ RS { X with w := w' } r v) : CT P f [] ts r [] := by
 refine ⟨hfn, fun X hh hH hu vs ha => ?_⟩
 refine (h X hh vs ha).mono ?_
 rintro e w' ⟨v, rfl, hb, hr⟩
 have hgl : Gl { X with w := w' } := Gl.mono (X := X) (X' := { X with w := w' }) (fun g (hg : g < X.w.heap.size) hn => ⟨hn, hb.block g hg⟩) hh.gl
 have hno : ∀ r, X.H r = none := fun r => by rw [hH]; simp [idxE]
 refine ⟨v, { X with w := w' }, rfl, rfl, hH, hu, ⟨fun g g' r hr => absurd (hno r) hr, fun g r hg => ?_, fun r e he => ?_, hh.zero, hh.pos, hgl, fun g hg => ⟨(hh.inn g hg).1, Nat.lt_of_lt_of_le (hh.inn g hg).2.1 hb.size, (hh.inn g hg).2.2⟩⟩, hr, ?_⟩
 ·obtain ⟨a, b⟩ := hh.lt g r hg
  exact ⟨Nat.lt_of_lt_of_le a hb.size, b⟩
 ·have := hno r
  rw [show X.H r = some e from he] at this; cases this
 ·refine ⟨fun _ h => h, hb.os, hb.tape, hb.output, hb.size, fun g hg hn => ⟨hn, hb.block g hg⟩, fun r _ e' he => ?_, fun g hg hg0 => ⟨⟨hg, hg0⟩, hb.block g (hh.lt g 0 hg).1⟩, fun r _ hn => absurd (hno r) hn⟩
  have := hno r
  rw [show X.H r = some e' from he] at this; cases this
theorem zbe (w : World) (os : Array Obj) : Below w.heap.size w (Go.Sort.grow w os) :=
 ⟨rfl, rfl, rfl, by show w.heap.size ≤ (w.heap ++ os).size; rw [Array.size_append]; omega, fun b hb => by
   show (w.heap ++ os)[b]? = w.heap[b]?
   rw [Array.getElem?_append_left hb]⟩
set_option maxRecDepth 100000 in
set_option maxHeartbeats 4000000 in
theorem z3X (n : Nat) (hn : n ≤ 1) : CT Tryz.prog 180 [] [.ifz 24 n, .fna] (.tup []) [] := by
 obtain ⟨i, hi⟩ : ∃ i, Tryz.prog.info? 24 = some i := ⟨_, rfl⟩
 obtain ⟨ie, hie⟩ : ∃ i, Tryz.prog.info? 115 = some i := ⟨_, rfl⟩
 have hd : i.desc = .slice 115 := by
  have : (Tryz.prog.info? 24).map (·.desc) = some (.slice 115) := by kernel_rfl
  rw [hi] at this; injection this
 have hsz : ie.size = 3 := by
  have : (Tryz.prog.info? 115).map (·.size) = some 3 := by kernel_rfl
  rw [hie] at this; injection this
 have hp0 : Tryz.prog.funcs.findIdx? (·.name == "internal/reflectlite" ++ ".Swapper$" ++ toString (1 : Nat)) = some 213 := by kernel_rfl
 have hp1 : Tryz.prog.funcs.findIdx? (·.name == "internal/reflectlite" ++ ".Swapper$" ++ toString (2 : Nat)) = some 214 := by kernel_rfl
 have h01 : n = 0 ∨ n = 1 := by omega
 have hK : ∀ ke, Lib.swapperK n ie ke = n + 1 := fun ke => by
  rcases h01 with h | h <;> (rw [h]; simp [Lib.swapperK, hsz])
 obtain ⟨f, hf⟩ : ∃ f, ∀ ke, Tryz.prog.funcs.findIdx? (·.name == "internal/reflectlite" ++ ".Swapper$" ++ toString (Lib.swapperK n ie ke)) = some f := by
  rcases h01 with h | h
  ·exact ⟨_, fun ke => by rw [hK, h]; exact hp0⟩
  ·exact ⟨_, fun ke => by rw [hK, h]; exact hp1⟩
 refine zj5 ⟨_, Tryz.func180, rfl, rfl⟩ fun X hh vs ha => ?_
 obtain ⟨v, us, rfl, hv, u, us2, rfl, hu, rfl⟩ := ha
 have hv : RV X.ow X.w (.ifz 24 n) v := hv
 have hu : RV X.ow X.w .fna u := hu
 simp only [RV] at hv hu
 obtain ⟨p, c, rfl⟩ := hv
 obtain ⟨lf, la, lb, rfl⟩ := hu
 refine (Any.sort_Slice_tiny zj4 24 115 i ie hi hd (by kernel_rfl) hie 25 (fun _ => by kernel_rfl) p n c hn f (hf 25) lf la lb X.w).mono ?_
 rintro e w' ⟨rfl, os, rfl⟩
 exact ⟨_, rfl, zbe X.w os, ⟨_, rfl, rfl⟩⟩
end Go.Proofs.YtkjjacndfieeoaaGreatDoor
namespace Go.Proofs.YtkjjacndfieeoaaGreatDoor
set_option maxRecDepth 100000
set_option maxHeartbeats 8000000
set_option linter.unusedVariables false
set_option linter.unusedSimpArgs false
set_option linter.unusedSectionVars false
open Go.RowKit Pl
theorem zj6 {a b : Bs} (ha : a.length = 16) (hb : b.length = 16) : z3A 3 [a, b] 16 = z1a 3 [a, b] 16 := by
 have hP : z0Q [a, b] := zcx (by simp) (fun z hz => by
  simp only [List.mem_cons, List.not_mem_nil, or_false] at hz
  rcases hz with rfl | rfl <;> assumption)
 exact if_pos hP
theorem upA_B {l : List Bs} (h : ∀ x ∈ l, x.length = 16) : upA l (l.length / 2) = upN l (l.length / 2) := by
 unfold upA upN
 refine List.map_congr_left fun i hi => ?_
 rw [List.mem_range] at hi
 exact zj6 (z2u h (by omega)) (z2u h (by omega))
section
attribute [local irreducible] z0m z0n z0q AnsP LeP
theorem zj7 (seed : Bs) (pool : List Bs) (a : Nat) (text : Bs) (hs : seed.length ≤ 100) (ha : a < 16) (hl : pool.length = 16) (hw : ∀ x ∈ pool, x.length = 16) (hp : pAt pool a = pubB seed a) (ht : text.length ≤ 200) :
 CT Tryz.prog 114 [] [.str seed, .sl 1 (strE pool), .int .i64 (a : Int), .str text] (.tup [.agg (sgE (z4o seed pool a text)), .bool true]) [] := by
 have hlen := z0d pool
 have c1 := zh6 (x := (a : Int)) (lo := 0) (hi := 15) (by omega)
 have c2 := zcC seed a hs ha
 have hpl := z8F seed a
 have ga := z0v (show a < pool.length by omega)
 rw [hp] at ga
 generalize pubB seed a = pk at c2 ga hpl
 obtain ⟨x, xs, rfl⟩ := zcw hpl
 have c3 := zdw text ht
 have hix := zfq text
 have htl : (text.length : Int) ≤ 200 := by omega
 show CT _ _ _ _ (.tup [.agg [.int .i64 (a : Int), .sl 1 (strE (z2q seed a (sbB text) 8)), .sl 1 (strE (z2r seed a (sbB text) 8)), .sl 1 (strE (z3j pool a 4))], .bool true]) _
 generalize sbB text = ix at c3 hix ⊢
 refine z01 z16 1 rfl Tryz.func114 rfl rfl rfl ?_
 have hne : ¬ ((x :: xs : Bs) = []) := fun h => by cases h
 have her : (x :: xs : Bs) = x :: xs := rfl
 repeat ((try conv => whnf); first | (refine z0o hne ?_) | (refine z0F her ?_) | (refine Exists.intro 16 (And.intro (hlen.trans hl) ?_)) | (refine ccA ([]) (c1) ?_) | (refine ccA ([]) (c2) ?_) | (refine i_at ga ?_) | (refine ccA ([]) (c3) ?_) | (refine stpQ ?_))
 refine z0i 0 ⟨[(1, .sl 1 (strE pool)), (2, .int .i64 (a : Int)), (8, .ptr 1 0 0), (9, .bool false), (11, .ptr 2 0 0)], [(1, some (.box [.int .i64 0, .val nilV, .val nilV, .val nilV])), (2, some (.box [.int .i64 (a : Int), .ref 3, .ref 4, .val nilV])), (3, some (.row 1 (strE (z2q seed a ix 8)))), (4, some (.row 1 (strE (z2r seed a ix 8))))], 5⟩ Nat (fun b => ⟨[(0, .str seed), (1, .sl 1 (strE pool)), (2, .int .i64 (a : Int)), (8, .ptr 1 0 0), (9, .bool false), (11, .ptr 2 0 0), (12, .int .i64 (ix : Int)), (49, .int .i64 (b : Int))], [(1, some (.box [.int .i64 0, .val nilV, .val nilV, .val nilV])), (2, some (.box [.int .i64 (a : Int), .ref 3, .ref 4, .val nilV])), (3, some (.row 1 (strE (z2q seed a ix b)))), (4, some (.row 1 (strE (z2r seed a ix b))))], 5⟩) (fun b => b ≤ 8) (fun b => 8 - b) 0 (by omega) ?_ ?_ ?_
 ·(refine z02 (by rfl) ?_ ?_) <;> (repeat' (first | (exact eqA) | (refine shE ?_) | (refine And.intro ?_ ?_))) <;> first | rfl | decide
 ·intro b hb
  by_cases hlt : b < 8
  ·have hb8 : (b : Int) < 8 := by omega
   have cb := i_sbit ix b hix hlt
   have hv := zaV ix b
   have n1 := z7D seed a ix b
   have n2 := z7E seed a ix b
   have l1 := z6t seed a ix b
   have l2 := z6u seed a ix b
   generalize sbit ix b = v at cb hv n1 n2
   have ev : IntKind.i64.wrap (1 - (v : Int)) = ((1 - v : Nat) : Int) := by rw [wrap_i64 (by omega) (by omega)]; omega
   have k1 := z8Q seed a b v hs ha hlt hv
   have k2 := z8Q seed a b (1 - v) hs ha hlt (by omega)
   have k2l := z4m seed a b (1 - v)
   have k3 := zi2 (secB seed a b (1 - v)) (by omega)
   clear k2l
   generalize z30 (secB seed a b (1 - v)) = y3 at k3 n2
   generalize secB seed a b (1 - v) = y2 at k2 k3
   generalize secB seed a b v = y1 at k1 n1
   generalize z2q seed a ix b = o1 at n1 l1 ⊢
   generalize z2r seed a ix b = o2 at n2 l2 ⊢
   have ho1 := z0d o1
   have ho2 := z0d o2
   repeat ((try conv => whnf); first | (refine ccA ([]) (cb) ?_) | (refine ccA ([]) (k1) ?_) | (refine Exists.intro _ (And.intro ev.symm ?_)) | (refine ccA ([]) (k2) ?_) | (refine ccA ([]) (k3) ?_) | (refine And.intro (by simp [z0d]; omega) ?_) | (refine And.intro (by kernel_rfl) ?_) | (refine stpQ ?_))
   refine ⟨b + 1, by omega, by omega, ?_⟩
   rw [n1, n2]
   (refine z02 (by rfl) ?_ ?_) <;> (repeat' (first | (exact eqA) | (refine shE ?_) | (refine And.intro ?_ ?_)))
   ·rw [z1m]; rfl
   ·rw [z1m]; rfl
  ·obtain rfl : b = 8 := by omega
   repeat ((try conv => whnf); first | (refine stpQ ?_))
   (refine z02 (by rfl) ?_ ?_) <;> (repeat' (first | (exact eqA) | (refine shE ?_) | (refine And.intro ?_ ?_)))
 ·generalize z2q seed a ix 8 = o1
  generalize z2r seed a ix 8 = o2
  repeat ((try conv => whnf); first | (refine And.intro (by rw [List.length_append, hlen, hl]; simp) ?_) | (refine stpQ ?_))
  refine z0i 2 ⟨[(8, .ptr 1 0 0), (9, .bool false), (11, .ptr 2 0 0)], [(1, some (.box [.int .i64 0, .val nilV, .val nilV, .val nilV])), (2, some (.box [.int .i64 (a : Int), .ref 3, .ref 4, .ref 5])), (3, some (.row 1 (strE o1))), (4, some (.row 1 (strE o2))), (5, some (.row 1 (strE (z3j pool a 4))))], 6⟩ Nat (fun j => ⟨[(8, .ptr 1 0 0), (9, .bool false), (11, .ptr 2 0 0), (15, .sl 1 (strE (lvlB pool j))), (16, .int .i64 ((a / 2 ^ j : Nat) : Int))], [(1, some (.box [.int .i64 0, .val nilV, .val nilV, .val nilV])), (2, some (.box [.int .i64 (a : Int), .ref 3, .ref 4, .ref 5])), (3, some (.row 1 (strE o1))), (4, some (.row 1 (strE o2))), (5, some (.row 1 (strE (z3j pool a j))))], 6⟩) (fun j => j ≤ 4) (fun j => 4 - j) 0 (by omega) ?_ ?_ ?_
  ·(refine z02 (by rfl) ?_ ?_) <;> (repeat' (first | (exact eqA) | (refine shE ?_) | (refine And.intro ?_ ?_))) <;> first | rfl | decide
   all_goals (simp; done)
  ·intro j hj
   have hL := z2S hl j
   have hW := z4n hw j
   by_cases hlt : j < 4
   ·have h2 : 2 ≤ 16 / 2 ^ j := by
     rcases (by omega : j = 0 ∨ j = 1 ∨ j = 2 ∨ j = 3) with rfl | rfl | rfl | rfl <;> decide
    have h16 : 16 / 2 ^ j ≤ 16 := Nat.div_le_self _ _
    have hnx : lvlB pool (j + 1) = upN (lvlB pool j) ((lvlB pool j).length / 2) := rfl
    have hsn := z7F pool a j
    have hsl := z6v pool a j
    have hsi := zfr ha hlt
    have ek : a / 2 ^ (j + 1) = a / 2 ^ j / 2 := by rw [Nat.pow_succ, Nat.div_div_eq_div_mul]
    have hk : a / 2 ^ j < 256 := Nat.lt_of_le_of_lt (Nat.div_le_self _ _) (by omega)
    have eb := zcq (a / 2 ^ j) hk
    have cu : CT Tryz.prog 110 [] [.sl 1 (strE (lvlB pool j)), .int .i64 16] (.sl 1 (strE (upN (lvlB pool j) ((lvlB pool j).length / 2)))) [] := by rw [← upA_B hW]; exact zcA (lvlB pool j) (by omega)
    have gs := z0v (ps := lvlB pool j) (k := sib (a / 2 ^ j)) (by omega)
    generalize lvlB pool j = o at hL cu hnx gs hsn ⊢
    generalize a / 2 ^ j = k at ek hk eb gs hsi hsn ⊢
    generalize pAt o (sib k) = y at gs hsn
    generalize z3j pool a j = o3 at hsn hsl ⊢
    have ho := z0d o
    have ho3 := z0d o3
    have h3 : (o.length : Int) > 1 := by omega
    repeat ((try conv => whnf); first | (refine Exists.intro o.length (And.intro ho ?_)) | (refine Exists.intro _ (And.intro eb.symm ?_)) | (refine i_at gs ?_) | (refine And.intro (by simp [z0d]; omega) ?_) | (refine And.intro (by kernel_rfl) ?_) | (refine ccA ([]) (cu) ?_) | (refine zca (n := nat_lit 2) (by omega) ?_) | (refine stpQ ?_))
    refine ⟨j + 1, by omega, by omega, ?_⟩
    rw [hnx, hsn, ek]
    (refine z02 (by rfl) ?_ ?_) <;> (repeat' (first | (exact eqA) | (refine shE ?_) | (refine And.intro ?_ ?_)))
    rw [z1m]; rfl
   ·obtain rfl : j = 4 := by omega
    generalize lvlB pool 4 = o at hL ⊢
    have ho := z0d o
    repeat ((try conv => whnf); first | (refine Exists.intro 1 (And.intro (ho.trans hL) ?_)) | (refine stpQ ?_))
    (refine z02 (by rfl) ?_ ?_) <;> (repeat' (first | (exact eqA) | (refine shE ?_) | (refine And.intro ?_ ?_)))
  ·repeat ((try conv => whnf); first | (refine And.intro (by kernel_rfl) ?_) | (refine stpQ ?_))
   (refine z00 (by rfl) ?_ ?_ (by rfl)) <;> (repeat' (first | (exact eqA) | (refine shE ?_) | (refine And.intro ?_ ?_)))
theorem zbp (seed : Bs) (h : Hd) (hs : seed.length ≤ 100) (g : h.good) : CT Tryz.prog 76 [] [.str seed, .sl 1 (strE (z0g seed 16)), .agg (hdE h)] (.tup [.agg (hdE h ++ sgE (z4o seed (z0g seed 16) (h.ep - 1) (z1G h))), .bool true]) [] := by
 have c1 := z5x h g
 have c2 := zh9 h.ep ⟨g.2.1, g.2.2.1⟩
 have c3 := z7M h g
 have c4 := zj7 seed (z0g seed 16) (h.ep - 1) (z1G h) hs (by have := g.2.2.1; omega) (z0H _ _) z2I (z8G (by have := g.2.2.1; omega)) (by rw [z6B]; decide)
 generalize z4o seed (z0g seed 16) (h.ep - 1) (z1G h) = sg at *
 generalize z1G h = hh at *
 generalize strE (z0g seed 16) = PO at *
 unfold hdE sgE at *
 clear g
 refine z01 z16 1 rfl Tryz.func76 rfl rfl rfl ?_
 repeat ((try conv => whnf); first | (refine ccA ([]) (c1) ?_) | (refine ccA ([]) (c2) ?_) | (refine ccA ([]) (c3) ?_) | (refine ccA ([]) (c4) ?_) | (refine And.intro (by kernel_rfl) ?_) | (refine stpQ ?_))
 (refine z00 (by rfl) ?_ ?_ (by rfl)) <;> (repeat' (first | (exact eqA) | (refine shE ?_) | (refine And.intro ?_ ?_))) <;> first | rfl | (simp; done)
end
end Go.Proofs.YtkjjacndfieeoaaGreatDoor
