/- sort.Ints of any row of the call's own, by what the kit's shelf proves of it once for all programs. -/
import Derived.Shelf.Sort.Plain
import Derived.Shelf.Slices.In.SortNone2
import Derived.Sort.OwnSortedInts
import Derived.Test.YtnhcfmmdaihneaaGreatDoorFb
namespace Go.Proofs.YtnhcfmmdaihneaaGreatDoor
set_option linter.unusedVariables false
set_option linter.unusedSimpArgs false
set_option linter.unusedSectionVars false
open Go.RowKit Pl
def soiRen : Go.Shelf.Ren := ⟨fun | 191 => 230 | 189 => 263 | 125 => 286 | 257 => 285 | 128 => 309 | 129 => 310 | 294 => 300 | 295 => 301 | 296 => 302 | 297 => 303 | 298 => 304 | 299 => 305 | 216 => 306 | 300 => 307 | 301 => 308 | 328 => 320 | 329 => 321 | 330 => 322 | 331 => 323 | 332 => 324 | 215 => 325 | 343 => 331 | n => n, fun | 28 => 39 | 0 => 0 | 3 => 3 | 46 => 177 | 51 => 258 | 53 => 284 | 4 => 4 | 183 => 295 | 182 => 294 | 131 => 299 | 5 => 5 | 9 => 9 | 218 => 307 | 222 => 311 | 228 => 315 | 229 => 316 | n => n, fun n => n⟩
theorem zb9 : Lays.n191 Tryz.prog soiRen where
 mixed := by kernel_rfl
 f125 := Tryz.func286.trans (congrArg some (by kernel_rfl))
 f128 := Tryz.func309.trans (congrArg some (by kernel_rfl))
 f129 := Tryz.func310.trans (congrArg some (by kernel_rfl))
 f189 := Tryz.func263.trans (congrArg some (by kernel_rfl))
 f191 := Tryz.func230.trans (congrArg some (by kernel_rfl))
 f215 := Tryz.func325.trans (congrArg some (by kernel_rfl))
 f216 := Tryz.func306.trans (congrArg some (by kernel_rfl))
 f257 := Tryz.func285.trans (congrArg some (by kernel_rfl))
 f294 := Tryz.func300.trans (congrArg some (by kernel_rfl))
 f295 := Tryz.func301.trans (congrArg some (by kernel_rfl))
 f296 := Tryz.func302.trans (congrArg some (by kernel_rfl))
 f297 := Tryz.func303.trans (congrArg some (by kernel_rfl))
 f298 := Tryz.func304.trans (congrArg some (by kernel_rfl))
 f299 := Tryz.func305.trans (congrArg some (by kernel_rfl))
 f300 := Tryz.func307.trans (congrArg some (by kernel_rfl))
 f301 := Tryz.func308.trans (congrArg some (by kernel_rfl))
 f328 := Tryz.func320.trans (congrArg some (by kernel_rfl))
 f329 := Tryz.func321.trans (congrArg some (by kernel_rfl))
 f330 := Tryz.func322.trans (congrArg some (by kernel_rfl))
 f331 := Tryz.func323.trans (congrArg some (by kernel_rfl))
 f332 := Tryz.func324.trans (congrArg some (by kernel_rfl))
 f343 := Tryz.func331.trans (congrArg some (by kernel_rfl))
 t0 := Tryz.underlying0
 a0 := Tryz.isAgg0
 z0 := Tryz.sizeOf0
 v0 := Tryz.zeroValue0
 t3 := Tryz.underlying3
 a3 := Tryz.isAgg3
 z3 := Tryz.sizeOf3
 v3 := Tryz.zeroValue3
 t4 := Tryz.underlying4
 a4 := Tryz.isAgg4
 z4 := Tryz.sizeOf4
 v4 := Tryz.zeroValue4
 t5 := Tryz.underlying5
 a5 := Tryz.isAgg5
 z5 := Tryz.sizeOf5
 v5 := Tryz.zeroValue5
 t9 := Tryz.underlying9
 a9 := Tryz.isAgg9
 z9 := Tryz.sizeOf9
 v9 := Tryz.zeroValue9
 t28 := Tryz.underlying39
 a28 := Tryz.isAgg39
 z28 := Tryz.sizeOf39
 v28 := Tryz.zeroValue39
 t46 := Tryz.underlying177
 a46 := Tryz.isAgg177
 z46 := Tryz.sizeOf177
 v46 := Tryz.zeroValue177
 t51 := Tryz.underlying258
 a51 := Tryz.isAgg258
 z51 := Tryz.sizeOf258
 v51 := Tryz.zeroValue258
 t53 := Tryz.underlying284
 a53 := Tryz.isAgg284
 z53 := Tryz.sizeOf284
 v53 := Tryz.zeroValue284
 t131 := Tryz.underlying299
 a131 := Tryz.isAgg299
 z131 := Tryz.sizeOf299
 v131 := Tryz.zeroValue299
 t182 := Tryz.underlying294
 a182 := Tryz.isAgg294
 z182 := Tryz.sizeOf294
 v182 := Tryz.zeroValue294
 t183 := Tryz.underlying295
 a183 := Tryz.isAgg295
 z183 := Tryz.sizeOf295
 v183 := Tryz.zeroValue295
 t218 := Tryz.underlying307
 a218 := Tryz.isAgg307
 z218 := Tryz.sizeOf307
 v218 := Tryz.zeroValue307
 t222 := Tryz.underlying311
 a222 := Tryz.isAgg311
 z222 := Tryz.sizeOf311
 v222 := Tryz.zeroValue311
 t228 := Tryz.underlying315
 a228 := Tryz.isAgg315
 z228 := Tryz.sizeOf315
 v228 := Tryz.zeroValue315
 t229 := Tryz.underlying316
 a229 := Tryz.isAgg316
 z229 := Tryz.sizeOf316
 v229 := Tryz.zeroValue316
theorem zci (base : Nat) (e : TypeId) (v : Value) (ss : List Int) (w : World) (h : w.ownsRow base e 1 v ss.length (ss.map (Value.int .i64))) (hs : ss.length < 4611686018427387904) :
 Calls Tryz.prog 230 #[v] w fun x w' => x = .returned (.tuple #[]) ∧ w'.ownsRow base e 1 v ss.length ((ss.mergeSort fun x y => decide (x ≤ y)).map (Value.int .i64)) ∧ w.grownBy w' v.ownBlock := by
 rcases h.2 with ⟨rfl, h0⟩ | ⟨g, cap, cur, rfl, hbase, hb, h1, h2, h3, h4⟩
 ·have e0 : ss = [] := List.eq_nil_of_length_eq_zero h0
  subst e0
  refine (Any.sort_Ints_none zb9 none 0 w).mono ?_
  rintro x w' ⟨rfl, rfl⟩
  exact ⟨rfl, by simpa using World.ownsRow_nil _ _ _ _, ⟨rfl, rfl, rfl, Nat.le_refl _, fun k hk hne => rfl⟩⟩
 ·refine (Any.sort_Ints zb9 g 0 cap ss w (holds_of_blockI hb (by simpa using h4)) (Array.getElem?_eq_some_iff.1 hb).1 hs).mono ?_
  rintro x w' ⟨rfl, n, os, rfl⟩
  exact ⟨rfl, ownsRow_sortedI (by simp) hbase hb h1 h2 h3, grownBy_sortedI _⟩
end Go.Proofs.YtnhcfmmdaihneaaGreatDoor
