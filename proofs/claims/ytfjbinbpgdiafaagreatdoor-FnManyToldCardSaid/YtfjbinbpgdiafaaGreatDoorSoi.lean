/- sort.Ints of any row of the call's own, by what the kit's shelf proves of it once for all programs. -/
import Derived.Shelf.Sort.Plain
import Derived.Shelf.Slices.In.SortNone2
import Derived.Sort.OwnSortedInts
import Derived.Test.YtfjbinbpgdiafaaGreatDoorFb
namespace Go.Proofs.YtfjbinbpgdiafaaGreatDoor
set_option linter.unusedVariables false
set_option linter.unusedSimpArgs false
set_option linter.unusedSectionVars false
open Go.RowKit Pl
def soiRen : Go.Shelf.Ren := ⟨fun | 191 => 122 | 189 => 169 | 125 => 196 | 257 => 195 | 128 => 213 | 129 => 214 | 294 => 204 | 295 => 205 | 296 => 206 | 297 => 207 | 298 => 208 | 299 => 209 | 216 => 210 | 300 => 211 | 301 => 212 | 328 => 220 | 329 => 221 | 330 => 222 | 331 => 223 | 332 => 224 | 215 => 225 | 343 => 230 | n => n, fun | 28 => 28 | 0 => 0 | 3 => 3 | 46 => 77 | 51 => 148 | 53 => 233 | 4 => 4 | 183 => 224 | 182 => 223 | 131 => 229 | 5 => 5 | 9 => 9 | 218 => 236 | 222 => 240 | 228 => 243 | 229 => 244 | n => n, fun n => n⟩
theorem zcp : Lays.n191 Tryz.prog soiRen where
 mixed := by kernel_rfl
 f125 := Tryz.func196.trans (congrArg some (by kernel_rfl))
 f128 := Tryz.func213.trans (congrArg some (by kernel_rfl))
 f129 := Tryz.func214.trans (congrArg some (by kernel_rfl))
 f189 := Tryz.func169.trans (congrArg some (by kernel_rfl))
 f191 := Tryz.func122.trans (congrArg some (by kernel_rfl))
 f215 := Tryz.func225.trans (congrArg some (by kernel_rfl))
 f216 := Tryz.func210.trans (congrArg some (by kernel_rfl))
 f257 := Tryz.func195.trans (congrArg some (by kernel_rfl))
 f294 := Tryz.func204.trans (congrArg some (by kernel_rfl))
 f295 := Tryz.func205.trans (congrArg some (by kernel_rfl))
 f296 := Tryz.func206.trans (congrArg some (by kernel_rfl))
 f297 := Tryz.func207.trans (congrArg some (by kernel_rfl))
 f298 := Tryz.func208.trans (congrArg some (by kernel_rfl))
 f299 := Tryz.func209.trans (congrArg some (by kernel_rfl))
 f300 := Tryz.func211.trans (congrArg some (by kernel_rfl))
 f301 := Tryz.func212.trans (congrArg some (by kernel_rfl))
 f328 := Tryz.func220.trans (congrArg some (by kernel_rfl))
 f329 := Tryz.func221.trans (congrArg some (by kernel_rfl))
 f330 := Tryz.func222.trans (congrArg some (by kernel_rfl))
 f331 := Tryz.func223.trans (congrArg some (by kernel_rfl))
 f332 := Tryz.func224.trans (congrArg some (by kernel_rfl))
 f343 := Tryz.func230.trans (congrArg some (by kernel_rfl))
 t0 := Tryz.underlying0
 a0 := Tryz.isAgg0
 z0 := Tryz.sizeOf0
 v0 := Tryz.zeroValue0
 t3 := Tryz.underlying3
 a3 := Tryz.isAgg3
 z3 := Tryz.sizeOf3
 v3 := Tryz.zeroValue3
 t4 := Tryz.underlying4
 a4 := Tryz.isAgg4
 z4 := Tryz.sizeOf4
 v4 := Tryz.zeroValue4
 t5 := Tryz.underlying5
 a5 := Tryz.isAgg5
 z5 := Tryz.sizeOf5
 v5 := Tryz.zeroValue5
 t9 := Tryz.underlying9
 a9 := Tryz.isAgg9
 z9 := Tryz.sizeOf9
 v9 := Tryz.zeroValue9
 t28 := Tryz.underlying28
 a28 := Tryz.isAgg28
 z28 := Tryz.sizeOf28
 v28 := Tryz.zeroValue28
 t46 := Tryz.underlying77
 a46 := Tryz.isAgg77
 z46 := Tryz.sizeOf77
 v46 := Tryz.zeroValue77
 t51 := Tryz.underlying148
 a51 := Tryz.isAgg148
 z51 := Tryz.sizeOf148
 v51 := Tryz.zeroValue148
 t53 := Tryz.underlying233
 a53 := Tryz.isAgg233
 z53 := Tryz.sizeOf233
 v53 := Tryz.zeroValue233
 t131 := Tryz.underlying229
 a131 := Tryz.isAgg229
 z131 := Tryz.sizeOf229
 v131 := Tryz.zeroValue229
 t182 := Tryz.underlying223
 a182 := Tryz.isAgg223
 z182 := Tryz.sizeOf223
 v182 := Tryz.zeroValue223
 t183 := Tryz.underlying224
 a183 := Tryz.isAgg224
 z183 := Tryz.sizeOf224
 v183 := Tryz.zeroValue224
 t218 := Tryz.underlying236
 a218 := Tryz.isAgg236
 z218 := Tryz.sizeOf236
 v218 := Tryz.zeroValue236
 t222 := Tryz.underlying240
 a222 := Tryz.isAgg240
 z222 := Tryz.sizeOf240
 v222 := Tryz.zeroValue240
 t228 := Tryz.underlying243
 a228 := Tryz.isAgg243
 z228 := Tryz.sizeOf243
 v228 := Tryz.zeroValue243
 t229 := Tryz.underlying244
 a229 := Tryz.isAgg244
 z229 := Tryz.sizeOf244
 v229 := Tryz.zeroValue244
theorem zdG (base : Nat) (e : TypeId) (v : Value) (ss : List Int) (w : World) (h : w.ownsRow base e 1 v ss.length (ss.map (Value.int .i64))) (hs : ss.length < 4611686018427387904) :
 Calls Tryz.prog 122 #[v] w fun x w' => x = .returned (.tuple #[]) ∧ w'.ownsRow base e 1 v ss.length ((ss.mergeSort fun x y => decide (x ≤ y)).map (Value.int .i64)) ∧ w.grownBy w' v.ownBlock := by
 rcases h.2 with ⟨rfl, h0⟩ | ⟨g, cap, cur, rfl, hbase, hb, h1, h2, h3, h4⟩
 ·have e0 : ss = [] := List.eq_nil_of_length_eq_zero h0
  subst e0
  refine (Any.sort_Ints_none zcp none 0 w).mono ?_
  rintro x w' ⟨rfl, rfl⟩
  exact ⟨rfl, by simpa using World.ownsRow_nil _ _ _ _, ⟨rfl, rfl, rfl, Nat.le_refl _, fun k hk hne => rfl⟩⟩
 ·refine (Any.sort_Ints zcp g 0 cap ss w (holds_of_blockI hb (by simpa using h4)) (Array.getElem?_eq_some_iff.1 hb).1 hs).mono ?_
  rintro x w' ⟨rfl, n, os, rfl⟩
  exact ⟨rfl, ownsRow_sortedI (by simp) hbase hb h1 h2 h3, grownBy_sortedI _⟩
end Go.Proofs.YtfjbinbpgdiafaaGreatDoor
