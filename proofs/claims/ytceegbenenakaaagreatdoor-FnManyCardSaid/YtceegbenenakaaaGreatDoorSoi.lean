/- sort.Ints of any row of the call's own, by what the kit's shelf proves of it once for all programs. -/
import Derived.Shelf.Sort.Plain
import Derived.Shelf.Slices.In.SortNone2
import Derived.Sort.OwnSortedInts
import Derived.Test.YtceegbenenakaaaGreatDoorFb
namespace Go.Proofs.YtceegbenenakaaaGreatDoor
set_option linter.unusedVariables false
set_option linter.unusedSimpArgs false
set_option linter.unusedSectionVars false
open Go.RowKit Pl
def soiRen : Go.Shelf.Ren := ⟨fun | 191 => 86 | 189 => 113 | 125 => 123 | 257 => 122 | 128 => 136 | 129 => 137 | 294 => 127 | 295 => 128 | 296 => 129 | 297 => 130 | 298 => 131 | 299 => 132 | 216 => 133 | 300 => 134 | 301 => 135 | 328 => 138 | 329 => 139 | 330 => 140 | 331 => 141 | 332 => 142 | 215 => 143 | 343 => 144 | n => n, fun | 28 => 28 | 0 => 0 | 3 => 3 | 46 => 109 | 51 => 130 | 53 => 153 | 4 => 4 | 183 => 144 | 182 => 143 | 131 => 149 | 5 => 5 | 9 => 9 | 218 => 154 | 222 => 158 | 228 => 160 | 229 => 161 | n => n, fun n => n⟩
theorem zb6 : Lays.n191 Tryz.prog soiRen where
 mixed := by kernel_rfl
 f125 := Tryz.func123.trans (congrArg some (by kernel_rfl))
 f128 := Tryz.func136.trans (congrArg some (by kernel_rfl))
 f129 := Tryz.func137.trans (congrArg some (by kernel_rfl))
 f189 := Tryz.func113.trans (congrArg some (by kernel_rfl))
 f191 := Tryz.func86.trans (congrArg some (by kernel_rfl))
 f215 := Tryz.func143.trans (congrArg some (by kernel_rfl))
 f216 := Tryz.func133.trans (congrArg some (by kernel_rfl))
 f257 := Tryz.func122.trans (congrArg some (by kernel_rfl))
 f294 := Tryz.func127.trans (congrArg some (by kernel_rfl))
 f295 := Tryz.func128.trans (congrArg some (by kernel_rfl))
 f296 := Tryz.func129.trans (congrArg some (by kernel_rfl))
 f297 := Tryz.func130.trans (congrArg some (by kernel_rfl))
 f298 := Tryz.func131.trans (congrArg some (by kernel_rfl))
 f299 := Tryz.func132.trans (congrArg some (by kernel_rfl))
 f300 := Tryz.func134.trans (congrArg some (by kernel_rfl))
 f301 := Tryz.func135.trans (congrArg some (by kernel_rfl))
 f328 := Tryz.func138.trans (congrArg some (by kernel_rfl))
 f329 := Tryz.func139.trans (congrArg some (by kernel_rfl))
 f330 := Tryz.func140.trans (congrArg some (by kernel_rfl))
 f331 := Tryz.func141.trans (congrArg some (by kernel_rfl))
 f332 := Tryz.func142.trans (congrArg some (by kernel_rfl))
 f343 := Tryz.func144.trans (congrArg some (by kernel_rfl))
 t0 := Tryz.underlying0
 a0 := Tryz.isAgg0
 z0 := Tryz.sizeOf0
 v0 := Tryz.zeroValue0
 t3 := Tryz.underlying3
 a3 := Tryz.isAgg3
 z3 := Tryz.sizeOf3
 v3 := Tryz.zeroValue3
 t4 := Tryz.underlying4
 a4 := Tryz.isAgg4
 z4 := Tryz.sizeOf4
 v4 := Tryz.zeroValue4
 t5 := Tryz.underlying5
 a5 := Tryz.isAgg5
 z5 := Tryz.sizeOf5
 v5 := Tryz.zeroValue5
 t9 := Tryz.underlying9
 a9 := Tryz.isAgg9
 z9 := Tryz.sizeOf9
 v9 := Tryz.zeroValue9
 t28 := Tryz.underlying28
 a28 := Tryz.isAgg28
 z28 := Tryz.sizeOf28
 v28 := Tryz.zeroValue28
 t46 := Tryz.underlying109
 a46 := Tryz.isAgg109
 z46 := Tryz.sizeOf109
 v46 := Tryz.zeroValue109
 t51 := Tryz.underlying130
 a51 := Tryz.isAgg130
 z51 := Tryz.sizeOf130
 v51 := Tryz.zeroValue130
 t53 := Tryz.underlying153
 a53 := Tryz.isAgg153
 z53 := Tryz.sizeOf153
 v53 := Tryz.zeroValue153
 t131 := Tryz.underlying149
 a131 := Tryz.isAgg149
 z131 := Tryz.sizeOf149
 v131 := Tryz.zeroValue149
 t182 := Tryz.underlying143
 a182 := Tryz.isAgg143
 z182 := Tryz.sizeOf143
 v182 := Tryz.zeroValue143
 t183 := Tryz.underlying144
 a183 := Tryz.isAgg144
 z183 := Tryz.sizeOf144
 v183 := Tryz.zeroValue144
 t218 := Tryz.underlying154
 a218 := Tryz.isAgg154
 z218 := Tryz.sizeOf154
 v218 := Tryz.zeroValue154
 t222 := Tryz.underlying158
 a222 := Tryz.isAgg158
 z222 := Tryz.sizeOf158
 v222 := Tryz.zeroValue158
 t228 := Tryz.underlying160
 a228 := Tryz.isAgg160
 z228 := Tryz.sizeOf160
 v228 := Tryz.zeroValue160
 t229 := Tryz.underlying161
 a229 := Tryz.isAgg161
 z229 := Tryz.sizeOf161
 v229 := Tryz.zeroValue161
theorem zcq (base : Nat) (e : TypeId) (v : Value) (ss : List Int) (w : World) (h : w.ownsRow base e 1 v ss.length (ss.map (Value.int .i64))) (hs : ss.length < 4611686018427387904) :
 Calls Tryz.prog 86 #[v] w fun x w' => x = .returned (.tuple #[]) ∧ w'.ownsRow base e 1 v ss.length ((ss.mergeSort fun x y => decide (x ≤ y)).map (Value.int .i64)) ∧ w.grownBy w' v.ownBlock := by
 rcases h.2 with ⟨rfl, h0⟩ | ⟨g, cap, cur, rfl, hbase, hb, h1, h2, h3, h4⟩
 ·have e0 : ss = [] := List.eq_nil_of_length_eq_zero h0
  subst e0
  refine (Any.sort_Ints_none zb6 none 0 w).mono ?_
  rintro x w' ⟨rfl, rfl⟩
  exact ⟨rfl, by simpa using World.ownsRow_nil _ _ _ _, ⟨rfl, rfl, rfl, Nat.le_refl _, fun k hk hne => rfl⟩⟩
 ·refine (Any.sort_Ints zb6 g 0 cap ss w (holds_of_blockI hb (by simpa using h4)) (Array.getElem?_eq_some_iff.1 hb).1 hs).mono ?_
  rintro x w' ⟨rfl, n, os, rfl⟩
  exact ⟨rfl, ownsRow_sortedI (by simp) hbase hb h1 h2 h3, grownBy_sortedI _⟩
end Go.Proofs.YtceegbenenakaaaGreatDoor
