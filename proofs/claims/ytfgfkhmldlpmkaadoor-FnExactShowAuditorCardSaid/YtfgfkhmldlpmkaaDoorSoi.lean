/- sort.Ints of any row of the call's own, by what the kit's shelf proves of it once for all programs. -/
import Derived.Shelf.Sort.Plain
import Derived.Shelf.Slices.In.SortNone2
import Derived.Sort.OwnSortedInts
import Derived.Test.YtfgfkhmldlpmkaaDoorFFJ
namespace Go.Proofs.YtfgfkhmldlpmkaaDoor
open Go.RowKit Pl
set_option linter.unusedVariables false
set_option linter.unusedSimpArgs false

def soiRen : Go.Shelf.Ren := ⟨fun | 191 => 53 | 189 => 71 | 125 => 85 | 257 => 84 | 128 => 102 | 129 => 103 | 294 => 93 | 295 => 94 | 296 => 95 | 297 => 96 | 298 => 97 | 299 => 98 | 216 => 99 | 300 => 100 | 301 => 101 | 328 => 111 | 329 => 112 | 330 => 113 | 331 => 114 | 332 => 115 | 215 => 116 | 343 => 121 | n => n, fun | 28 => 42 | 0 => 0 | 3 => 3 | 46 => 131 | 51 => 176 | 53 => 178 | 4 => 4 | 183 => 168 | 182 => 167 | 131 => 173 | 5 => 5 | 9 => 9 | 218 => 189 | 222 => 193 | 228 => 200 | 229 => 201 | n => n, fun n => n⟩
theorem soiLays : Lays.n191 Tryd.prog soiRen where
  mixed := by kernel_rfl
  f125 := Tryd.func85.trans (congrArg some (by kernel_rfl))
  f128 := Tryd.func102.trans (congrArg some (by kernel_rfl))
  f129 := Tryd.func103.trans (congrArg some (by kernel_rfl))
  f189 := Tryd.func71.trans (congrArg some (by kernel_rfl))
  f191 := Tryd.func53.trans (congrArg some (by kernel_rfl))
  f215 := Tryd.func116.trans (congrArg some (by kernel_rfl))
  f216 := Tryd.func99.trans (congrArg some (by kernel_rfl))
  f257 := Tryd.func84.trans (congrArg some (by kernel_rfl))
  f294 := Tryd.func93.trans (congrArg some (by kernel_rfl))
  f295 := Tryd.func94.trans (congrArg some (by kernel_rfl))
  f296 := Tryd.func95.trans (congrArg some (by kernel_rfl))
  f297 := Tryd.func96.trans (congrArg some (by kernel_rfl))
  f298 := Tryd.func97.trans (congrArg some (by kernel_rfl))
  f299 := Tryd.func98.trans (congrArg some (by kernel_rfl))
  f300 := Tryd.func100.trans (congrArg some (by kernel_rfl))
  f301 := Tryd.func101.trans (congrArg some (by kernel_rfl))
  f328 := Tryd.func111.trans (congrArg some (by kernel_rfl))
  f329 := Tryd.func112.trans (congrArg some (by kernel_rfl))
  f330 := Tryd.func113.trans (congrArg some (by kernel_rfl))
  f331 := Tryd.func114.trans (congrArg some (by kernel_rfl))
  f332 := Tryd.func115.trans (congrArg some (by kernel_rfl))
  f343 := Tryd.func121.trans (congrArg some (by kernel_rfl))
  t0 := Tryd.underlying0
  a0 := Tryd.isAgg0
  z0 := Tryd.sizeOf0
  v0 := Tryd.zeroValue0
  t3 := Tryd.underlying3
  a3 := Tryd.isAgg3
  z3 := Tryd.sizeOf3
  v3 := Tryd.zeroValue3
  t4 := Tryd.underlying4
  a4 := Tryd.isAgg4
  z4 := Tryd.sizeOf4
  v4 := Tryd.zeroValue4
  t5 := Tryd.underlying5
  a5 := Tryd.isAgg5
  z5 := Tryd.sizeOf5
  v5 := Tryd.zeroValue5
  t9 := Tryd.underlying9
  a9 := Tryd.isAgg9
  z9 := Tryd.sizeOf9
  v9 := Tryd.zeroValue9
  t28 := Tryd.underlying42
  a28 := Tryd.isAgg42
  z28 := Tryd.sizeOf42
  v28 := Tryd.zeroValue42
  t46 := Tryd.underlying131
  a46 := Tryd.isAgg131
  z46 := Tryd.sizeOf131
  v46 := Tryd.zeroValue131
  t51 := Tryd.underlying176
  a51 := Tryd.isAgg176
  z51 := Tryd.sizeOf176
  v51 := Tryd.zeroValue176
  t53 := Tryd.underlying178
  a53 := Tryd.isAgg178
  z53 := Tryd.sizeOf178
  v53 := Tryd.zeroValue178
  t131 := Tryd.underlying173
  a131 := Tryd.isAgg173
  z131 := Tryd.sizeOf173
  v131 := Tryd.zeroValue173
  t182 := Tryd.underlying167
  a182 := Tryd.isAgg167
  z182 := Tryd.sizeOf167
  v182 := Tryd.zeroValue167
  t183 := Tryd.underlying168
  a183 := Tryd.isAgg168
  z183 := Tryd.sizeOf168
  v183 := Tryd.zeroValue168
  t218 := Tryd.underlying189
  a218 := Tryd.isAgg189
  z218 := Tryd.sizeOf189
  v218 := Tryd.zeroValue189
  t222 := Tryd.underlying193
  a222 := Tryd.isAgg193
  z222 := Tryd.sizeOf193
  v222 := Tryd.zeroValue193
  t228 := Tryd.underlying200
  a228 := Tryd.isAgg200
  z228 := Tryd.sizeOf200
  v228 := Tryd.zeroValue200
  t229 := Tryd.underlying201
  a229 := Tryd.isAgg201
  z229 := Tryd.sizeOf201
  v229 := Tryd.zeroValue201
/-- A row of the call's own, sorted in place. -/
theorem sort_own (base : Nat) (e : TypeId) (v : Value) (ss : List Int) (w : World) (h : w.ownsRow base e 1 v ss.length (ss.map (Value.int .i64))) (hs : ss.length < 4611686018427387904) :
    Calls Tryd.prog 53 #[v] w fun x w' => x = .returned (.tuple #[]) ∧ w'.ownsRow base e 1 v ss.length ((ss.mergeSort fun x y => decide (x ≤ y)).map (Value.int .i64)) ∧ w.grownBy w' v.ownBlock := by
  rcases h.2 with ⟨rfl, h0⟩ | ⟨g, cap, cur, rfl, hbase, hb, h1, h2, h3, h4⟩
  · have e0 : ss = [] := List.eq_nil_of_length_eq_zero h0
    subst e0
    refine (Any.sort_Ints_none soiLays none 0 w).mono ?_
    rintro x w' ⟨rfl, rfl⟩
    exact ⟨rfl, by simpa using World.ownsRow_nil _ _ _ _, ⟨rfl, rfl, rfl, Nat.le_refl _, fun k hk hne => rfl⟩⟩
  · refine (Any.sort_Ints soiLays g 0 cap ss w (holds_of_blockI hb (by simpa using h4)) (Array.getElem?_eq_some_iff.1 hb).1 hs).mono ?_
    rintro x w' ⟨rfl, n, os, rfl⟩
    exact ⟨rfl, ownsRow_sortedI (by simp) hbase hb h1 h2 h3, grownBy_sortedI _⟩
end Go.Proofs.YtfgfkhmldlpmkaaDoor
