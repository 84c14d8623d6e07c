/- Functions by content: signatures, seals and complete proofs compared with themselves. Functions by content: any lists drawn, what is put into them, and texts of lists. -/
import Derived.Test.YtgmbkbggnlponaaGreatDoorTt
import Derived.Test.YtgmbkbggnlponaaGreatDoorPs
import Derived.Test.YtgmbkbggnlponaaGreatDoorFc
import Derived.Test.YtgmbkbggnlponaaGreatDoorFb
import Derived.Test.YtgmbkbggnlponaaGreatDoorGg
namespace Go.Proofs.YtgmbkbggnlponaaGreatDoor
set_option linter.unusedVariables false
set_option linter.unusedSimpArgs false
set_option linter.unusedSectionVars false
open Go.RowKit Pl
attribute [local irreducible] z0t z0u z0y AnsP LeP
theorem eq_hd (h : Hd) : eqC (hdE h) (hdE h) = true := by simp [eqC, hdE]
theorem z9j (l : List Bs) (hl : l.length ≤ 1000000) : CT Tryz.prog 54 [] [.sl 1 (strE l), .sl 1 (strE l)] (.bool true) [] := by
 have := z6X l l (by omega) (by omega)
 rwa [decide_eq_true rfl] at this
end Go.Proofs.YtgmbkbggnlponaaGreatDoor
namespace Go.Proofs.YtgmbkbggnlponaaGreatDoor
set_option linter.unusedVariables false
set_option linter.unusedSimpArgs false
set_option linter.unusedSectionVars false
open Go.RowKit Pl
attribute [local irreducible] z0t z0u z0y AnsP LeP
inductive AR (c : Bs) : Nat → Nat → Int → Nat → Nat → Int → Prop
 | stop {k i h x i' h'} : i' ≤ c.length → 24 + x ≤ k → CT Tryz.prog 33 [curE c i h] [.ptr 1 0 0, .int .i64 2] (.int .i64 ((x : Nat) : Int)) [curE c i' h'] → AR c k i h k i' h'
 | step {k i h x i1 h1 m i' h'} : x < 2 → k < 24 + x → i1 ≤ c.length → CT Tryz.prog 33 [curE c i h] [.ptr 1 0 0, .int .i64 2] (.int .i64 ((x : Nat) : Int)) [curE c i1 h1] → AR c (k + 1) i1 h1 m i' h' → AR c k i h m i' h'
theorem zfB {l : List Lf} (h : Small9 l) (hl : l.length ≤ 25) : Sml l := by
 refine ⟨by omega, fun i => ?_⟩
 unfold lfAt
 rcases Nat.lt_or_ge i l.length with hi | hi
 ·have := h l[i] (List.getElem_mem hi)
  simp only [List.getD, List.getElem?_eq_getElem hi, Option.getD_some]
  omega
 ·simp [List.getD, List.getElem?_eq_none hi]
end Go.Proofs.YtgmbkbggnlponaaGreatDoor
