/- Functions by content: letters of both sides. Functions by content: letters drawn; a byte turned. -/
import Derived.Test.YtgmbkbggnlponaaGreatDoorFb
import Derived.Test.YtgmbkbggnlponaaGreatDoorLts
import Derived.Test.YtgmbkbggnlponaaGreatDoorFa
import Derived.Test.YtgmbkbggnlponaaGreatDoorVd
import Derived.Test.YtgmbkbggnlponaaGreatDoorFc
import Derived.Test.YtgmbkbggnlponaaGreatDoorHa
namespace Go.Proofs.YtgmbkbggnlponaaGreatDoor
set_option linter.unusedVariables false
set_option linter.unusedSimpArgs false
set_option linter.unusedSectionVars false
open Go.RowKit Pl
attribute [local irreducible] z0t z0u z0y AnsP LeP
end Go.Proofs.YtgmbkbggnlponaaGreatDoor
namespace Go.Proofs.YtgmbkbggnlponaaGreatDoor
set_option maxRecDepth 100000
set_option maxHeartbeats 1000000
set_option linter.unusedVariables false
set_option linter.unusedSimpArgs false
set_option linter.unusedSectionVars false
open Go.RowKit Pl
attribute [local irreducible] z0t z0u z0y AnsP LeP
theorem zbK (t : Bs) (w : Nat) (ht : (t.length : Int) ≤ 100000000) (hw : 1 ≤ w ∧ w ≤ 32) : CT Tryz.prog 84 [] [.str t, .int .i64 (w : Int)] (.str ((z2d t).take w)) [] := by
 have hin : (!inB (w : Int) 1 32) = false := by rw [z0r.2 (by omega)]; rfl
 have hl := z21 t
 have cd := z8W t ht
 generalize z2d t = d at hl cd ⊢
 refine z01 z0m 1 rfl Tryz.func84 rfl rfl rfl ?_
 repeat ((try conv => whnf); first | (refine ccA ([]) (z10 _ _ _) ?_) | (refine ccA ([]) (cd) ?_) | (refine And.intro (by kernel_rfl) ?_) | (refine stpQ ?_))
 (refine z00 (by rfl) ?_ ?_ (by rfl)) <;> (repeat' (first | (exact eqA) | (refine shE ?_) | (refine And.intro ?_ ?_)))
theorem zax (c : Bs) (i : Nat) (h : Int) (hc : (c.length : Int) ≤ 1048576) (hi : i ≤ c.length) : ∃ (s : Bs) (i' : Nat) (h' : Int), s.length = 16 ∧ i' ≤ c.length ∧ CT Tryz.prog 113 [curE c i h] [.ptr 1 0 0] (.str s) [curE c i' h'] := by
 obtain ⟨u, i1, h1, hu, hi1, k1⟩ := zcK c i h 2 hc hi (by omega)
 have k2 := zbK u 16 (by omega) (by omega)
 have hl := z21 u
 generalize z2d u = d at hl k2
 refine ⟨d.take 16, i1, h1, by rw [List.length_take, hl]; rfl, hi1, z01 z0m 2 rfl Tryz.func113 rfl rfl rfl ?_⟩
 repeat ((try conv => whnf); first | (refine ccB ([1]) (k1) ?_) | (refine ccA ([]) (k2) ?_) | (refine And.intro (by kernel_rfl) ?_) | (refine stpQ ?_))
 (refine z00 (by rfl) ?_ ?_ (by rfl)) <;> (repeat' (first | (exact eqA) | (refine shE ?_) | (refine And.intro ?_ ?_)))
end Go.Proofs.YtgmbkbggnlponaaGreatDoor
