/- Functions by content: the program's root of a right proof of many. -/
import Derived.Test.YtfjbinbpgdiafaaGreatDoorMrr2
import Derived.Test.YtfjbinbpgdiafaaGreatDoorPmx
namespace Go.Proofs.YtfjbinbpgdiafaaGreatDoor
set_option linter.unusedVariables false
set_option linter.unusedSimpArgs false
set_option linter.unusedSectionVars false
open Go.RowKit Pl
section
attribute [local irreducible] z0t z0u z0A AnsP LeP W CvE
set_option maxRecDepth 100000 in
set_option maxHeartbeats 4000000 in
theorem z7u (l : List Lf) (w : Nat) (h : leavesOk l = true) (hw : 1 ≤ w ∧ w ≤ 32) : CT Tryz.prog 63 [] [.sl 2 (lvE l), .int .i64 (w : Int)] (.str (cutB (z0B l) w)) [] := by
 have hs := z5A h
 have c0 := z2m l (by have := hs.1; omega) hs.fit
 rw [h] at c0
 have c1 := z4m l h
 have cT : CT Tryz.prog 124 [] [.sl 2 (lvE l)] (.tup [.str (z0B l), .bool true]) [] := by
  generalize z0B l = B at *
  refine z0b z5r 1 rfl Tryz.func124 rfl rfl rfl ?_
  conv => arg 6; whnf
  repeat ((try conv => whnf); first | (with_reducible first | refine z0a (fun Qs hN hE hR => ?_) | refine z08 ?_ | refine z00 (fun Qb kN kE kX kR => ?_) | refine z04 ?_ | refine z05 ?_ | refine z09 ?_ | refine z06 ?_ | refine z07 ?_ | (show W _ _ _ (.cond _ _ _) _ _; refine z03 rfl ?_) | (refine hN _ ?_; try clear hN hE hR Qs; (try (conv => arg 6; dsimp only [ovl, List.set, List.map, ren0]))) | ((first | refine hE _ _ ?_ | refine hR _ ?_); try clear hN hE hR Qs) | ((first | refine kN _ ?_ | refine kE _ ?_ | refine kX _ _ rfl ?_ | refine kR _ ?_); try clear kN kE kX kR Qb)) | (refine ccA ([]) (c0) ?_) | (refine ccA ([]) (c1) ?_) | (refine And.intro (by kernel_rfl) ?_) | (refine stpQ ?_))
  (refine z02 (by rfl) ?_ ?_ (by rfl)) <;> (repeat' (first | (exact eqA) | (refine And.intro ?_ ?_) | ((fail_if_success (with_reducible (show _ = _))); (show _ = _))))
 have hb := z3q h
 have hcl : (cutB (z0B l) w).length ≤ 32 := by have := z1E (z0B l); simp [cutB]; omega
 have cC := zcK (z0B l) w (by omega) hw
 clear hcl hb c0 c1 hs h
 generalize cutB (z0B l) w = C at *
 generalize z0B l = B at *
 refine z0b z5r 1 rfl Tryz.func63 rfl rfl rfl ?_
 conv => arg 6; whnf
 repeat ((try conv => whnf); first | (with_reducible first | refine z0a (fun Qs hN hE hR => ?_) | refine z08 ?_ | refine z00 (fun Qb kN kE kX kR => ?_) | refine z04 ?_ | refine z05 ?_ | refine z09 ?_ | refine z06 ?_ | refine z07 ?_ | (show W _ _ _ (.cond _ _ _) _ _; refine z03 rfl ?_) | (refine hN _ ?_; try clear hN hE hR Qs; (try (conv => arg 6; dsimp only [ovl, List.set, List.map, ren0]))) | ((first | refine hE _ _ ?_ | refine hR _ ?_); try clear hN hE hR Qs) | ((first | refine kN _ ?_ | refine kE _ ?_ | refine kX _ _ rfl ?_ | refine kR _ ?_); try clear kN kE kX kR Qb)) | (refine ccA ([]) (cT) ?_) | (refine ccA ([]) (cC) ?_) | (refine And.intro (by kernel_rfl) ?_) | (refine stpQ ?_))
 (refine z02 (by rfl) ?_ ?_ (by rfl)) <;> (repeat' (first | (exact eqA) | (refine And.intro ?_ ?_) | ((fail_if_success (with_reducible (show _ = _))); (show _ = _))))
theorem ze2 (a b : Bs) (w : Nat) (ha : a.length ≤ 32) (hb : b.length ≤ 32) (hw : 1 ≤ w ∧ w ≤ 32) : CT Tryz.prog 64 [] [.int .i64 3, .int .i64 (w : Int), .sl 1 [[.str a], [.str b]]] (.str (z1t 3 [a, b] w)) [] :=
 z4F 3 [a, b] w (by omega) (zbf ha hb) hw
end
end Go.Proofs.YtfjbinbpgdiafaaGreatDoor
