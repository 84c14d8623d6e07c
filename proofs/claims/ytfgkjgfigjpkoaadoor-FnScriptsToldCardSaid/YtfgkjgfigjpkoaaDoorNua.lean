/- Functions by content: the numbers of a line, one by one. -/
import Derived.Test.YtfgkjgfigjpkoaaDoorEvo
import Derived.Test.YtfgkjgfigjpkoaaDoorVd
import Derived.Test.YtfgkjgfigjpkoaaDoorAto
namespace Go.Proofs.YtfgkjgfigjpkoaaDoor
set_option maxRecDepth 100000
set_option maxHeartbeats 2000000
set_option linter.unusedVariables false
set_option linter.unusedSimpArgs false
set_option linter.unusedSectionVars false
open Go.RowKit Pl
section
attribute [local irreducible] z0t z0u z0C AnsP LeP
theorem z0G (p : List Bs) (i : Nat) (x : Bs) (g : p[i]? = some x) (bad : Bool) : CT Tryd.prog 11 [.box [.sl 1 (strE p), .bool bad]] [.ptr 1 0 0, .int .i64 (i : Int)] (.int .i64 (decV x : Int)) [.box [.sl 1 (strE p), .bool (bad || !isB x)]] := by
 have g2 : (strE p)[i]? = some [.str x] := by rw [strE, List.getElem?_map, g]; rfl
 have c1 := z2p x
 generalize isB x = b at c1 ⊢
 generalize (decV x : Int) = n at c1 ⊢
 generalize strE p = z at g2 ⊢
 cases bad <;> simp only [Bool.false_or, Bool.true_or] <;> refine z0d z0f 2 rfl Tryd.func11 rfl rfl rfl ?_
 ·repeat ((try conv => whnf); first | (refine i_at g2 ?_) | (refine ccA ([]) (c1) ?_) | (refine stpQ ?_))
  (refine z09 (by rfl) ?_ ?_ (by rfl)) <;> (repeat' (first | (exact eqA) | (refine And.intro ?_ ?_) | ((fail_if_success (with_reducible (show _ = _))); (show _ = _))))
 ·repeat ((try conv => whnf); first | (refine i_at g2 ?_) | (refine ccA ([]) (c1) ?_) | (refine stpQ ?_))
  (refine z09 (by rfl) ?_ ?_ (by rfl)) <;> (repeat' (first | (exact eqA) | (refine And.intro ?_ ?_) | ((fail_if_success (with_reducible (show _ = _))); (show _ = _))))
theorem zaH (p : List Bs) (i : Nat) (x : Bs) (g : p[i]? = some x) (bad : Bool) : CT Tryd.prog 11 [.box [.ref 2, .bool bad], .row 1 (strE p)] [.ptr 1 0 0, .int .i64 (i : Int)] (.int .i64 (decV x : Int)) [.box [.ref 2, .bool (bad || !isB x)], .row 1 (strE p)] := by
 have g2 : (strE p)[i]? = some [.str x] := by rw [strE, List.getElem?_map, g]; rfl
 have hlz : i < (strE p).length := (List.getElem?_eq_some_iff.1 g2).1
 have c1 := z2p x
 generalize isB x = b at c1 ⊢
 generalize (decV x : Int) = n at c1 ⊢
 generalize strE p = z at g2 hlz ⊢
 cases bad <;> simp only [Bool.false_or, Bool.true_or] <;> refine z0d z0f 3 rfl Tryd.func11 rfl rfl rfl ?_
 ·repeat ((try conv => whnf); first | (refine And.intro hlz ?_) | (refine Exists.intro _ (And.intro g2 ?_)) | (refine ccA ([]) (c1) ?_) | (refine stpQ ?_))
  (refine z09 (by rfl) ?_ ?_ (by rfl)) <;> (repeat' (first | (exact eqA) | (refine And.intro ?_ ?_) | ((fail_if_success (with_reducible (show _ = _))); (show _ = _))))
 ·repeat ((try conv => whnf); first | (refine And.intro hlz ?_) | (refine Exists.intro _ (And.intro g2 ?_)) | (refine ccA ([]) (c1) ?_) | (refine stpQ ?_))
  (refine z09 (by rfl) ?_ ?_ (by rfl)) <;> (repeat' (first | (exact eqA) | (refine And.intro ?_ ?_) | ((fail_if_success (with_reducible (show _ = _))); (show _ = _))))
end
end Go.Proofs.YtfgkjgfigjpkoaaDoor
