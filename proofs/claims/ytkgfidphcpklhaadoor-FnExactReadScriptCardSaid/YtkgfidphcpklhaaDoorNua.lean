/- Functions by content: the numbers of a line, one by one. -/
import Derived.Test.YtkgfidphcpklhaaDoorEvo
import Derived.Test.YtkgfidphcpklhaaDoorVQ
import Derived.Test.YtkgfidphcpklhaaDoorAto
namespace Go.Proofs.YtkgfidphcpklhaaDoor
open Go.RowKit Pl
set_option linter.unusedVariables false
set_option linter.unusedSimpArgs false

section
attribute [local irreducible] CondB CallP LoopW AnsP LeP
set_option maxRecDepth 100000 in
set_option maxHeartbeats 2000000 in
theorem c_numA (p : List Bs) (i : Nat) (x : Bs) (g : p[i]? = some x) (bad : Bool) : CT Tryd.prog 15 [.box [.sl 1 (strE p), .bool bad]] [.ptr 1 0 0, .int .i64 (i : Int)] (.int .i64 (decV x : Int)) [.box [.sl 1 (strE p), .bool (bad || !isB x)]] := by
  have g2 : (strE p)[i]? = some [.str x] := by rw [strE, List.getElem?_map, g]; rfl
  have c1 := c_ReadDecimal x
  generalize isB x = b at c1 ⊢
  generalize (decV x : Int) = n at c1 ⊢
  generalize strE p = z at g2 ⊢
  cases bad <;> simp only [Bool.false_or, Bool.true_or] <;> refine ct_intro ttS_ok 2 rfl Tryd.func15 rfl rfl rfl ?_
  · repeat ((try conv => whnf); first | (refine i_at g2 ?_) | (refine ccA ([]) (c1) ?_) | (refine stpQ ?_))
    (refine ans_auto (by rfl) ?_ ?_ (by rfl)) <;> (repeat' (first | (exact eqA) | (refine And.intro ?_ ?_) | ((fail_if_success (with_reducible (show _ = _))); (show _ = _))))
  · repeat ((try conv => whnf); first | (refine i_at g2 ?_) | (refine ccA ([]) (c1) ?_) | (refine stpQ ?_))
    (refine ans_auto (by rfl) ?_ ?_ (by rfl)) <;> (repeat' (first | (exact eqA) | (refine And.intro ?_ ?_) | ((fail_if_success (with_reducible (show _ = _))); (show _ = _))))
set_option maxRecDepth 100000 in
set_option maxHeartbeats 2000000 in
theorem c_numR (p : List Bs) (i : Nat) (x : Bs) (g : p[i]? = some x) (bad : Bool) : CT Tryd.prog 15 [.box [.ref 2, .bool bad], .row 1 (strE p)] [.ptr 1 0 0, .int .i64 (i : Int)] (.int .i64 (decV x : Int)) [.box [.ref 2, .bool (bad || !isB x)], .row 1 (strE p)] := by
  have g2 : (strE p)[i]? = some [.str x] := by rw [strE, List.getElem?_map, g]; rfl
  have hlz : i < (strE p).length := (List.getElem?_eq_some_iff.1 g2).1
  have c1 := c_ReadDecimal x
  generalize isB x = b at c1 ⊢
  generalize (decV x : Int) = n at c1 ⊢
  generalize strE p = z at g2 hlz ⊢
  cases bad <;> simp only [Bool.false_or, Bool.true_or] <;> refine ct_intro ttS_ok 3 rfl Tryd.func15 rfl rfl rfl ?_
  · repeat ((try conv => whnf); first | (refine And.intro hlz ?_) | (refine Exists.intro _ (And.intro g2 ?_)) | (refine ccA ([]) (c1) ?_) | (refine stpQ ?_))
    (refine ans_auto (by rfl) ?_ ?_ (by rfl)) <;> (repeat' (first | (exact eqA) | (refine And.intro ?_ ?_) | ((fail_if_success (with_reducible (show _ = _))); (show _ = _))))
  · repeat ((try conv => whnf); first | (refine And.intro hlz ?_) | (refine Exists.intro _ (And.intro g2 ?_)) | (refine ccA ([]) (c1) ?_) | (refine stpQ ?_))
    (refine ans_auto (by rfl) ?_ ?_ (by rfl)) <;> (repeat' (first | (exact eqA) | (refine And.intro ?_ ?_) | ((fail_if_success (with_reducible (show _ = _))); (show _ = _))))
end
end Go.Proofs.YtkgfidphcpklhaaDoor
