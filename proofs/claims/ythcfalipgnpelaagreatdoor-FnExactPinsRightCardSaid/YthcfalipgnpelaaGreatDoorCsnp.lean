/- Functions by content: the reference's coordinator is made from its disk. -/
import Derived.Test.YthcfalipgnpelaaGreatDoorCsp
import Derived.Test.YthcfalipgnpelaaGreatDoorCbnp
namespace Go.Proofs.YthcfalipgnpelaaGreatDoor
set_option linter.unusedVariables false
set_option linter.unusedSimpArgs false
set_option linter.unusedSectionVars false
open Go.RowKit Pl
attribute [local irreducible] z0o z0p z0z AnsP LeP
set_option maxRecDepth 100000 in
set_option maxHeartbeats 2000000 in
theorem zkg (seed:Bs) (hs:seed.length ≤ 100):CT Tryz.prog 98 [] [.str seed] (.sl 1 (strE (z2B seed 16))) []:=by
 refine z01 z0q 1 rfl Tryz.func98 rfl rfl rfl ?_
 repeat ((try conv=>whnf); first | (refine stpQ ?_))
 refine z07 0 ⟨[(3,.ref 1)],[(1,some (.row 1 (strE (z2B seed 16))))],2⟩ Nat (fun b=>⟨[(0,.str seed),(3,.ref 1),(4,.int .i64 (b:Int))],[(1,some (.row 1 (strE (z2B seed b))))],2⟩) (fun b=>b ≤ 16) (fun b=>16 - b) 0 (by omega) ?_ ?_ ?_
 ·(refine z02 (by rfl) ?_ ?_) <;> (repeat' (first | (exact eqA) | (refine shE ?_) | (refine And.intro ?_ ?_))) <;> first | rfl | decide
 ·intro b hb
  by_cases hlt:b < 16
  ·have hb8:(b:Int) < 16:=by omega
   have cs:=zhY seed b hs hlt
   have hnx:=z96 seed b
   have hll:=z3E seed b
   generalize z2B seed b = o at hnx hll ⊢
   generalize pubB seed b = k at cs hnx
   have hol:=z05 o
   repeat ((try conv=>whnf); first | (refine ccA ([]) (cs) ?_) | (refine And.intro (by simp [z05]; omega) ?_) | (refine stpQ ?_))
   refine ⟨b + 1,by omega,by omega,?_⟩
   rw [hnx]
   (refine z02 (by rfl) ?_ ?_) <;> (repeat' (first | (exact eqA) | (refine shE ?_) | (refine And.intro ?_ ?_)))
   rw [z1k]; rfl
  ·obtain rfl:b = 16:=by omega
   repeat ((try conv=>whnf); first | (refine stpQ ?_))
   (refine z02 (by rfl) ?_ ?_) <;> (repeat' (first | (exact eqA) | (refine shE ?_) | (refine And.intro ?_ ?_)))
 ·repeat ((try conv=>whnf); first | (refine stpQ ?_))
  (refine z00 (by rfl) ?_ ?_ (by rfl)) <;> (repeat' (first | (exact eqA) | (refine shE ?_) | (refine And.intro ?_ ?_)))
end Go.Proofs.YthcfalipgnpelaaGreatDoor
