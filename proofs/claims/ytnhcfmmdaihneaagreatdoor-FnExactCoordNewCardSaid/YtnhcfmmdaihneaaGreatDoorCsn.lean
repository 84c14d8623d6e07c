/- Functions by content: the reference's coordinator is made from its disk. -/
import Derived.Test.YtnhcfmmdaihneaaGreatDoorCs
import Derived.Test.YtnhcfmmdaihneaaGreatDoorCb
namespace Go.Proofs.YtnhcfmmdaihneaaGreatDoor
set_option maxRecDepth 100000
set_option maxHeartbeats 8000000
set_option linter.unusedVariables false
set_option linter.unusedSimpArgs false
set_option linter.unusedSectionVars false
open Go.RowKit Pl
attribute [local irreducible] z0w z0x z0A AnsP LeP
theorem z7F (k : Nat) (hk : k ≤ 2) : CT Tryz.prog 85 [] [.int .i64 (k : Int)] (.int .i64 ((2 ^ k : Nat) : Int)) [] := by
 have c1 := z9u (x := (k : Int)) (lo := 0) (hi := 2) (by omega)
 obtain ⟨e1, e2⟩ := pow2 hk
 have e1u : IntKind.u64.wrap ((k : Nat) : Int) = ((k : Nat) : Int) := by
  show ((k : Nat) : Int) % 18446744073709551616 = _
  omega
 generalize 2 ^ k = pk at e1 ⊢
 refine z01 z03 1 rfl Tryz.func85 rfl rfl rfl ?_
 repeat ((try conv => whnf); first | (refine ccA ([]) (c1) ?_) | (refine And.intro (show _ ≤ (64 : Int) from by omega) ?_) | (refine Exists.intro _ (And.intro e1.symm ?_)) | (refine Exists.intro _ (And.intro e1u.symm ?_)) | (refine stpQ ?_))
 (refine z00 (by rfl) ?_ ?_ (by rfl)) <;> (repeat' (first | (exact eqA) | (refine shE ?_) | (refine And.intro ?_ ?_)))
theorem z9w (seed : Bs) (hs : seed.length ≤ 100) : CT Tryz.prog 56 [] [.str seed] (.sl 1 (strE (z1c seed 16))) [] := by
 refine z01 z0L 1 rfl Tryz.func56 rfl rfl rfl ?_
 repeat ((try conv => whnf); first | (refine stpQ ?_))
 refine z0n 0 ⟨[(3, .ref 1)], [(1, some (.row 1 (strE (z1c seed 16))))], 2⟩ Nat (fun b => ⟨[(0, .str seed), (3, .ref 1), (4, .int .i64 (b : Int))], [(1, some (.row 1 (strE (z1c seed b))))], 2⟩) (fun b => b ≤ 16) (fun b => 16 - b) 0 (by omega) ?_ ?_ ?_
 ·(refine z02 (by rfl) ?_ ?_) <;> (repeat' (first | (exact eqA) | (refine shE ?_) | (refine And.intro ?_ ?_))) <;> first | rfl | decide
 ·intro b hb
  by_cases hlt : b < 16
  ·have hb8 : (b : Int) < 16 := by omega
   have cs := zhC seed b hs hlt
   have hnx := z8t seed b
   have hll := z1D seed b
   generalize z1c seed b = o at hnx hll ⊢
   generalize pubB seed b = k at cs hnx
   have hol := z0m o
   repeat ((try conv => whnf); first | (refine ccA ([]) (cs) ?_) | (refine And.intro (by simp [z0m]; omega) ?_) | (refine stpQ ?_))
   refine ⟨b + 1, by omega, by omega, ?_⟩
   rw [hnx]
   (refine z02 (by rfl) ?_ ?_) <;> (repeat' (first | (exact eqA) | (refine shE ?_) | (refine And.intro ?_ ?_)))
   rw [z6u]; rfl
  ·obtain rfl : b = 16 := by omega
   repeat ((try conv => whnf); first | (refine stpQ ?_))
   (refine z02 (by rfl) ?_ ?_) <;> (repeat' (first | (exact eqA) | (refine shE ?_) | (refine And.intro ?_ ?_)))
 ·repeat ((try conv => whnf); first | (refine stpQ ?_))
  (refine z00 (by rfl) ?_ ?_ (by rfl)) <;> (repeat' (first | (exact eqA) | (refine shE ?_) | (refine And.intro ?_ ?_)))
end Go.Proofs.YtnhcfmmdaihneaaGreatDoor
