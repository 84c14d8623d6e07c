/- Functions by content: the reference reads lists of entries (taken out of XAn by hand, for seats without the drawn lists). -/
import Derived.Test.YtfjbinbpgdiafaaGreatDoorFb
import Derived.Test.YtfjbinbpgdiafaaGreatDoorGg
namespace Go.Proofs.YtfjbinbpgdiafaaGreatDoor
set_option linter.unusedVariables false
set_option linter.unusedSimpArgs false
set_option linter.unusedSectionVars false
open Go.RowKit Pl
attribute [local irreducible] z0t z0u z0A AnsP LeP
set_option maxRecDepth 100000 in
set_option maxHeartbeats 2000000 in
theorem z60 (t : Bs) (ht : (t.length : Int) ≤ 1000000000) : CT Tryz.prog 93 [] [.str t] (.tup [.ref 1, .bool (z0V t).isSome]) [.row 2 (lvE ((z0V t).getD []))] := by
 have cA := zcH t 0 false ht (by omega)
 have hsml := z99 (t := t) (p := 0) (b := false) (by omega)
 rw [z4h]
 unfold z73
 rcases hA : z2y t 0 false with ⟨l, p1, b1⟩
 rw [hA] at cA hsml
 simp only at cA hsml ⊢
 have cT := z7i l hsml hsml.fit
 refine z0b z0q 1 rfl Tryz.func93 rfl rfl rfl ?_
 cases b1
 ·cases ho : leavesOk l
  ·rw [ho] at cT
   rw [if_neg (by simp)]
   repeat ((try conv => whnf); first | (refine ccB ([_]) (cA) ?_) | (refine ccA ([]) (cT) ?_) | (refine stpQ ?_))
   (refine z02 (by rfl) ?_ ?_ (by rfl)) <;> (repeat' (first | (exact eqA) | (refine shE ?_) | (refine And.intro ?_ ?_))) <;> first | rfl | decide
  ·rw [ho] at cT
   by_cases htx : z0l l = t
   ·rw [if_pos ⟨rfl, rfl, htx⟩]
    repeat ((try conv => whnf); first | (refine ccB ([_]) (cA) ?_) | (refine ccA ([]) (cT) ?_) | (refine z3k htx ?_) | (refine stpQ ?_))
    (refine z02 (by rfl) ?_ ?_ (by rfl)) <;> (repeat' (first | (exact eqA) | (refine shE ?_) | (refine And.intro ?_ ?_))) <;> first | rfl | decide
   ·rw [if_neg (fun h => htx h.2.2)]
    repeat ((try conv => whnf); first | (refine ccB ([_]) (cA) ?_) | (refine ccA ([]) (cT) ?_) | (refine z3j htx ?_) | (refine stpQ ?_))
    (refine z02 (by rfl) ?_ ?_ (by rfl)) <;> (repeat' (first | (exact eqA) | (refine shE ?_) | (refine And.intro ?_ ?_))) <;> first | rfl | decide
 ·rw [if_neg (by simp)]
  repeat ((try conv => whnf); first | (refine ccB ([_]) (cA) ?_) | (refine ccA ([]) (cT) ?_) | (refine stpQ ?_))
  (refine z02 (by rfl) ?_ ?_ (by rfl)) <;> (repeat' (first | (exact eqA) | (refine shE ?_) | (refine And.intro ?_ ?_))) <;> first | rfl | decide
end Go.Proofs.YtfjbinbpgdiafaaGreatDoor
