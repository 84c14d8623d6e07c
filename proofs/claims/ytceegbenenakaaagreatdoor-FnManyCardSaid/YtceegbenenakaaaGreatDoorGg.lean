/- Functions by content: rows of strings. Functions by content: proofs are read, by the program and by the reference. -/
import Derived.Test.YtceegbenenakaaaGreatDoorFb
namespace Go.Proofs.YtceegbenenakaaaGreatDoor
set_option linter.unusedVariables false
set_option linter.unusedSimpArgs false
set_option linter.unusedSectionVars false
open Go.RowKit Pl
attribute [local irreducible] z0s z0x z0C AnsP LeP
theorem z9j {k : Nat} (l : List Bs) : ownE (.row k (strE l)) := by
 intro e he c hc
 simp only [strE, List.mem_map] at he
 obtain ⟨x, _, rfl⟩ := he
 simp only [List.mem_cons, List.not_mem_nil, or_false] at hc
 subst hc; trivial
end Go.Proofs.YtceegbenenakaaaGreatDoor
namespace Go.Proofs.YtceegbenenakaaaGreatDoor
set_option linter.unusedVariables false
set_option linter.unusedSimpArgs false
set_option linter.unusedSectionVars false
open Go.RowKit Pl
attribute [local irreducible] z0s z0x z0C AnsP LeP
def HsAt (t : Bs) (w : Nat) (R : List Bs × Nat × Bool) (n : Nat) (s : List Bs) (q : Nat) (b : Bool) : Prop := R = (s ++ (zaW t w n q b).1, (zaW t w n q b).2)
theorem HsAt.step {t : Bs} {w : Nat} {R : List Bs × Nat × Bool} {n : Nat} {s : List Bs} {q : Nat} {b : Bool} (h : HsAt t w R (n + 1) s q b) : HsAt t w R n (s ++ [(z0y t q b w).1]) (z0y t q b w).2.1 (z0y t q b w).2.2 := by
 unfold HsAt at h ⊢; rw [h, zaW]; simp
set_option maxRecDepth 100000 in
set_option maxHeartbeats 400000 in
theorem z3j (w : Int) : CT Tryz.prog 32 [] [.int .i64 w] (.bool (inB w 1 32)) [] := by
 refine z08 z0v 1 rfl Tryz.func32 rfl rfl rfl ?_
 repeat ((try conv => whnf); first | (refine ccA ([]) (c_in _ _ _) ?_) | (refine stpQ ?_))
 (refine z01 (by rfl) ?_ ?_ (by rfl)) <;> repeat' (first | (exact eqA) | (refine shE ?_) | (refine And.intro ?_ ?_))
end Go.Proofs.YtceegbenenakaaaGreatDoor
