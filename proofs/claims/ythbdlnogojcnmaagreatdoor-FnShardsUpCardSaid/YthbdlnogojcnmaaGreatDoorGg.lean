/- Functions by content: rows of strings. Functions by content: proofs are read, by the program and by the reference. -/
import Derived.Test.YthbdlnogojcnmaaGreatDoorFb
namespace Go.Proofs.YthbdlnogojcnmaaGreatDoor
set_option linter.unusedVariables false
set_option linter.unusedSimpArgs false
set_option linter.unusedSectionVars false
open Go.RowKit Pl
attribute [local irreducible] z0p z0r z0y AnsP LeP
theorem z1i {k : Nat} (l : List Lf) : ownE (.row k (lvE l)) := by
 intro e he c hc
 simp only [lvE, List.mem_map] at he
 obtain ⟨x, _, rfl⟩ := he
 simp only [List.mem_cons, List.not_mem_nil, or_false] at hc
 rcases hc with rfl | rfl <;> trivial
theorem z1x {k : Nat} (l : List Bs) : ownE (.row k (strE l)) := by
 intro e he c hc
 simp only [strE, List.mem_map] at he
 obtain ⟨x, _, rfl⟩ := he
 simp only [List.mem_cons, List.not_mem_nil, or_false] at hc
 subst hc; trivial
end Go.Proofs.YthbdlnogojcnmaaGreatDoor
namespace Go.Proofs.YthbdlnogojcnmaaGreatDoor
set_option linter.unusedVariables false
set_option linter.unusedSimpArgs false
set_option linter.unusedSectionVars false
open Go.RowKit Pl
attribute [local irreducible] z0p z0r z0y AnsP LeP
def HsAt (t : Bs) (w : Nat) (R : List Bs × Nat × Bool) (n : Nat) (s : List Bs) (q : Nat) (b : Bool) : Prop := R = (s ++ (zdB t w n q b).1, (zdB t w n q b).2)
theorem HsAt.step {t : Bs} {w : Nat} {R : List Bs × Nat × Bool} {n : Nat} {s : List Bs} {q : Nat} {b : Bool} (h : HsAt t w R (n + 1) s q b) : HsAt t w R n (s ++ [(z31 t q b w).1]) (z31 t q b w).2.1 (z31 t q b w).2.2 := by
 unfold HsAt at h ⊢; rw [h, zdB]; simp
set_option maxRecDepth 100000 in
set_option maxHeartbeats 400000 in
theorem zbA (w : Int) : CT Tryz.prog 77 [] [.int .i64 w] (.bool (inB w 1 32)) [] := by
 refine z01 z0M 1 rfl Tryz.func77 rfl rfl rfl ?_
 repeat ((try conv => whnf); first | (refine ccA ([]) (c_in _ _ _) ?_) | (refine stpQ ?_))
 (refine z00 (by rfl) ?_ ?_ (by rfl)) <;> repeat' (first | (exact eqA) | (refine shE ?_) | (refine And.intro ?_ ?_))
end Go.Proofs.YthbdlnogojcnmaaGreatDoor
