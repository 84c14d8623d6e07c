/- Functions by content: letters of both sides. -/
import Derived.Test.YthbdlnogojcnmaaGreatDoorFb
import Derived.Test.YthbdlnogojcnmaaGreatDoorLts
import Derived.Test.YthbdlnogojcnmaaGreatDoorFa
import Derived.Test.YthbdlnogojcnmaaGreatDoorPlainTurn
import Derived.Test.YthbdlnogojcnmaaGreatDoorVd
namespace Go.Proofs.YthbdlnogojcnmaaGreatDoor
set_option linter.unusedVariables false
set_option linter.unusedSimpArgs false
set_option linter.unusedSectionVars false
open Go.RowKit Pl
attribute [local irreducible] z0p z0r z0y AnsP LeP
def ltL (k f t e y : Int) (r : Bs) : List T := [.int .i64 k, .int .i64 f, .int .i64 t, .int .i64 e, .int .i64 y, .str r]
theorem z2H (k f t e y : Int) (r : Bs) : CT Tryz.prog 64 [] [.agg (ltL k f t e y r)] (.bool (z02 k f t e y r)) [] :=
 z2D ⟨_, Tryz.func64, rfl, rfl⟩ rfl (fun X => z1t X _) fun w => by
  have h := z96 k f t e y (bs r) w
  rwa [z0O] at h
theorem z0T (k f t e y : Int) (r : Bs) : CT Tryz.prog 124 [] [.agg (ltL k f t e y r)] (.bool (z02 k f t e y r)) [] :=
 z2D ⟨_, Tryz.func124, rfl, rfl⟩ rfl (fun X => z1t X _) fun w => by
  have h := z81 k f t e y (bs r) w
  rwa [z0O] at h
end Go.Proofs.YthbdlnogojcnmaaGreatDoor
