/- Functions by content: letters of both sides. -/
import Derived.Test.YtfjbinbpgdiafaaGreatDoorFb
import Derived.Test.YtfjbinbpgdiafaaGreatDoorLts
import Derived.Test.YtfjbinbpgdiafaaGreatDoorFa
import Derived.Test.YtfjbinbpgdiafaaGreatDoorPlainTurn
import Derived.Test.YtfjbinbpgdiafaaGreatDoorVd
namespace Go.Proofs.YtfjbinbpgdiafaaGreatDoor
set_option linter.unusedVariables false
set_option linter.unusedSimpArgs false
set_option linter.unusedSectionVars false
open Go.RowKit Pl
attribute [local irreducible] z0r z0s z0z AnsP LeP
def ltL (k f t e y : Int) (r : Bs) : List T := [.int .i64 k, .int .i64 f, .int .i64 t, .int .i64 e, .int .i64 y, .str r]
theorem z0U (k f t e y : Int) (r : Bs) : CT Tryz.prog 155 [] [.agg (ltL k f t e y r)] (.bool (z0a k f t e y r)) [] :=
 z2V ⟨_, Tryz.func155, rfl, rfl⟩ rfl (fun X => z1B X _) fun w => by
  have h := z7Z k f t e y (bs r) w
  rwa [z0S] at h
end Go.Proofs.YtfjbinbpgdiafaaGreatDoor
