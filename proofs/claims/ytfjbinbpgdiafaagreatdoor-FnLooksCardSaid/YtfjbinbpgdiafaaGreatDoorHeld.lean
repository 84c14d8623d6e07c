/- What a region holds while calls make memory: a box of some cells. -/
import Derived.Test.YtfjbinbpgdiafaaGreatDoorWa
namespace Go.Proofs.YtfjbinbpgdiafaaGreatDoor
set_option linter.unusedVariables false
set_option linter.unusedSimpArgs false
set_option linter.unusedSectionVars false
open Go.RowKit
end Go.Proofs.YtfjbinbpgdiafaaGreatDoor
