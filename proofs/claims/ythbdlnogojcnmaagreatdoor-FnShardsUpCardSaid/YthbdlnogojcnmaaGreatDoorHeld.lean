/- What a region holds while calls make memory: a box of some cells. -/
import Derived.Test.YthbdlnogojcnmaaGreatDoorWa
namespace Go.Proofs.YthbdlnogojcnmaaGreatDoor
set_option linter.unusedVariables false
set_option linter.unusedSimpArgs false
set_option linter.unusedSectionVars false
open Go.RowKit
end Go.Proofs.YthbdlnogojcnmaaGreatDoor
