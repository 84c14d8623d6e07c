/- Functions by content: the program's coordinator is made from its disk. -/
import Derived.Test.YthcfalipgnpelaaGreatDoorVd
import Derived.Test.YthcfalipgnpelaaGreatDoorCbep
import Derived.Test.YthcfalipgnpelaaGreatDoorCk
namespace Go.Proofs.YthcfalipgnpelaaGreatDoor
set_option linter.unusedVariables false
set_option linter.unusedSimpArgs false
set_option linter.unusedSectionVars false
open Go.RowKit Pl
attribute [local irreducible] z0o z0p z0z AnsP LeP
end Go.Proofs.YthcfalipgnpelaaGreatDoor
