/- Functions by content: the program reads heads, signatures and seals of any content; chains; keys; a coordinator applies its records. Functions by content: the program's chains of heads. -/
import Derived.Test.YthbdlnogojcnmaaGreatDoorSvw
import Derived.Test.YthbdlnogojcnmaaGreatDoorSp
import Derived.Test.YthbdlnogojcnmaaGreatDoorPco
namespace Go.Proofs.YthbdlnogojcnmaaGreatDoor
set_option linter.unusedVariables false
set_option linter.unusedSimpArgs false
set_option linter.unusedSectionVars false
open Go.RowKit Pl
attribute [local irreducible] z0p z0r z0y AnsP LeP
end Go.Proofs.YthbdlnogojcnmaaGreatDoor
namespace Go.Proofs.YthbdlnogojcnmaaGreatDoor
set_option linter.unusedVariables false
set_option linter.unusedSimpArgs false
set_option linter.unusedSectionVars false
open Go.RowKit Pl
attribute [local irreducible] z0p z0r z0y AnsP LeP
end Go.Proofs.YthbdlnogojcnmaaGreatDoor
