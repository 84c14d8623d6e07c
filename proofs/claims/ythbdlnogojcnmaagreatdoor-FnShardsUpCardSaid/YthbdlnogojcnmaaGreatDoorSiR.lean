/- Functions by content: the reference's one-time keys, pools, and signatures. Functions by content: the reference signs; heads, seals and stamps. -/
import Derived.Test.YthbdlnogojcnmaaGreatDoorPs
namespace Go.Proofs.YthbdlnogojcnmaaGreatDoor
set_option linter.unusedVariables false
set_option linter.unusedSimpArgs false
set_option linter.unusedSectionVars false
open Go.RowKit Pl
attribute [local irreducible] z0p z0r z0y AnsP LeP
end Go.Proofs.YthbdlnogojcnmaaGreatDoor
namespace Go.Proofs.YthbdlnogojcnmaaGreatDoor
set_option linter.unusedVariables false
set_option linter.unusedSimpArgs false
set_option linter.unusedSectionVars false
open Go.RowKit Pl
attribute [local irreducible] z0p z0r z0y AnsP LeP
end Go.Proofs.YthbdlnogojcnmaaGreatDoor
