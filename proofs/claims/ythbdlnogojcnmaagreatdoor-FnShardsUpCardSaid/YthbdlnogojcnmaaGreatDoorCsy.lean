/- Functions by content: the reference reads heads, signatures and seals of any content; chains. Functions by content: hashes of parts of any length; the root of a pool of any content. -/
import Derived.Test.YthbdlnogojcnmaaGreatDoorCi
import Derived.Test.YthbdlnogojcnmaaGreatDoorSiR
namespace Go.Proofs.YthbdlnogojcnmaaGreatDoor
set_option linter.unusedVariables false
set_option linter.unusedSimpArgs false
set_option linter.unusedSectionVars false
open Go.RowKit Pl
attribute [local irreducible] z0p z0r z0y AnsP LeP
end Go.Proofs.YthbdlnogojcnmaaGreatDoor
namespace Go.Proofs.YthbdlnogojcnmaaGreatDoor
set_option linter.unusedVariables false
set_option linter.unusedSimpArgs false
set_option linter.unusedSectionVars false
open Go.RowKit Pl
attribute [local irreducible] z0p z0r z0y AnsP LeP
instance partsDec (ps : List Bs) : Decidable (z1P ps) := by unfold z1P; exact inferInstance
end Go.Proofs.YthbdlnogojcnmaaGreatDoor
