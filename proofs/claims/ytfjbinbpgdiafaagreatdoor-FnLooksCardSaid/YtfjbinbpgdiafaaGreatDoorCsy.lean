/- Functions by content: the reference reads heads, signatures and seals of any content; chains. Functions by content: hashes of parts of any length; the root of a pool of any content. -/
import Derived.Test.YtfjbinbpgdiafaaGreatDoorCi
import Derived.Test.YtfjbinbpgdiafaaGreatDoorSiR
namespace Go.Proofs.YtfjbinbpgdiafaaGreatDoor
set_option linter.unusedVariables false
set_option linter.unusedSimpArgs false
set_option linter.unusedSectionVars false
open Go.RowKit Pl
attribute [local irreducible] z0r z0s z0z AnsP LeP
end Go.Proofs.YtfjbinbpgdiafaaGreatDoor
namespace Go.Proofs.YtfjbinbpgdiafaaGreatDoor
set_option linter.unusedVariables false
set_option linter.unusedSimpArgs false
set_option linter.unusedSectionVars false
open Go.RowKit Pl
attribute [local irreducible] z0r z0s z0z AnsP LeP
instance partsDec (ps : List Bs) : Decidable (z1I ps) := by unfold z1I; exact inferInstance
end Go.Proofs.YtfjbinbpgdiafaaGreatDoor
