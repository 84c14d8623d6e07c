/- Functions by content: hashes of parts of any length; the root of a pool of any content. -/
import Derived.Test.YtgmbkbggnlponaaGreatDoorCsa
namespace Go.Proofs.YtgmbkbggnlponaaGreatDoor
set_option linter.unusedVariables false
set_option linter.unusedSimpArgs false
set_option linter.unusedSectionVars false
open Go.RowKit Pl
attribute [local irreducible] z0t z0u z0y AnsP LeP
instance partsDec (ps : List Bs) : Decidable (z1q ps) := by unfold z1q; exact inferInstance
end Go.Proofs.YtgmbkbggnlponaaGreatDoor
