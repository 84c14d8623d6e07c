/- Texts and seals of any content, out of what fits their shapes. -/
import Derived.Test.YtgmbkbggnlponaaGreatDoorSvz
import Derived.Test.YtgmbkbggnlponaaGreatDoorPco
namespace Go.Proofs.YtgmbkbggnlponaaGreatDoor
set_option linter.unusedVariables false
set_option linter.unusedSimpArgs false
set_option linter.unusedSectionVars false
open Go.RowKit Pl
end Go.Proofs.YtgmbkbggnlponaaGreatDoor
