/- Functions by content: disks, framed records, the texts of a log. Functions by content: the records of a file, the texts of a log. -/
import Derived.Test.YtgmbkbggnlponaaGreatDoorXt
import Derived.Test.YtgmbkbggnlponaaGreatDoorCap
import Derived.Test.YtgmbkbggnlponaaGreatDoorOld
import Derived.Test.YtgmbkbggnlponaaGreatDoorFb
import Derived.Test.YtgmbkbggnlponaaGreatDoorVd
namespace Go.Proofs.YtgmbkbggnlponaaGreatDoor
set_option linter.unusedVariables false
set_option linter.unusedSimpArgs false
set_option linter.unusedSectionVars false
open Go.RowKit Pl
attribute [local irreducible] z0t z0u z0y AnsP LeP
end Go.Proofs.YtgmbkbggnlponaaGreatDoor
namespace Go.Proofs.YtgmbkbggnlponaaGreatDoor
set_option linter.unusedVariables false
set_option linter.unusedSimpArgs false
set_option linter.unusedSectionVars false
open Go.RowKit Pl
attribute [local irreducible] z0t z0u z0y AnsP LeP
end Go.Proofs.YtgmbkbggnlponaaGreatDoor
