/- Functions by content: disks, framed records, the texts of a log. Functions by content: the records of a file, the texts of a log. -/
import Derived.Test.YtfjbinbpgdiafaaGreatDoorXt
import Derived.Test.YtfjbinbpgdiafaaGreatDoorCap
import Derived.Test.YtfjbinbpgdiafaaGreatDoorOld
import Derived.Test.YtfjbinbpgdiafaaGreatDoorFb
import Derived.Test.YtfjbinbpgdiafaaGreatDoorVd
namespace Go.Proofs.YtfjbinbpgdiafaaGreatDoor
set_option linter.unusedVariables false
set_option linter.unusedSimpArgs false
set_option linter.unusedSectionVars false
open Go.RowKit Pl
attribute [local irreducible] z0t z0u z0A AnsP LeP
end Go.Proofs.YtfjbinbpgdiafaaGreatDoor
namespace Go.Proofs.YtfjbinbpgdiafaaGreatDoor
set_option linter.unusedVariables false
set_option linter.unusedSimpArgs false
set_option linter.unusedSectionVars false
open Go.RowKit Pl
attribute [local irreducible] z0t z0u z0A AnsP LeP
end Go.Proofs.YtfjbinbpgdiafaaGreatDoor
