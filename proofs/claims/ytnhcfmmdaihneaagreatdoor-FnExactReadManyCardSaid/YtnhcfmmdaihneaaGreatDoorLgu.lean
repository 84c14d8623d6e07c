/- Functions by content: disks, framed records, the texts of a log. Functions by content: the records of a file, the texts of a log. -/
import Derived.Test.YtnhcfmmdaihneaaGreatDoorXt
import Derived.Test.YtnhcfmmdaihneaaGreatDoorCap
import Derived.Test.YtnhcfmmdaihneaaGreatDoorOld
import Derived.Test.YtnhcfmmdaihneaaGreatDoorFb
import Derived.Test.YtnhcfmmdaihneaaGreatDoorVd
namespace Go.Proofs.YtnhcfmmdaihneaaGreatDoor
set_option linter.unusedVariables false
set_option linter.unusedSimpArgs false
set_option linter.unusedSectionVars false
open Go.RowKit Pl
attribute [local irreducible] z0s z0t z0x AnsP LeP
end Go.Proofs.YtnhcfmmdaihneaaGreatDoor
namespace Go.Proofs.YtnhcfmmdaihneaaGreatDoor
set_option linter.unusedVariables false
set_option linter.unusedSimpArgs false
set_option linter.unusedSectionVars false
open Go.RowKit Pl
attribute [local irreducible] z0s z0t z0x AnsP LeP
end Go.Proofs.YtnhcfmmdaihneaaGreatDoor
