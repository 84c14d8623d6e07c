/- Functions by content: disks, framed records, the texts of a log. Functions by content: the records of a file, the texts of a log. -/
import Derived.Test.YtceegbenenakaaaGreatDoorXt
import Derived.Test.YtceegbenenakaaaGreatDoorCap
import Derived.Test.YtceegbenenakaaaGreatDoorOld
import Derived.Test.YtceegbenenakaaaGreatDoorFb
import Derived.Test.YtceegbenenakaaaGreatDoorVd
namespace Go.Proofs.YtceegbenenakaaaGreatDoor
set_option linter.unusedVariables false
set_option linter.unusedSimpArgs false
set_option linter.unusedSectionVars false
open Go.RowKit Pl
attribute [local irreducible] z0s z0x z0C AnsP LeP
end Go.Proofs.YtceegbenenakaaaGreatDoor
namespace Go.Proofs.YtceegbenenakaaaGreatDoor
set_option linter.unusedVariables false
set_option linter.unusedSimpArgs false
set_option linter.unusedSectionVars false
open Go.RowKit Pl
attribute [local irreducible] z0s z0x z0C AnsP LeP
end Go.Proofs.YtceegbenenakaaaGreatDoor
