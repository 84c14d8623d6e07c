/- Functions by content: the reference's shard applies a record. Functions by content: a shard is made from its disk, by the program and by the reference. -/
import Derived.Test.YtceegbenenakaaaGreatDoorSvw
namespace Go.Proofs.YtceegbenenakaaaGreatDoor
set_option linter.unusedVariables false
set_option linter.unusedSimpArgs false
set_option linter.unusedSectionVars false
open Go.RowKit Pl
attribute [local irreducible] z0s z0x z0C AnsP LeP
end Go.Proofs.YtceegbenenakaaaGreatDoor
namespace Go.Proofs.YtceegbenenakaaaGreatDoor
set_option linter.unusedVariables false
set_option linter.unusedSimpArgs false
set_option linter.unusedSectionVars false
open Go.RowKit Pl
attribute [local irreducible] z0s z0x z0C AnsP LeP
end Go.Proofs.YtceegbenenakaaaGreatDoor
