/- Functions by content: shards, what they make of a record. Functions by content: a shard commits, applies a record, is made from its disk. -/
import Derived.Test.YtceegbenenakaaaGreatDoorLgu
import Derived.Test.YtceegbenenakaaaGreatDoorCap
import Derived.Test.YtceegbenenakaaaGreatDoorHb
namespace Go.Proofs.YtceegbenenakaaaGreatDoor
set_option linter.unusedVariables false
set_option linter.unusedSimpArgs false
set_option linter.unusedSectionVars false
open Go.RowKit Pl
attribute [local irreducible] z0s z0x z0C AnsP LeP
def vwE (l : List (List Lf)) : List (List T) := l.map fun v => [.sl 2 (lvE v)]
end Go.Proofs.YtceegbenenakaaaGreatDoor
namespace Go.Proofs.YtceegbenenakaaaGreatDoor
set_option linter.unusedVariables false
set_option linter.unusedSimpArgs false
set_option linter.unusedSectionVars false
open Go.RowKit Pl
attribute [local irreducible] z0s z0x z0C AnsP LeP
end Go.Proofs.YtceegbenenakaaaGreatDoor
