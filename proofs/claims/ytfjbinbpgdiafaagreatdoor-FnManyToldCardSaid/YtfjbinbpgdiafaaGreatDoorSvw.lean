/- Functions by content: shards, what they make of a record. Functions by content: a shard commits, applies a record, is made from its disk. -/
import Derived.Test.YtfjbinbpgdiafaaGreatDoorLgu
import Derived.Test.YtfjbinbpgdiafaaGreatDoorCap
import Derived.Test.YtfjbinbpgdiafaaGreatDoorHb
namespace Go.Proofs.YtfjbinbpgdiafaaGreatDoor
set_option linter.unusedVariables false
set_option linter.unusedSimpArgs false
set_option linter.unusedSectionVars false
open Go.RowKit Pl
attribute [local irreducible] z0t z0u z0A AnsP LeP
def vwE (l : List (List Lf)) : List (List T) := l.map fun v => [.sl 2 (lvE v)]
end Go.Proofs.YtfjbinbpgdiafaaGreatDoor
namespace Go.Proofs.YtfjbinbpgdiafaaGreatDoor
set_option linter.unusedVariables false
set_option linter.unusedSimpArgs false
set_option linter.unusedSectionVars false
open Go.RowKit Pl
attribute [local irreducible] z0t z0u z0A AnsP LeP
end Go.Proofs.YtfjbinbpgdiafaaGreatDoor
