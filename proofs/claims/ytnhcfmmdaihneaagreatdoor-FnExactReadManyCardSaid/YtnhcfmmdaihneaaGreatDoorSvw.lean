/- Functions by content: shards, what they make of a record. Functions by content: a shard commits, applies a record, is made from its disk. -/
import Derived.Test.YtnhcfmmdaihneaaGreatDoorLgu
import Derived.Test.YtnhcfmmdaihneaaGreatDoorCap
import Derived.Test.YtnhcfmmdaihneaaGreatDoorHb
namespace Go.Proofs.YtnhcfmmdaihneaaGreatDoor
set_option linter.unusedVariables false
set_option linter.unusedSimpArgs false
set_option linter.unusedSectionVars false
open Go.RowKit Pl
attribute [local irreducible] z0s z0t z0x AnsP LeP
def vwE (l : List (List Lf)) : List (List T) := l.map fun v => [.sl 2 (lvE v)]
end Go.Proofs.YtnhcfmmdaihneaaGreatDoor
namespace Go.Proofs.YtnhcfmmdaihneaaGreatDoor
set_option linter.unusedVariables false
set_option linter.unusedSimpArgs false
set_option linter.unusedSectionVars false
open Go.RowKit Pl
attribute [local irreducible] z0s z0t z0x AnsP LeP
end Go.Proofs.YtnhcfmmdaihneaaGreatDoor
