/- Functions by content: shards, what they make of a record. Functions by content: a shard commits, applies a record, is made from its disk. -/
import Derived.Test.YtnhcfmmdaihneaaGreatDoorLgu
import Derived.Test.YtnhcfmmdaihneaaGreatDoorCap
import Derived.Test.YtnhcfmmdaihneaaGreatDoorHb
namespace Go.Proofs.YtnhcfmmdaihneaaGreatDoor
set_option linter.unusedVariables false
set_option linter.unusedSimpArgs false
set_option linter.unusedSectionVars false
open Go.RowKit Pl
attribute [local irreducible] z0w z0x z0A AnsP LeP
def ntE (l : List Nat) : List (List T) := l.map fun n : Nat => [.int .i64 (n : Int)]
end Go.Proofs.YtnhcfmmdaihneaaGreatDoor
namespace Go.Proofs.YtnhcfmmdaihneaaGreatDoor
set_option linter.unusedVariables false
set_option linter.unusedSimpArgs false
set_option linter.unusedSectionVars false
open Go.RowKit Pl
attribute [local irreducible] z0w z0x z0A AnsP LeP
end Go.Proofs.YtnhcfmmdaihneaaGreatDoor
