/- Functions by content: lists that are compared; whether a shard is as its disk tells. Functions by content: whether a shard is as its disk tells, by the program and by the reference. What fits a shape is a list of files, of entries, of numbers, of changes. -/
import Derived.Test.YtnhcfmmdaihneaaGreatDoorSxy
namespace Go.Proofs.YtnhcfmmdaihneaaGreatDoor
set_option linter.unusedVariables false
set_option linter.unusedSimpArgs false
set_option linter.unusedSectionVars false
open Go.RowKit Pl
attribute [local irreducible] z0w z0x z0A AnsP LeP
end Go.Proofs.YtnhcfmmdaihneaaGreatDoor
namespace Go.Proofs.YtnhcfmmdaihneaaGreatDoor
set_option linter.unusedVariables false
set_option linter.unusedSimpArgs false
set_option linter.unusedSectionVars false
open Go.RowKit Pl
attribute [local irreducible] z0w z0x z0A AnsP LeP
end Go.Proofs.YtnhcfmmdaihneaaGreatDoor
namespace Go.Proofs.YtnhcfmmdaihneaaGreatDoor
set_option linter.unusedVariables false
set_option linter.unusedSimpArgs false
set_option linter.unusedSectionVars false
open Go.RowKit Pl
end Go.Proofs.YtnhcfmmdaihneaaGreatDoor
