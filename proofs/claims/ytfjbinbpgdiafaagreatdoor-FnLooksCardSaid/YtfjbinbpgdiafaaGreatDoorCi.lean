/- Functions by content: the program reads heads, signatures and seals of any content; chains; keys; a coordinator applies its records. Functions by content: the program's chains of heads. -/
import Derived.Test.YtfjbinbpgdiafaaGreatDoorSvw
import Derived.Test.YtfjbinbpgdiafaaGreatDoorSp
import Derived.Test.YtfjbinbpgdiafaaGreatDoorPco
namespace Go.Proofs.YtfjbinbpgdiafaaGreatDoor
set_option linter.unusedVariables false
set_option linter.unusedSimpArgs false
set_option linter.unusedSectionVars false
open Go.RowKit Pl
attribute [local irreducible] z0r z0s z0z AnsP LeP
end Go.Proofs.YtfjbinbpgdiafaaGreatDoor
namespace Go.Proofs.YtfjbinbpgdiafaaGreatDoor
set_option linter.unusedVariables false
set_option linter.unusedSimpArgs false
set_option linter.unusedSectionVars false
open Go.RowKit Pl
attribute [local irreducible] z0r z0s z0z AnsP LeP
end Go.Proofs.YtfjbinbpgdiafaaGreatDoor
