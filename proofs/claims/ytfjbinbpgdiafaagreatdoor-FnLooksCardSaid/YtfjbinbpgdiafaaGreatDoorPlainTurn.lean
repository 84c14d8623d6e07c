/- Plain: a sealed text with one byte turned is sealed no more; letters are read as they were written. -/
import Derived.Test.YtfjbinbpgdiafaaGreatDoorPlainM
namespace Go.Proofs.YtfjbinbpgdiafaaGreatDoor.Pl
set_option linter.unusedVariables false
set_option linter.unusedSimpArgs false
set_option linter.unusedSectionVars false
end Go.Proofs.YtfjbinbpgdiafaaGreatDoor.Pl
