/- Plain: a sealed text with one byte turned is sealed no more; letters are read as they were written. -/
import Derived.Test.YthbdlnogojcnmaaGreatDoorPlainM
namespace Go.Proofs.YthbdlnogojcnmaaGreatDoor.Pl
set_option linter.unusedVariables false
set_option linter.unusedSimpArgs false
set_option linter.unusedSectionVars false
end Go.Proofs.YthbdlnogojcnmaaGreatDoor.Pl
