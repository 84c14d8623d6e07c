/- Plain: a sealed text with one byte turned is sealed no more; letters are read as they were written. Letters: the tests and the texts of both sides. Letters: sealing, and the bytes of a letter, both sides. Letters: ReadLetter, both sides. Letters: the reference ReadLetter. -/
import Derived.Test.YtgmbkbggnlponaaGreatDoorPlainM
import Derived.Test.YtgmbkbggnlponaaGreatDoorOld
import Derived.Test.YtgmbkbggnlponaaGreatDoorWax
namespace Go.Proofs.YtgmbkbggnlponaaGreatDoor.Pl
set_option linter.unusedVariables false
set_option linter.unusedSimpArgs false
set_option linter.unusedSectionVars false
end Go.Proofs.YtgmbkbggnlponaaGreatDoor.Pl
namespace Go.Proofs.YtgmbkbggnlponaaGreatDoor
set_option linter.unusedVariables false
set_option linter.unusedSimpArgs false
set_option linter.unusedSectionVars false
open Go.RowKit Pl
end Go.Proofs.YtgmbkbggnlponaaGreatDoor
namespace Go.Proofs.YtgmbkbggnlponaaGreatDoor
set_option linter.unusedVariables false
set_option linter.unusedSimpArgs false
set_option linter.unusedSectionVars false
open Go.RowKit Pl
end Go.Proofs.YtgmbkbggnlponaaGreatDoor
namespace Go.Proofs.YtgmbkbggnlponaaGreatDoor
set_option linter.unusedVariables false
set_option linter.unusedSimpArgs false
set_option linter.unusedSectionVars false
open Go.RowKit Pl
def us2 (t : Bs) : Bs × Bool := match zg9 t with
 | none => ([], false)
 | some s => (s, true)
end Go.Proofs.YtgmbkbggnlponaaGreatDoor
namespace Go.Proofs.YtgmbkbggnlponaaGreatDoor
set_option linter.unusedVariables false
set_option linter.unusedSimpArgs false
set_option linter.unusedSectionVars false
open Go.RowKit Pl
end Go.Proofs.YtgmbkbggnlponaaGreatDoor
