/- A call before which all rows that are handed over by value are given up. -/
import Derived.Test.YtigfpjnjjndenaaGreatDoorV20
namespace Go.Proofs.YtigfpjnjjndenaaGreatDoor
open Go.RowKit Pl
set_option linter.unusedVariables false
set_option linter.unusedSimpArgs false

end Go.Proofs.YtigfpjnjjndenaaGreatDoor
