/- Functions by content: the reference's texts and hash of whatever proof. -/
import Derived.Test.YtigfpjnjjndenaaGreatDoorTk
namespace Go.Proofs.YtigfpjnjjndenaaGreatDoor
open Go.RowKit Pl
set_option linter.unusedVariables false
set_option linter.unusedSimpArgs false
attribute [local irreducible] CondB CallP LoopW AnsP LeP

end Go.Proofs.YtigfpjnjjndenaaGreatDoor
