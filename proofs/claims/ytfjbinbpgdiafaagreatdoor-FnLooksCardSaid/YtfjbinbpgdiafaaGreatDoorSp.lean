/- Functions by content: the program verifies signatures, seals and stamps. Functions by content: the program verifies seals and stamps. Functions by content: a complete proof is verified. Functions by content: a complete proof is encoded. Functions by content: a complete proof is decoded from its text. -/
import Derived.Test.YtfjbinbpgdiafaaGreatDoorTt
import Derived.Test.YtfjbinbpgdiafaaGreatDoorPs
namespace Go.Proofs.YtfjbinbpgdiafaaGreatDoor
set_option linter.unusedVariables false
set_option linter.unusedSimpArgs false
set_option linter.unusedSectionVars false
open Go.RowKit Pl
attribute [local irreducible] z0r z0s z0z AnsP LeP
theorem z1z {r : Nat} : ownE (.box [.ref r]) := fun c hc => by rw [List.mem_singleton.1 hc]; trivial
theorem z1A : ownE (.row 0 []) := fun e he => by simp at he
end Go.Proofs.YtfjbinbpgdiafaaGreatDoor
namespace Go.Proofs.YtfjbinbpgdiafaaGreatDoor
set_option linter.unusedVariables false
set_option linter.unusedSimpArgs false
set_option linter.unusedSectionVars false
open Go.RowKit Pl
attribute [local irreducible] z0r z0s z0z AnsP LeP
end Go.Proofs.YtfjbinbpgdiafaaGreatDoor
namespace Go.Proofs.YtfjbinbpgdiafaaGreatDoor
set_option linter.unusedVariables false
set_option linter.unusedSimpArgs false
set_option linter.unusedSectionVars false
open Go.RowKit Pl
attribute [local irreducible] z0r z0s z0z AnsP LeP
end Go.Proofs.YtfjbinbpgdiafaaGreatDoor
namespace Go.Proofs.YtfjbinbpgdiafaaGreatDoor
set_option linter.unusedVariables false
set_option linter.unusedSimpArgs false
set_option linter.unusedSectionVars false
open Go.RowKit Pl
attribute [local irreducible] z0r z0s z0z AnsP LeP
end Go.Proofs.YtfjbinbpgdiafaaGreatDoor
namespace Go.Proofs.YtfjbinbpgdiafaaGreatDoor
set_option linter.unusedVariables false
set_option linter.unusedSimpArgs false
set_option linter.unusedSectionVars false
open Go.RowKit Pl
attribute [local irreducible] z0r z0s z0z AnsP LeP
end Go.Proofs.YtfjbinbpgdiafaaGreatDoor
