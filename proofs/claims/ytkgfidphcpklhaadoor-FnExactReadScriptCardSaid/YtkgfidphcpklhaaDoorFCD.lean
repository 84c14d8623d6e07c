/- Functions by content: an entry is looked up, put, dropped. Functions by content: an entry is dropped; one is put, by the reference; lists are compared. -/
import Derived.Test.YtkgfidphcpklhaaDoorFBE
import Derived.Test.YtkgfidphcpklhaaDoorPlainA
namespace Go.Proofs.YtkgfidphcpklhaaDoor
open Go.RowKit Pl
set_option linter.unusedVariables false
set_option linter.unusedSimpArgs false
attribute [local irreducible] CondB CallP LoopW AnsP LeP

end Go.Proofs.YtkgfidphcpklhaaDoor
namespace Go.Proofs.YtkgfidphcpklhaaDoor
open Go.RowKit Pl
set_option linter.unusedVariables false
set_option linter.unusedSimpArgs false
attribute [local irreducible] CondB CallP LoopW AnsP LeP

end Go.Proofs.YtkgfidphcpklhaaDoor
