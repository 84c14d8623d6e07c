/- Functions by content: disks, framed records, the texts of a log. Functions by content: the records of a file, the texts of a log. -/
import Derived.Test.YtnhcfmmdaihneaaXt
import Derived.Test.YtnhcfmmdaihneaaCap
import Derived.Test.YtnhcfmmdaihneaaOld
import Derived.Test.YtnhcfmmdaihneaaFb
import Derived.Test.YtnhcfmmdaihneaaVd
namespace Go.Proofs.Ytnhcfmmdaihneaa
set_option linter.unusedVariables false
set_option linter.unusedSimpArgs false
set_option linter.unusedSectionVars false
open Go.RowKit Pl
attribute [local irreducible] z0m z0o z0s AnsP LeP
end Go.Proofs.Ytnhcfmmdaihneaa
namespace Go.Proofs.Ytnhcfmmdaihneaa
set_option linter.unusedVariables false
set_option linter.unusedSimpArgs false
set_option linter.unusedSectionVars false
open Go.RowKit Pl
attribute [local irreducible] z0m z0o z0s AnsP LeP
end Go.Proofs.Ytnhcfmmdaihneaa
