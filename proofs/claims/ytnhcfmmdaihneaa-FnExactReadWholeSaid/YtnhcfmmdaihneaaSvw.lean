/- Functions by content: shards, what they make of a record. Functions by content: a shard commits, applies a record, is made from its disk. -/
import Derived.Test.YtnhcfmmdaihneaaLgu
import Derived.Test.YtnhcfmmdaihneaaCap
import Derived.Test.YtnhcfmmdaihneaaHb
namespace Go.Proofs.Ytnhcfmmdaihneaa
set_option linter.unusedVariables false
set_option linter.unusedSimpArgs false
set_option linter.unusedSectionVars false
open Go.RowKit Pl
attribute [local irreducible] z0m z0o z0s AnsP LeP
end Go.Proofs.Ytnhcfmmdaihneaa
namespace Go.Proofs.Ytnhcfmmdaihneaa
set_option linter.unusedVariables false
set_option linter.unusedSimpArgs false
set_option linter.unusedSectionVars false
open Go.RowKit Pl
attribute [local irreducible] z0m z0o z0s AnsP LeP
end Go.Proofs.Ytnhcfmmdaihneaa
