/- Functions by content: the program's digest. Functions by content: the program's digest, whole. Functions by content: the index of a name, and the entries of an index. -/
import Derived.Test.YtnhcfmmdaihneaaHa
import Derived.Test.YtnhcfmmdaihneaaPlainM
import Derived.Test.YtnhcfmmdaihneaaFc
namespace Go.Proofs.Ytnhcfmmdaihneaa
set_option linter.unusedVariables false
set_option linter.unusedSimpArgs false
set_option linter.unusedSectionVars false
open Go.RowKit Pl
attribute [local irreducible] z0m z0o z0s AnsP LeP bits z3M shlN shrN
end Go.Proofs.Ytnhcfmmdaihneaa
namespace Go.Proofs.Ytnhcfmmdaihneaa
set_option linter.unusedVariables false
set_option linter.unusedSimpArgs false
set_option linter.unusedSectionVars false
open Go.RowKit Pl
attribute [local irreducible] z0m z0o z0s AnsP LeP bits z3M shlN shrN
end Go.Proofs.Ytnhcfmmdaihneaa
namespace Go.Proofs.Ytnhcfmmdaihneaa
set_option linter.unusedVariables false
set_option linter.unusedSimpArgs false
set_option linter.unusedSectionVars false
open Go.RowKit Pl
attribute [local irreducible] z0m z0o z0s AnsP LeP
theorem z6Y (b : UInt8) : IntKind.i64.wrap ((b.toNat : Nat) : Int) = ((b.toNat : Nat) : Int) := by have := b.toNat_lt; rw [z1i (by omega) (by omega)]
def zcS (l : List Lf) (ix : Int) : List Lf := l.filter fun x => decide ((ixB x.1 : Int) = ix)
end Go.Proofs.Ytnhcfmmdaihneaa
