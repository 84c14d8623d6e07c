/- Functions by content: the reference's coordinator of any house, of any number of shards. -/
import Derived.Test.YtnhcfmmdaihneaaGreatDoorCsn
import Derived.Test.YtnhcfmmdaihneaaGreatDoorPx
namespace Go.Proofs.YtnhcfmmdaihneaaGreatDoor
set_option linter.unusedVariables false
set_option linter.unusedSimpArgs false
set_option linter.unusedSectionVars false
open Go.RowKit Pl
attribute [local irreducible] z0w z0x z0A AnsP LeP
theorem z4J {x lo hi : Int} (h : ¬ (lo ≤ x ∧ x ≤ hi)) : inB x lo hi = false := by
 cases e : inB x lo hi with
 | false => rfl
 | true => exact absurd (z0T.1 e) h
end Go.Proofs.YtnhcfmmdaihneaaGreatDoor
