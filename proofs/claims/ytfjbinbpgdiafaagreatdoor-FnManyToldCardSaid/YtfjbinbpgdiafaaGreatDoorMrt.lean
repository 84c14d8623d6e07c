/- Functions by content: the reference tells whether a proof of many leads to a root: the walk. -/
import Derived.Test.YtfjbinbpgdiafaaGreatDoorMrs
import Derived.Test.YtfjbinbpgdiafaaGreatDoorMrr2
namespace Go.Proofs.YtfjbinbpgdiafaaGreatDoor
set_option linter.unusedVariables false
set_option linter.unusedSimpArgs false
set_option linter.unusedSectionVars false
open Go.RowKit Pl
def zbm (names : List Bs) (bks : List (List Lf)) (sides : List Bs) (w : Int) : Bool := z0N names && (Pl.wideB sides w && (decide (bks.length = (ixsN names).length) && bksB bks (ixsN names)))
theorem zbn (names : List Bs) (bks : List (List Lf)) (sides : List Bs) (w : Int) : z15 names bks sides w = (zbm names bks sides w && decide (sides.length = z1e 8 (ixsN names))) := by
 unfold z15 zbm Pl.wideB
 cases z0N names <;> cases decide (bks.length = (ixsN names).length) <;> cases inB w 1 32 <;> cases (sides.all fun x => decide ((x.length : Int) = w)) <;> cases bksB bks (ixsN names) <;> rfl
def sndI (L : List Nat) (i : Nat) : Prop := ∃ h : i < L.length, ∃ h0 : 0 < i, L[i] % 2 = 1 ∧ L[i - 1] + 1 = L[i]
end Go.Proofs.YtfjbinbpgdiafaaGreatDoor
