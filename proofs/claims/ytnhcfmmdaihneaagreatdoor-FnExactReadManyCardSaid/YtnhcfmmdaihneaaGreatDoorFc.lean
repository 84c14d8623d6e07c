/- Functions by content: an entry is looked up, put, dropped. Functions by content: an entry is dropped; one is put, by the reference; lists are compared. Functions by content: lists and names drawn. Functions by content: more of what is drawn: any bound, texts, spoilt texts. -/
import Derived.Test.YtnhcfmmdaihneaaGreatDoorFa
import Derived.Test.YtnhcfmmdaihneaaGreatDoorPlainM
import Derived.Test.YtnhcfmmdaihneaaGreatDoorFb
namespace Go.Proofs.YtnhcfmmdaihneaaGreatDoor
set_option linter.unusedVariables false
set_option linter.unusedSimpArgs false
set_option linter.unusedSectionVars false
open Go.RowKit Pl
attribute [local irreducible] z0s z0t z0x AnsP LeP
end Go.Proofs.YtnhcfmmdaihneaaGreatDoor
namespace Go.Proofs.YtnhcfmmdaihneaaGreatDoor
set_option linter.unusedVariables false
set_option linter.unusedSimpArgs false
set_option linter.unusedSectionVars false
open Go.RowKit Pl
attribute [local irreducible] z0s z0t z0x AnsP LeP
end Go.Proofs.YtnhcfmmdaihneaaGreatDoor
namespace Go.Proofs.YtnhcfmmdaihneaaGreatDoor
set_option linter.unusedVariables false
set_option linter.unusedSimpArgs false
set_option linter.unusedSectionVars false
open Go.RowKit Pl
attribute [local irreducible] z0s z0t z0x AnsP LeP
def Small9 (l : List Lf) : Prop := ∀ x ∈ l, (x.1.length : Int) ≤ 9 ∧ (x.2.length : Int) ≤ 9
theorem Small9.fit {l : List Lf} (h : Small9 l) : Fit l := fun i => by
 unfold lfAt
 rcases Nat.lt_or_ge i l.length with hl | hl
 ·have := h l[i] (List.getElem_mem hl)
  simp only [List.getD, List.getElem?_eq_getElem hl, Option.getD_some]
  omega
 ·simp [List.getD, List.getElem?_eq_none hl]
theorem Small9.put {l : List Lf} {n v : Bs} (h : Small9 l) (hn : (n.length : Int) ≤ 9) (hv : (v.length : Int) ≤ 9) : Small9 (putL l n v) := by
 intro x hx
 simp only [putL, lowL, highL, z67, List.mem_append, List.mem_filter, List.mem_singleton] at hx
 rcases hx with (hx | hx) | hx
 ·exact h x hx.1.1
 ·subst hx; exact ⟨hn, hv⟩
 ·exact h x hx.1.1
end Go.Proofs.YtnhcfmmdaihneaaGreatDoor
namespace Go.Proofs.YtnhcfmmdaihneaaGreatDoor
set_option linter.unusedVariables false
set_option linter.unusedSimpArgs false
set_option linter.unusedSectionVars false
open Go.RowKit Pl
attribute [local irreducible] z0s z0t z0x AnsP LeP
end Go.Proofs.YtnhcfmmdaihneaaGreatDoor
