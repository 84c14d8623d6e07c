/- Rows of coordinators: what the exact laws' marks ask of them, and their shapes. -/
import Derived.Test.YtnhcfmmdaihneaaGreatDoorCda
import Derived.Test.YtnhcfmmdaihneaaGreatDoorMk
import Derived.Test.YtnhcfmmdaihneaaGreatDoorPx
import Derived.Test.YtnhcfmmdaihneaaGreatDoorXt
namespace Go.Proofs.YtnhcfmmdaihneaaGreatDoor
set_option linter.unusedVariables false
set_option linter.unusedSimpArgs false
set_option linter.unusedSectionVars false
open Go.RowKit Pl
theorem z3D (l : List Bs) : WfSt (strE l) := fun e he => by
 simp only [strE, List.mem_map] at he
 obtain ⟨x, _, rfl⟩ := he
 exact ⟨_, rfl⟩
theorem zhg (n : Nat) : WfSt (emV n) := fun e he => by
 rw [(List.mem_replicate.1 he).2]; exact ⟨_, rfl⟩
theorem zhh (n : Nat) : WfBo (emD n) := fun e he => by
 rw [(List.mem_replicate.1 he).2]; exact ⟨_, rfl⟩
theorem zjY (n : Nat) : ucE (emV n) = emV n := z2g fun e he c hc => by
 rw [(List.mem_replicate.1 he).2, List.mem_singleton] at hc
 subst hc; rfl
theorem zjZ (n : Nat) : ucE (emD n) = emD n := z2g fun e he c hc => by
 rw [(List.mem_replicate.1 he).2, List.mem_singleton] at hc
 subst hc; rfl
theorem zaV {l : List Bs} {N : Nat} (hl : l.length ≤ N) (h : ∀ x ∈ l, x.length ≤ N) : (strE l).length ≤ N ∧ ∀ e ∈ strE l, Fits N .str e := ⟨by rw [z0m]; exact hl, fun e he => by
 simp only [strE, List.mem_map] at he
 obtain ⟨x, hx, rfl⟩ := he
 exact ⟨_, rfl, h x hx⟩⟩
end Go.Proofs.YtnhcfmmdaihneaaGreatDoor
