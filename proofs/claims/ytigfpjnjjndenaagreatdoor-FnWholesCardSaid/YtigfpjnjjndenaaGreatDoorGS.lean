/- Functions by content: rows of strings. -/
import Derived.Test.YtigfpjnjjndenaaGreatDoorFHI
namespace Go.Proofs.YtigfpjnjjndenaaGreatDoor
open Go.RowKit Pl
set_option linter.unusedVariables false
set_option linter.unusedSimpArgs false
attribute [local irreducible] CondB CallP LoopW AnsP LeP

theorem own_lvE {k : Nat} (l : List Lf) : ownE (.row k (lvE l)) := by
  intro e he c hc
  simp only [lvE, List.mem_map] at he
  obtain ⟨x, _, rfl⟩ := he
  simp only [List.mem_cons, List.not_mem_nil, or_false] at hc
  rcases hc with rfl | rfl <;> trivial
theorem own_strE {k : Nat} (l : List Bs) : ownE (.row k (strE l)) := by
  intro e he c hc
  simp only [strE, List.mem_map] at he
  obtain ⟨x, _, rfl⟩ := he
  simp only [List.mem_cons, List.not_mem_nil, or_false] at hc
  subst hc; trivial
end Go.Proofs.YtigfpjnjjndenaaGreatDoor
