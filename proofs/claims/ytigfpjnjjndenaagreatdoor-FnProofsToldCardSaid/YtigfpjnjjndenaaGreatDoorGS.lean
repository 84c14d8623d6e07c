/- Functions by content: rows of strings. -/
import Derived.Test.YtigfpjnjjndenaaGreatDoorFHI
namespace Go.Proofs.YtigfpjnjjndenaaGreatDoor
open Go.RowKit Pl
set_option linter.unusedVariables false
set_option linter.unusedSimpArgs false
attribute [local irreducible] CondB CallP LoopW AnsP LeP

theorem own_lvE {k : Nat} (l : List Lf) : ownE (.row k (lvE l)) := by
  intro e he c hc
  simp only [lvE, List.mem_map] at he
  obtain ⟨x, _, rfl⟩ := he
  simp only [List.mem_cons, List.not_mem_nil, or_false] at hc
  rcases hc with rfl | rfl <;> trivial
theorem own_strE {k : Nat} (l : List Bs) : ownE (.row k (strE l)) := by
  intro e he c hc
  simp only [strE, List.mem_map] at he
  obtain ⟨x, _, rfl⟩ := he
  simp only [List.mem_cons, List.not_mem_nil, or_false] at hc
  subst hc; trivial
def sAt (l : List Bs) (k : Nat) : Bs := l.getD k []
theorem s_at {l : List Bs} {k : Nat} (h : k < l.length) : sAt l k = l[k] := by simp [sAt, List.getD, List.getElem?_eq_getElem h]
theorem s_get {l : List Bs} {k : Nat} (h : k < l.length) : (strE l)[k]? = some [.str (sAt l k)] := strE_at h
theorem s_next (l : List Bs) (k : Nat) (h : k < l.length) : l.take (k + 1) = l.take k ++ [sAt l k] := by
  rw [List.take_add_one, List.getElem?_eq_getElem h, s_at h]; rfl
end Go.Proofs.YtigfpjnjjndenaaGreatDoor
