/- Functions by content: a shard is made from its disk; its rows are told as rows that may be moved. -/
import Derived.Test.YtceegbenenakaaaGreatDoorSxy
import Derived.Test.YtceegbenenakaaaGreatDoorVe
namespace Go.Proofs.YtceegbenenakaaaGreatDoor
set_option linter.unusedVariables false
set_option linter.unusedSimpArgs false
set_option linter.unusedSectionVars false
open Go.RowKit Pl
attribute [local irreducible] z0s z0x z0C AnsP LeP CvE
theorem cl_lv (l : List Lf) : ∀ e ∈ lvE l, ∀ c ∈ e, cl0 c := fun e he c hc => by
 simp only [lvE, List.mem_map] at he
 obtain ⟨x, _, rfl⟩ := he
 simp only [List.mem_cons, List.not_mem_nil, or_false] at hc
 rcases hc with rfl | rfl <;> trivial
def ze7 : T → Bool
 | .own _ _ => false
 | _ => true
theorem zcM {c : T} (h : ze7 c = true) : ucT c = c := by cases c <;> first | rfl | cases h
theorem z9p : ∀ {cs : List T}, (∀ c ∈ cs, ze7 c = true) → ucL cs = cs
 | [], _ => by simp [ucL]
 | c :: cs, h => by simp only [ucL]; rw [zcM (h c (by simp)), z9p fun c hc => h c (by simp [hc])]
theorem z6n : ∀ {es : List (List T)}, (∀ e ∈ es, ∀ c ∈ e, ze7 c = true) → ucE es = es
 | [], _ => by simp [ucE]
 | e :: es, h => by simp only [ucE]; rw [z9p (h e (by simp)), z6n fun e he => h e (by simp [he])]
theorem sl_lv (l : List Lf) : ucE (lvE l) = lvE l := z6n fun e he c hc => by
 simp only [lvE, List.mem_map] at he
 obtain ⟨x, _, rfl⟩ := he
 simp only [List.mem_cons, List.not_mem_nil, or_false] at hc
 rcases hc with rfl | rfl <;> rfl
def vwD (l : List (List Lf)) : List (List T) := l.map fun v => [.own 2 (lvE v)]
theorem ze8 (l : List (List Lf)) (v : List Lf) : vwD (l ++ [v]) = vwD l ++ [[.own 2 (lvE v)]] := by simp [vwD]
theorem zbE (l : List (List Lf)) : (vwD l).length = l.length := by simp [vwD]
theorem z8d : ∀ l : List (List Lf), ucE (vwD l) = vwE l
 | [] => by simp [vwD, vwE, ucE]
 | v :: l => by
   have ih := z8d l
   simp only [vwD, vwE, List.map_cons, ucE, ucL, ucT, sl_lv] at ih ⊢
   rw [ih]
end Go.Proofs.YtceegbenenakaaaGreatDoor
