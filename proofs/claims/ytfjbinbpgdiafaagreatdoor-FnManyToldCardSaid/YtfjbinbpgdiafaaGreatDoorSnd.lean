/- Functions by content: a shard is made from its disk; its rows are told as rows that may be moved. -/
import Derived.Test.YtfjbinbpgdiafaaGreatDoorSxy
import Derived.Test.YtfjbinbpgdiafaaGreatDoorVe
namespace Go.Proofs.YtfjbinbpgdiafaaGreatDoor
set_option linter.unusedVariables false
set_option linter.unusedSimpArgs false
set_option linter.unusedSectionVars false
open Go.RowKit Pl
attribute [local irreducible] z0t z0u z0A AnsP LeP CvE
theorem cl_lv (l : List Lf) : ∀ e ∈ lvE l, ∀ c ∈ e, cl0 c := fun e he c hc => by
 simp only [lvE, List.mem_map] at he
 obtain ⟨x, _, rfl⟩ := he
 simp only [List.mem_cons, List.not_mem_nil, or_false] at hc
 rcases hc with rfl | rfl <;> trivial
def zfv : T → Bool
 | .own _ _ => false
 | _ => true
theorem zdY {c : T} (h : zfv c = true) : ucT c = c := by cases c <;> first | rfl | cases h
theorem zav : ∀ {cs : List T}, (∀ c ∈ cs, zfv c = true) → ucL cs = cs
 | [], _ => by simp [ucL]
 | c :: cs, h => by simp only [ucL]; rw [zdY (h c (by simp)), zav fun c hc => h c (by simp [hc])]
theorem z7m : ∀ {es : List (List T)}, (∀ e ∈ es, ∀ c ∈ e, zfv c = true) → ucE es = es
 | [], _ => by simp [ucE]
 | e :: es, h => by simp only [ucE]; rw [zav (h e (by simp)), z7m fun e he => h e (by simp [he])]
theorem sl_lv (l : List Lf) : ucE (lvE l) = lvE l := z7m fun e he c hc => by
 simp only [lvE, List.mem_map] at he
 obtain ⟨x, _, rfl⟩ := he
 simp only [List.mem_cons, List.not_mem_nil, or_false] at hc
 rcases hc with rfl | rfl <;> rfl
def vwD (l : List (List Lf)) : List (List T) := l.map fun v => [.own 2 (lvE v)]
theorem zfw (l : List (List Lf)) (v : List Lf) : vwD (l ++ [v]) = vwD l ++ [[.own 2 (lvE v)]] := by simp [vwD]
theorem zcW (l : List (List Lf)) : (vwD l).length = l.length := by simp [vwD]
theorem zdZ : ∀ l : List (List Lf), ucE (vwD l) = vwE l
 | [] => by simp [vwD, vwE, ucE]
 | v :: l => by
   have ih := zdZ l
   simp only [vwD, vwE, List.map_cons, ucE, ucL, ucT, sl_lv] at ih ⊢
   rw [ih]
end Go.Proofs.YtfjbinbpgdiafaaGreatDoor
