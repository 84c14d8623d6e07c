/- Functions by content: lists of entries. -/
import Derived.Test.YtfgfkhmldlpmkaaGreatDoorFA
namespace Go.Proofs.YtfgfkhmldlpmkaaGreatDoor
open Go.RowKit Pl
set_option linter.unusedVariables false
set_option linter.unusedSimpArgs false
attribute [local irreducible] CondB CallP LoopW AnsP LeP

def lvE (l : List Lf) : List (List T) := l.map fun x => [.str x.1, .str x.2]
theorem lfAt_get {l : List Lf} {k : Nat} (h : k < l.length) : lfAt l k = l[k] := by simp [lfAt, List.getD, List.getElem?_eq_getElem h]
theorem lv_get {l : List Lf} {k : Nat} (h : k < l.length) : (lvE l)[k]? = some [.str (lfAt l k).1, .str (lfAt l k).2] := by
  rw [lfAt_get h]; simp [lvE, List.getElem?_eq_getElem h]
theorem lv_len (l : List Lf) : (lvE l).length = l.length := by simp [lvE]
theorem lvE_append (a b : List Lf) : lvE (a ++ b) = lvE a ++ lvE b := by simp [lvE]
def Fit (l : List Lf) : Prop := ∀ i, ((lfAt l i).1.length : Int) ≤ 1000000000 ∧ ((lfAt l i).2.length : Int) ≤ 1000000000
theorem pos_dec (k : Nat) : (k == 0) = !decide ((0 : Int) < (k : Int)) := by cases k <;> simp <;> omega
end Go.Proofs.YtfgfkhmldlpmkaaGreatDoor
