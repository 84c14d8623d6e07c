/- Functions by content: names, values, lists of entries. -/
import Derived.Test.YtfgfkhmldlpmkaaGreatDoorV21
import Derived.Test.YtfgfkhmldlpmkaaGreatDoorTypes
import Derived.Test.YtfgfkhmldlpmkaaGreatDoorPlainA
namespace Go.Proofs.YtfgfkhmldlpmkaaGreatDoor
open Go.RowKit Pl
set_option linter.unusedVariables false
set_option linter.unusedSimpArgs false
attribute [local irreducible] CondB CallP LoopW AnsP LeP

theorem aN_bad {f : Nat → Bool} {l : Bs} {k : Nat} (hk : k < l.length) (h : f (l.getD k 0).toNat = false) : allN f l = false := by
  have : l.all (fun b => f b.toNat) = false := by
    rw [List.all_eq_false]
    refine ⟨l[k], List.getElem_mem hk, ?_⟩
    have e : l.getD k 0 = l[k] := by simp [List.getD, List.getElem?_eq_getElem hk]
    rw [← e, h]; simp
  rw [allN, this, Bool.and_false]
theorem aN_good {f : Nat → Bool} {l : Bs} (h : ∀ k, k < l.length → f (l.getD k 0).toNat = true) : allN f l = inB l.length 1 12 := by
  have : l.all (fun b => f b.toNat) = true := by
    rw [List.all_eq_true]
    intro b hb
    obtain ⟨k, hk, rfl⟩ := List.getElem_of_mem hb
    have e : l.getD k 0 = l[k] := by simp [List.getD, List.getElem?_eq_getElem hk]
    rw [← e]; exact h k hk
  rw [allN, this, Bool.and_true, inB]
  congr 1 <;> exact decide_eq_decide.2 (by omega)
theorem aN_long {f : Nat → Bool} {l : Bs} (h : 12 < l.length) : allN f l = false := by
  have : decide (l.length ≤ 12) = false := by simp; omega
  rw [allN, this]; simp
theorem nameN_yes {n : Nat} (h : (97 ≤ n ∧ n ≤ 122) ∨ (48 ≤ n ∧ n ≤ 57) ∨ n = 64 ∨ n = 46) : nameN n = true := by simp [nameN]; omega
theorem nameN_no {n : Nat} (h : ¬ ((97 ≤ n ∧ n ≤ 122) ∨ (48 ≤ n ∧ n ≤ 57) ∨ n = 64 ∨ n = 46)) : nameN n = false := by simp [nameN]; omega
theorem valN_yes {n : Nat} (h : 33 ≤ n ∧ n ≤ 126) : valN n = true := by simp [valN]; omega
theorem valN_no {n : Nat} (h : ¬ (33 ≤ n ∧ n ≤ 126)) : valN n = false := by simp [valN]; omega
theorem inB_long {l : Bs} (h : 12 < l.length) : inB l.length 1 12 = false := by
  simp [inB]; omega

end Go.Proofs.YtfgfkhmldlpmkaaGreatDoor
