/- Functions by content: changes: their tests, texts, readers, and how they are applied. Changes: both readers agree; what is read back. Plain: disks, files of framed records, and what a shard makes of a record. -/
import Derived.Test.YtgmbkbggnlponaaGreatDoorFb
import Derived.Test.YtgmbkbggnlponaaGreatDoorOld
import Derived.Test.YtgmbkbggnlponaaGreatDoorFc
import Derived.Test.YtgmbkbggnlponaaGreatDoorPlainM
namespace Go.Proofs.YtgmbkbggnlponaaGreatDoor
set_option linter.unusedVariables false
set_option linter.unusedSimpArgs false
set_option linter.unusedSectionVars false
open Go.RowKit Pl
attribute [local irreducible] z0t z0u z0y AnsP LeP
theorem z0C {k : Nat} (l : List Lf) : ownE (.row k (lvE l)) := by
 intro e he c hc
 simp only [lvE, List.mem_map] at he
 obtain ⟨x, _, rfl⟩ := he
 simp only [List.mem_cons, List.not_mem_nil, or_false] at hc
 rcases hc with rfl | rfl <;> trivial
end Go.Proofs.YtgmbkbggnlponaaGreatDoor
namespace Go.Proofs.YtgmbkbggnlponaaGreatDoor
set_option linter.unusedVariables false
set_option linter.unusedSimpArgs false
set_option linter.unusedSectionVars false
open Go.RowKit Pl
end Go.Proofs.YtgmbkbggnlponaaGreatDoor
namespace Go.Proofs.YtgmbkbggnlponaaGreatDoor
set_option linter.unusedVariables false
set_option linter.unusedSimpArgs false
set_option linter.unusedSectionVars false
open Pl
abbrev Fl := Bs × Bs × Int
def unf (f : Bs) : Nat → Nat → List Bs × Nat
 | 0, p => ([], p)
 | k + 1, p => match z0G f p with
   | none => ([], p)
   | some (n, q) => if 1 ≤ n ∧ n ≤ 9000 ∧ n + 4 ≤ f.length - q ∧ (f.drop q).take 4 = zeI (zeH ((f.drop (q + 4)).take n)) then
      (((f.drop (q + 4)).take n) :: (unf f k (q + 4 + n)).1, (unf f k (q + 4 + n)).2)
     else ([], p)
def UfAt (R : List Bs × Nat) (f : Bs) (k : Nat) (l : List Bs) (p : Nat) : Prop := R = (l ++ (unf f k p).1, (unf f k p).2)
theorem UfAt.stop {R : List Bs × Nat} {f : Bs} {k : Nat} {l : List Bs} {p : Nat} (h : UfAt R f (k + 1) l p) (hr : z0G f p = none) : R = (l, p) := by
 rw [h, unf, hr]; simp
theorem UfAt.bad {R : List Bs × Nat} {f : Bs} {k : Nat} {l : List Bs} {p n q : Nat} (h : UfAt R f (k + 1) l p) (hr : z0G f p = some (n, q))
 (hn : ¬ (1 ≤ n ∧ n ≤ 9000 ∧ n + 4 ≤ f.length - q ∧ (f.drop q).take 4 = zeI (zeH ((f.drop (q + 4)).take n)))) : R = (l, p) := by
 rw [h, unf, hr]; simp only; rw [if_neg hn]; simp
theorem UfAt.step {R : List Bs × Nat} {f : Bs} {k : Nat} {l : List Bs} {p n q : Nat} (h : UfAt R f (k + 1) l p) (hr : z0G f p = some (n, q))
 (hn : 1 ≤ n ∧ n ≤ 9000 ∧ n + 4 ≤ f.length - q ∧ (f.drop q).take 4 = zeI (zeH ((f.drop (q + 4)).take n))) : UfAt R f k (l ++ [(f.drop (q + 4)).take n]) (q + 4 + n) := by
 unfold UfAt at h ⊢
 rw [h, unf, hr]; simp only; rw [if_pos hn]; simp
structure Sv where
 ep : Nat
 vs : List (List Lf)
 tk : List Nat
 al : List Ch
 re : Nat
 rt : Nat
 rk : Nat
inductive Rk where
 | no | all (u : Ch) | rdy (e y k : Nat) | com
structure SvOk (n : Nat) (s : Sv) : Prop where
 ep : s.ep ≤ 4
 vl : s.vs.length = s.ep + 1
 tl : s.tk.length = s.ep + 1
 al : s.al.length ≤ n
 tb : ∀ x ∈ s.tk, x ≤ s.al.length
 ch : ∀ u ∈ s.al, zgf u.1 u.2.1 u.2.2 = true
 re : s.re = 0 ∨ s.re = s.ep + 1
 r4 : s.re ≤ 4
 rt : s.rt ≤ 1000
 rk : s.rk ≤ s.al.length
 vo : ∀ v ∈ s.vs, leavesOk v = true
end Go.Proofs.YtgmbkbggnlponaaGreatDoor
