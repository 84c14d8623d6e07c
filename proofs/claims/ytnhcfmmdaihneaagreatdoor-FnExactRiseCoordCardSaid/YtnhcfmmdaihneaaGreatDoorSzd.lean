/- Functions by content: lists that are compared; whether a shard is as its disk tells. Functions by content: whether a shard is as its disk tells, by the program and by the reference. What fits a shape is a list of files, of entries, of numbers, of changes. -/
import Derived.Test.YtnhcfmmdaihneaaGreatDoorSxy
namespace Go.Proofs.YtnhcfmmdaihneaaGreatDoor
set_option linter.unusedVariables false
set_option linter.unusedSimpArgs false
set_option linter.unusedSectionVars false
open Go.RowKit Pl
attribute [local irreducible] z0w z0x z0A AnsP LeP
end Go.Proofs.YtnhcfmmdaihneaaGreatDoor
namespace Go.Proofs.YtnhcfmmdaihneaaGreatDoor
set_option linter.unusedVariables false
set_option linter.unusedSimpArgs false
set_option linter.unusedSectionVars false
open Go.RowKit Pl
attribute [local irreducible] z0w z0x z0A AnsP LeP
end Go.Proofs.YtnhcfmmdaihneaaGreatDoor
namespace Go.Proofs.YtnhcfmmdaihneaaGreatDoor
set_option linter.unusedVariables false
set_option linter.unusedSimpArgs false
set_option linter.unusedSectionVars false
open Go.RowKit Pl
theorem z6x {α : Type} (enc : α → List T) (R : α → Prop) : ∀ (z : List (List T)), (∀ e ∈ z, ∃ x, e = enc x ∧ R x) → ∃ l : List α, z = l.map enc ∧ ∀ x ∈ l, R x
 | [], _ => ⟨[], rfl, fun x h => by cases h⟩
 | e :: z, h => by
   obtain ⟨x, hx, hr⟩ := h e (by simp)
   obtain ⟨l, hl, hs⟩ := z6x enc R z fun e he => h e (List.mem_cons_of_mem _ he)
   refine ⟨x :: l, by rw [hx, hl]; rfl, fun y hy => ?_⟩
   rcases List.mem_cons.1 hy with rfl | hy
   ·exact hr
   ·exact hs y hy
theorem zk2 {N : Nat} {z : List (List T)} (h : ∀ e ∈ z, Fits N z0D e) : ∃ l : List Fl, z = flE l ∧ ∀ x ∈ l, x.1.length ≤ N ∧ x.2.1.length ≤ N :=
 z6x (fun f : Fl => [.str f.1, .str f.2.1, .int .i64 f.2.2]) (fun x => x.1.length ≤ N ∧ x.2.1.length ≤ N) z fun e he => by
  obtain ⟨s0, s1, n2, rfl, q0, q1, q2, -⟩ := z1W (h e he)
  exact ⟨(s0, s1, n2), rfl, q0, q1⟩
theorem zk3 {N : Nat} {l : List Fl} (hN : (N : Int) ≤ 100000000) (h : l.length ≤ N) (hx : ∀ x ∈ l, x.1.length ≤ N ∧ x.2.1.length ≤ N) : z2T l := by
 refine ⟨by omega, fun k => ?_⟩
 rcases Nat.lt_or_ge k l.length with hk | hk
 ·rw [zgx hk]
  have := hx _ (List.getElem_mem hk)
  omega
 ·simp [flAt, List.getD, List.getElem?_eq_none hk]
end Go.Proofs.YtnhcfmmdaihneaaGreatDoor
