/- Functions by content: a coordinator is made from its disk; its rows are told as rows that may be moved. -/
import Derived.Test.YtnhcfmmdaihneaaGreatDoorVd
import Derived.Test.YtnhcfmmdaihneaaGreatDoorCk
import Derived.Test.YtnhcfmmdaihneaaGreatDoorCdb
namespace Go.Proofs.YtnhcfmmdaihneaaGreatDoor
set_option linter.unusedVariables false
set_option linter.unusedSimpArgs false
set_option linter.unusedSectionVars false
open Go.RowKit Pl
attribute [local irreducible] z0w z0x z0A AnsP LeP CvE
theorem zjf {k : Nat} (h : k ≤ 2) : IntKind.i64.wrap (1 * 2 ^ ((k : Nat) : Int).toNat) = ((2 ^ k : Nat) : Int) ∧ 2 ^ k ≤ 4 := by
 rw [Int.toNat_natCast]
 rcases (show k = 0 ∨ k = 1 ∨ k = 2 by omega) with rfl | rfl | rfl <;> exact ⟨by decide, by decide⟩
theorem zhy (n : Nat) : ∀ e ∈ List.replicate n ([.str []] : List T), ∀ c ∈ e, cl0 c := fun e he c hc => by
 rw [(List.mem_replicate.1 he).2, List.mem_singleton] at hc
 subst hc; trivial
theorem zhz (n : Nat) : ∀ e ∈ List.replicate n ([.bool false] : List T), ∀ c ∈ e, cl0 c := fun e he c hc => by
 rw [(List.mem_replicate.1 he).2, List.mem_singleton] at hc
 subst hc; trivial
theorem z3Y (l : List Bs) (h : (l.length : Int) ≤ 100000000) : CT Tryz.prog 135 [] [.sl 1 (strE l)] (.ref 1) [.row 1 (strE l)] := by
 have hl := z0m l
 refine z01 z03 1 rfl Tryz.func135 rfl rfl rfl ?_
 repeat ((try conv => whnf); first | (refine And.intro (by simp only [List.length_append, List.length_cons, List.length_nil, List.nil_append, List.length_replicate, List.length_set]; omega) ?_) | (refine And.intro (by kernel_rfl) ?_) | (refine stpQ ?_))
 (refine z00 (by rfl) ?_ ?_ (by rfl)) <;> (repeat' (first | (exact eqA) | (refine And.intro ?_ ?_) | ((fail_if_success (with_reducible (show _ = _))); (show _ = _))))
end Go.Proofs.YtnhcfmmdaihneaaGreatDoor
