/- The types of acts and letters. -/
import Derived.Test.YtkjjacndfieeoaaGreatDoorXt
import Derived.Test.YtkjjacndfieeoaaGreatDoorVe
namespace Go.Proofs.YtkjjacndfieeoaaGreatDoor
set_option linter.unusedVariables false
set_option linter.unusedSimpArgs false
set_option linter.unusedSectionVars false
open Go.RowKit Pl
def exA : List (Nat × Ty) := [
 (157, ⟨4, 56, [.int .i64 0, .str [], .str [], .str []], .struct [(0, 3), (1, 9), (2, 9), (3, 9)], true⟩),
 (45, ⟨6, 56, [.int .i64 0, .int .i64 0, .int .i64 0, .int .i64 0, .int .i64 0, .str []], .struct [(0, 3), (1, 3), (2, 3), (3, 3), (4, 3), (5, 9)], true⟩),
 (130, tySl 157),
 (37, tySl 45),
 (3, zgK)]
set_option maxRecDepth 100000 in
set_option maxHeartbeats 8000000 in
theorem ziK : ∀ p ∈ exA, TyOk Tryz.prog p.1 p.2 := by
 simp only [exA, List.forall_mem_cons]
 repeat' (refine And.intro ?_ ?_)
 all_goals first
  | exact (fun _ h => by cases h)
  | exact ⟨⟨_, _, rfl, rfl, rfl, rfl, rfl⟩, ⟨_, rfl, rfl⟩, rfl, rfl, fun h => (Bool.false_ne_true h).elim⟩
  | (refine ⟨⟨_, _, rfl, rfl, rfl, rfl, rfl⟩, ⟨_, rfl, rfl⟩, rfl, rfl, fun _ => ⟨by kernel_rfl, by kernel_rfl, _, rfl, z5e ?_⟩⟩
     repeat (first | exact rfl | (refine And.intro (by decide) (And.intro rfl (And.intro rfl ?_)))))
def ttLA : List (Nat × Ty) := ttLE ++ exA
def ttA : TT := lk ttLA
theorem z0r : TtOk Tryz.prog ttA := fun t y h => by
 have hm : (t, y) ∈ ttLA := z1o h
 rcases List.mem_append.1 hm with h | h
 ·rcases List.mem_append.1 h with h | h
  ·exact z9r (t, y) h
  ·exact zeW (t, y) h
 ·exact ziK (t, y) h
end Go.Proofs.YtkjjacndfieeoaaGreatDoor
