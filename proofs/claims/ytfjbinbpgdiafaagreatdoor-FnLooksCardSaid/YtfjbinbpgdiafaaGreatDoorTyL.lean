/- The types of acts and letters. -/
import Derived.Test.YtfjbinbpgdiafaaGreatDoorXt
import Derived.Test.YtfjbinbpgdiafaaGreatDoorV24
namespace Go.Proofs.YtfjbinbpgdiafaaGreatDoor
set_option linter.unusedVariables false
set_option linter.unusedSimpArgs false
set_option linter.unusedSectionVars false
open Go.RowKit Pl
def exA : List (Nat × Ty) := [
 (192, ⟨4, 56, [.int .i64 0, .str [], .str [], .str []], .struct [(0, 3), (1, 9), (2, 9), (3, 9)], true⟩),
 (140, ⟨6, 56, [.int .i64 0, .int .i64 0, .int .i64 0, .int .i64 0, .int .i64 0, .str []], .struct [(0, 3), (1, 3), (2, 3), (3, 3), (4, 3), (5, 9)], true⟩),
 (204, tySl 192),
 (136, tySl 140),
 (3, zf0)]
set_option maxRecDepth 100000 in
set_option maxHeartbeats 8000000 in
theorem zgO : ∀ p ∈ exA, TyOk Tryz.prog p.1 p.2 := by
 simp only [exA, List.forall_mem_cons]
 repeat' (refine And.intro ?_ ?_)
 all_goals first
  | exact (fun _ h => by cases h)
  | exact ⟨⟨_, _, rfl, rfl, rfl, rfl, rfl⟩, ⟨_, rfl, rfl⟩, rfl, rfl, fun h => (Bool.false_ne_true h).elim⟩
  | (refine ⟨⟨_, _, rfl, rfl, rfl, rfl, rfl⟩, ⟨_, rfl, rfl⟩, rfl, rfl, fun _ => ⟨by kernel_rfl, by kernel_rfl, _, rfl, z7b ?_⟩⟩
     repeat (first | exact rfl | (refine And.intro (by decide) (And.intro rfl (And.intro rfl ?_)))))
def ttLA : List (Nat × Ty) := ttLE ++ exA
def ttA : TT := lk ttLA
theorem z0i : TtOk Tryz.prog ttA := fun t y h => by
 have hm : (t, y) ∈ ttLA := z1x h
 rcases List.mem_append.1 hm with h | h
 ·rcases List.mem_append.1 h with h | h
  ·exact z8x (t, y) h
  ·exact zdw (t, y) h
 ·exact zgO (t, y) h
end Go.Proofs.YtfjbinbpgdiafaaGreatDoor
