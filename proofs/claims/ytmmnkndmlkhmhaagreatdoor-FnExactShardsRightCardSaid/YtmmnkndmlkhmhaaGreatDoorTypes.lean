/- The types that the code names. -/
import Derived.Test.YtmmnkndmlkhmhaaGreatDoorV21
import Derived.Test.YtmmnkndmlkhmhaaGreatDoorWa
namespace Go.Proofs.YtmmnkndmlkhmhaaGreatDoor
open Go.RowKit Pl
set_option linter.unusedVariables false
set_option linter.unusedSimpArgs false

def tyInt : Ty := ⟨1, 8, [.int .i64 0], .int .i64, false⟩
def tySl (e : TypeId) : Ty := ⟨1, 24, [.val nilV], .slice e, false⟩
def ttL : List (Nat × Ty) := [
  (4, ⟨1, 1, [.bool false], .bool, false⟩),
  (9, ⟨1, 16, [.str []], .string, false⟩),
  (5, ⟨1, 1, [.int .u8 0], .int .u8, false⟩),
  (137, ⟨2, 32, [.str [], .str []], .struct [(0, 9), (1, 9)], true⟩),
  (24, tySl 137),
  (22, tySl 5),
  (26, tySl 9),
  (28, tySl 3),
  (242, ⟨3, 40, [.int .i64 0, .str [], .str []], .struct [(0, 3), (1, 9), (2, 9)], true⟩),
  (57, tySl 242),
  (256, ⟨6, 56, [.int .i64 0, .int .i64 0, .int .i64 0, .int .i64 0, .int .i64 0, .str []], .struct [(0, 3), (1, 3), (2, 3), (3, 3), (4, 3), (5, 9)], true⟩),
  (67, ⟨2, 48, [.val nilV, .val nilV], .struct [(0, 24), (1, 26)], false⟩),
  (143, ⟨3, 32, [.str [], .int .i64 0, .bool false], .struct [(0, 9), (1, 3), (2, 4)], false⟩),
  (331, ⟨3, 32, [.str [], .int .i64 0, .bool false], .struct [(0, 9), (1, 3), (2, 4)], false⟩),
  (219, ⟨3, 40, [.val nilV, .int .i64 0, .int .i64 0], .struct [(0, 22), (1, 3), (2, 3)], false⟩),
  (261, ⟨1, 4, [.int .u32 0], .int .u32, false⟩),
  (156, ⟨1, 8, [.int .u64 0], .int .u64, false⟩),
  (3, tyInt)]
def tt : TT := lk ttL
set_option maxRecDepth 100000 in
set_option maxHeartbeats 4000000 in
theorem tt_all : ∀ p ∈ ttL, TyOk Tryz.prog p.1 p.2 := by
  simp only [ttL, List.forall_mem_cons]
  repeat' (refine And.intro ?_ ?_)
  all_goals first
    | exact (fun _ h => by cases h)
    | exact ⟨⟨_, _, rfl, rfl, rfl, rfl, rfl⟩, ⟨_, rfl, rfl⟩, rfl, rfl, fun h => (Bool.false_ne_true h).elim⟩
    | (refine ⟨⟨_, _, rfl, rfl, rfl, rfl, rfl⟩, ⟨_, rfl, rfl⟩, rfl, rfl, fun _ => ⟨by kernel_rfl, by kernel_rfl, _, rfl, ?_⟩⟩
       repeat (first | exact rfl | (refine And.intro (by decide) (And.intro rfl (And.intro rfl ?_)))))
theorem tt_ok : TtOk Tryz.prog tt := fun t y h => tt_all (t, y) (lk_mem h)
end Go.Proofs.YtmmnkndmlkhmhaaGreatDoor
