/- The types that the code names. -/
import Derived.Test.YtkgfidphcpklhaaDoorV21
import Derived.Test.YtkgfidphcpklhaaDoorWa
set_option linter.unusedSimpArgs false
namespace Go.Proofs.YtkgfidphcpklhaaDoor
open Go.RowKit Pl
set_option linter.unusedVariables false

def tyInt : Ty := ⟨1, 8, [.int .i64 0], .int .i64, false⟩
def tySl (e : TypeId) : Ty := ⟨1, 24, [.val nilV], .slice e, false⟩
def ttL : List (Nat × Ty) := [
  (4, ⟨1, 1, [.bool false], .bool, false⟩),
  (9, ⟨1, 16, [.str []], .string, false⟩),
  (5, ⟨1, 1, [.int .u8 0], .int .u8, false⟩),
  (22, tySl 5),
  (42, tySl 9),
  (91, tySl 3),
  (32, ⟨3, 40, [.int .i64 0, .str [], .str []], .struct [(0, 3), (1, 9), (2, 9)], true⟩),
  (80, ⟨3, 40, [.val nilV, .int .i64 0, .int .i64 0], .struct [(0, 22), (1, 3), (2, 3)], false⟩),
  (118, ⟨1, 4, [.int .u32 0], .int .u32, false⟩),
  (94, ⟨1, 8, [.int .u64 0], .int .u64, false⟩),
  (3, tyInt)]
def tt : TT := lk ttL
set_option maxRecDepth 100000 in
set_option maxHeartbeats 4000000 in
theorem tt_all : ∀ p ∈ ttL, TyOk Tryd.prog p.1 p.2 := by
  simp only [ttL, List.forall_mem_cons]
  repeat' (refine And.intro ?_ ?_)
  all_goals first
    | exact (fun _ h => by cases h)
    | exact ⟨⟨_, _, rfl, rfl, rfl, rfl, rfl⟩, ⟨_, rfl, rfl⟩, rfl, rfl, fun h => (Bool.false_ne_true h).elim⟩
    | (refine ⟨⟨_, _, rfl, rfl, rfl, rfl, rfl⟩, ⟨_, rfl, rfl⟩, rfl, rfl, fun _ => ⟨by kernel_rfl, by kernel_rfl, _, rfl, flatN_of ?_⟩⟩
       repeat (first | exact rfl | (refine And.intro (by decide) (And.intro rfl (And.intro rfl ?_)))))
theorem tt_ok : TtOk Tryd.prog tt := fun t y h => tt_all (t, y) (lk_mem h)
end Go.Proofs.YtkgfidphcpklhaaDoor
