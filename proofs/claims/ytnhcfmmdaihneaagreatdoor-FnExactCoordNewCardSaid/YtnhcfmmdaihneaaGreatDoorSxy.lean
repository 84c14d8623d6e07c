/- Functions by content: the reference's shard applies a record. Functions by content: a shard is made from its disk, by the program and by the reference. -/
import Derived.Test.YtnhcfmmdaihneaaGreatDoorSvw
namespace Go.Proofs.YtnhcfmmdaihneaaGreatDoor
set_option linter.unusedVariables false
set_option linter.unusedSimpArgs false
set_option linter.unusedSectionVars false
open Go.RowKit Pl
attribute [local irreducible] z0w z0x z0A AnsP LeP
theorem u8_i64 (b : UInt8) : IntKind.i64.wrap ((b.toNat : Nat) : Int) = ((b.toNat : Nat) : Int) := by have := b.toNat_lt; rw [z0J (by omega) (by omega)]
set_option maxRecDepth 100000 in
set_option maxHeartbeats 1000000 in
theorem z9t (b : UInt8) (r : Bs) (h : (r.length : Int) ≤ 100000000) : CT Tryz.prog 176 [.box [.str (b :: r), .int .i64 0, .bool false]] [.ptr 1 0 0] (.int .i64 ((b.toNat : Nat) : Int)) [.box [.str (b :: r), .int .i64 1, .bool false]] := by
 have h0 : 0 < (b :: r).length := by simp
 have hl : ¬ (0 : Int) ≥ ((b :: r).length : Int) := by have : (b :: r).length = r.length + 1 := rfl; omega
 have e1 := u8_i64 b
 refine z01 z03 2 rfl Tryz.func176 rfl rfl rfl ?_
 repeat ((try conv => whnf); first | (refine z0j hl ?_) | (refine Exists.intro 0 (And.intro rfl (And.intro h0 ?_))) | (refine Exists.intro _ (And.intro e1.symm ?_)) | (refine And.intro (by kernel_rfl) ?_) | (refine stpQ ?_))
 (refine z00 (by rfl) ?_ ?_ (by rfl)) <;> (repeat' (first | (exact eqA) | (refine And.intro ?_ ?_) | ((fail_if_success (with_reducible (show _ = _))); (show _ = _))))
end Go.Proofs.YtnhcfmmdaihneaaGreatDoor
namespace Go.Proofs.YtnhcfmmdaihneaaGreatDoor
set_option linter.unusedVariables false
set_option linter.unusedSimpArgs false
set_option linter.unusedSectionVars false
open Go.RowKit Pl
attribute [local irreducible] z0w z0x z0A AnsP LeP
theorem z67 {ps : List Bs} {k : Nat} (h : k < ps.length) : (strE ps)[k]? = some [.str ps[k]] := by simp [strE, List.getElem?_eq_getElem h]
end Go.Proofs.YtnhcfmmdaihneaaGreatDoor
