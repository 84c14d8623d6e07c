/- Functions by content: the hash of a shard. -/
import Derived.Test.YtfjbinbpgdiafaaGreatDoorVd
import Derived.Test.YtfjbinbpgdiafaaGreatDoorCsy
import Derived.Test.YtfjbinbpgdiafaaGreatDoorSzd
namespace Go.Proofs.YtfjbinbpgdiafaaGreatDoor
set_option maxRecDepth 100000
set_option maxHeartbeats 4000000
set_option linter.unusedVariables false
set_option linter.unusedSimpArgs false
set_option linter.unusedSectionVars false
open Go.RowKit Pl
section
attribute [local irreducible] z0r z0s z0z AnsP LeP
theorem zhh {k p : Nat} (hk : k ≤ 2) (hp : p < 2 ^ k) : (p : Int) ≤ 2 ^ k - 1 := by
 rcases (show k = 0 ∨ k = 1 ∨ k = 2 by omega) with rfl | rfl | rfl
 ·have : p < 1 := hp
  have e : (2 : Int) ^ 0 = 1 := rfl
  omega
 ·have : p < 2 := hp
  have e : (2 : Int) ^ 1 = 2 := rfl
  omega
 ·have : p < 4 := hp
  have e : (2 : Int) ^ 2 = 4 := rfl
  omega
theorem z98 (l : List Lf) (k p : Nat) (h : z0b l = true) (hk : k ≤ 2) (hp : p < 2 ^ k) : CT Tryz.prog 45 [] [.sl 2 (lvE l), .int .i64 (k : Int), .int .i64 (p : Int), .int .i64 16] (.str (z0A l 16 (8 - k) p)) [] := by
 have hs := z4j h
 have c1 := z1s l (by omega) hs.2
 rw [h] at c1
 have c2 := z13 (k : Int) 0 8
 rw [z2q (by omega)] at c2
 have hpI := zhh hk hp
 have e1 := shl1 hk
 have e1u : IntKind.u64.wrap ((k : Nat) : Int) = ((k : Nat) : Int) := z4s (by omega)
 have ha1 : ¬ (p : Int) < 0 := by omega
 have ha2 : ¬ (p : Int) ≥ 2 ^ k := by omega
 have c3 : CT Tryz.prog 39 [] [.int .i64 16, .int .i64 1, .int .i64 32] (.bool true) [] := z13 16 1 32
 have c4 := zek l h
 have c5 : CT Tryz.prog 80 [] [.int .i64 16] (.ref 1) [.row 1 (strE (empJ 16 8))] := z96 16 (by omega)
 have c6 : CT Tryz.prog 82 [] [.sl 3 (spE l), .int .i64 (8 - ((8 - k : Nat) : Int)), .int .i64 (p : Int), .int .i64 16, .sl 1 (strE (empJ 16 8))] (.str (z0A l 16 (8 - k) p)) [] := z7W 16 (by omega) (8 - k) p l h (by omega) (by rw [show 8 - (8 - k) = k by omega]; exact hp)
 rw [show (8 : Int) - ((8 - k : Nat) : Int) = (k : Int) by omega] at c6
 generalize z0A l 16 (8 - k) p = R at c6 ⊢
 generalize empJ 16 8 = em at c5 c6
 generalize (2 : Int) ^ k = pk at e1 ha2 hpI
 refine z01 z0p 1 rfl Tryz.func45 rfl rfl rfl ?_
 repeat ((try conv => whnf); first | (refine ccA ([]) (c1) ?_) | (refine ccA ([]) (c2) ?_) | (refine And.intro (show _ ≤ (64 : Int) from by omega) ?_) | (refine Exists.intro _ (And.intro e1.symm ?_)) | (refine Exists.intro _ (And.intro e1u.symm ?_)) | (refine ccA ([]) (c3) ?_) | (refine ccA ([]) (c4) ?_) | (refine ccA ([]) (c5) ?_) | (refine ccA ([]) (c6) ?_) | (refine And.intro (by kernel_rfl) ?_) | (refine stpQ ?_))
 (refine z00 (by rfl) ?_ ?_ (by rfl)) <;> (repeat' (first | (exact eqA) | (refine shE ?_) | (refine And.intro ?_ ?_)))
theorem z4t (l : List Lf) (k p : Nat) (h : z0b l = true) (hk : k ≤ 2) (hp : p < 2 ^ k) : CT Tryz.prog 13 [] [.sl 2 (lvE l), .int .i64 (k : Int), .int .i64 (p : Int), .int .i64 16] (.str (z0A l 16 (8 - k) p)) [] := by
 have c0 := z13 (k : Int) 0 2
 rw [z2q (by omega)] at c0
 have c1 := z98 l k p h hk hp
 generalize z0A l 16 (8 - k) p = R at c1 ⊢
 refine z01 z0p 1 rfl Tryz.func13 rfl rfl rfl ?_
 repeat ((try conv => whnf); first | (refine ccA ([]) (c0) ?_) | (refine ccA ([]) (c1) ?_) | (refine And.intro (by kernel_rfl) ?_) | (refine stpQ ?_))
 (refine z00 (by rfl) ?_ ?_ (by rfl)) <;> (repeat' (first | (exact eqA) | (refine shE ?_) | (refine And.intro ?_ ?_)))
end
end Go.Proofs.YtfjbinbpgdiafaaGreatDoor
