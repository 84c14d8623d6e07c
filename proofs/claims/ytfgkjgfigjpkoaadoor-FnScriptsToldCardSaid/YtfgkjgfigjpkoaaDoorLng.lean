/- Functions by content: one byte many times. -/
import Derived.Test.YtfgkjgfigjpkoaaDoorFc
namespace Go.Proofs.YtfgkjgfigjpkoaaDoor
set_option linter.unusedVariables false
set_option linter.unusedSimpArgs false
set_option linter.unusedSectionVars false
open Go.RowKit Pl
attribute [local irreducible] z0t z0u z0C AnsP LeP
theorem bsetS (l : Bs) (i : Nat) (b : UInt8) : (z0n l).set i [.int .u8 (b.toNat : Int)] = z0n (l.set i b) := by simp [z0n, z4e, List.map_set]
theorem bgetS {c : Bs} {i : Nat} (h : i < c.length) : (z0n c)[i]? = some [.int .u8 ((c.getD i 0).toNat : Int)] := by
 simp [z0n, z4e, List.getD, List.getElem?_eq_getElem h]
set_option maxRecDepth 100000 in
set_option maxHeartbeats 1000000 in
theorem z9f (n : Nat) (x : UInt8) (hn : (n : Int) ≤ 100000) : CT Tryd.prog 25 [] [.int .i64 (n : Int), .int .u8 (x.toNat : Int)] (.str (List.replicate n x)) [] := by
 refine z0d z13 1 rfl Tryd.func25 rfl rfl rfl ?_
 repeat ((try conv => whnf); first | (refine Exists.intro n (And.intro rfl ?_)) | (refine And.intro (by kernel_rfl) ?_) | (refine stpQ ?_))
 refine z0A 0 ⟨[(5, .ref 1)], [(1, some (.row 1 (z0n (List.replicate n x))))], 2⟩ Nat (fun i => ⟨[(0, .int .i64 (n : Int)), (1, .int .u8 (x.toNat : Int)), (5, .ref 1), (6, .int .i64 (i : Int))], [(1, some (.row 1 (z0n (List.replicate i x ++ List.replicate (n - i) 0))))], 2⟩) (fun i => i ≤ n) (fun i => n - i) 0 (by omega) ?_ ?_ ?_
 ·(refine z0a (by rfl) ?_ ?_) <;> (repeat' (first | (exact eqA) | (refine And.intro ?_ ?_) | ((fail_if_success (with_reducible (show _ = _))); (show _ = _))))
  simp [z0n, z4e]
 ·intro i hi
  by_cases hlt : i < n
  ·have hs : List.replicate (n - i) (0 : UInt8) = 0 :: List.replicate (n - (i + 1)) 0 := by rw [show n - i = (n - (i + 1)) + 1 by omega, List.replicate_succ]
   have hlen : (z0n (List.replicate i x ++ List.replicate (n - i) 0)).length = n := by rw [z0J]; simp; omega
   have hset : (List.replicate i x ++ List.replicate (n - i) (0 : UInt8)).set i x = List.replicate (i + 1) x ++ List.replicate (n - (i + 1)) 0 := by
    rw [hs, List.set_append, if_neg (by simp), List.length_replicate, Nat.sub_self, List.set_cons_zero, List.replicate_succ']; simp
   have hst := bsetS (List.replicate i x ++ List.replicate (n - i) 0) i x
   rw [hset] at hst
   generalize ho : List.replicate i x ++ List.replicate (n - i) (0 : UInt8) = o at hlen hst ⊢
   have g0 := bgetS (c := o) (i := i) (by rw [← ho]; simp; omega)
   repeat ((try conv => whnf); first | (refine i_lt (by omega) ?_) | (refine Exists.intro _ (And.intro g0 ?_)) | (refine And.intro (by kernel_rfl) ?_) | (refine stpQ ?_))
   refine ⟨i + 1, by omega, by omega, ?_⟩
   rw [← hst]
   (refine z0a (by rfl) ?_ ?_) <;> (repeat' (first | (exact eqA) | (refine And.intro ?_ ?_) | ((fail_if_success (with_reducible (show _ = _))); (show _ = _)))) <;> rfl
  ·have hin : i = n := by omega
   rw [hin]
   repeat ((try conv => whnf); first | (refine And.intro (by kernel_rfl) ?_) | (refine stpQ ?_))
   (refine z0a (by rfl) ?_ ?_) <;> (repeat' (first | (exact eqA) | (refine And.intro ?_ ?_) | ((fail_if_success (with_reducible (show _ = _))); (show _ = _))))
   simp
 ·generalize List.replicate n x = o
  repeat ((try conv => whnf); first | (refine Exists.intro o (And.intro rfl ?_)) | (refine And.intro (by kernel_rfl) ?_) | (refine stpQ ?_))
  (refine z09 (by rfl) ?_ ?_ (by rfl)) <;> (repeat' (first | (exact eqA) | (refine And.intro ?_ ?_) | ((fail_if_success (with_reducible (show _ = _))); (show _ = _))))
end Go.Proofs.YtfgkjgfigjpkoaaDoor
