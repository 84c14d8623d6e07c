/- Functions by content: shards, what they make of a record. Functions by content: a shard commits, applies a record, is made from its disk. Functions by content: the reference's shard applies a record. Functions by content: a shard is made from its disk, by the program and by the reference. Functions by content: lists that are compared; whether a shard is as its disk tells. Functions by content: whether a shard is as its disk tells, by the program and by the reference. What fits a shape is a list of files, of entries, of numbers, of changes. Functions by content: what makes the shards of a house right. -/
import Derived.Test.YtkjjacndfieeoaaGreatDoorLgu
import Derived.Test.YtkjjacndfieeoaaGreatDoorCap
import Derived.Test.YtkjjacndfieeoaaGreatDoorHb
import Derived.Test.YtkjjacndfieeoaaGreatDoorVd
namespace Go.Proofs.YtkjjacndfieeoaaGreatDoor
set_option linter.unusedVariables false
set_option linter.unusedSimpArgs false
set_option linter.unusedSectionVars false
open Go.RowKit Pl
attribute [local irreducible] z0m z0n z0q AnsP LeP
def ntE (l : List Nat) : List (List T) := l.map fun n : Nat => [.int .i64 (n : Int)]
theorem z7A (l : List Nat) : (ntE l).length = l.length := by simp [ntE]
theorem zhP (a b : List Nat) : ntE (a ++ b) = ntE a ++ ntE b := by simp [ntE]
theorem zhQ {l : List Nat} {k : Nat} (h : k < l.length) : (ntE l)[k]? = some [.int .i64 ((l[k] : Nat) : Int)] := by simp [ntE, List.getElem?_eq_getElem h]
end Go.Proofs.YtkjjacndfieeoaaGreatDoor
namespace Go.Proofs.YtkjjacndfieeoaaGreatDoor
set_option linter.unusedVariables false
set_option linter.unusedSimpArgs false
set_option linter.unusedSectionVars false
open Go.RowKit Pl
attribute [local irreducible] z0m z0n z0q AnsP LeP
end Go.Proofs.YtkjjacndfieeoaaGreatDoor
namespace Go.Proofs.YtkjjacndfieeoaaGreatDoor
set_option linter.unusedVariables false
set_option linter.unusedSimpArgs false
set_option linter.unusedSectionVars false
open Go.RowKit Pl
attribute [local irreducible] z0m z0n z0q AnsP LeP
end Go.Proofs.YtkjjacndfieeoaaGreatDoor
namespace Go.Proofs.YtkjjacndfieeoaaGreatDoor
set_option linter.unusedVariables false
set_option linter.unusedSimpArgs false
set_option linter.unusedSectionVars false
open Go.RowKit Pl
attribute [local irreducible] z0m z0n z0q AnsP LeP
set_option maxRecDepth 100000 in
set_option maxHeartbeats 1000000 in
theorem zdn (l : List Fl) (h : (l.length : Int) ≤ 100000000) : CT Tryz.prog 65 [] [.agg [.sl 3 (flE l)]] (.agg [.sl 3 (flE l)]) [] := by
 have hl := z2j l
 refine z01 z0f 1 rfl Tryz.func65 rfl rfl rfl ?_
 repeat ((try conv => whnf); first | (refine And.intro (by simp only [List.length_append, List.length_cons, List.length_nil, List.nil_append, List.length_replicate]; omega) ?_) | (refine And.intro (by kernel_rfl) ?_) | (refine stpQ ?_))
 (refine z00 (by rfl) ?_ ?_ (by rfl)) <;> (repeat' (first | (exact eqA) | (refine And.intro ?_ ?_) | ((fail_if_success (with_reducible (show _ = _))); (show _ = _))))
theorem sE_get {ps : List Bs} {k : Nat} (h : k < ps.length) : (strE ps)[k]? = some [.str ps[k]] := by simp [strE, List.getElem?_eq_getElem h]
end Go.Proofs.YtkjjacndfieeoaaGreatDoor
namespace Go.Proofs.YtkjjacndfieeoaaGreatDoor
set_option linter.unusedVariables false
set_option linter.unusedSimpArgs false
set_option linter.unusedSectionVars false
open Go.RowKit Pl
attribute [local irreducible] z0m z0n z0q AnsP LeP
def isE (l : List Int) : List (List T) := l.map fun n : Int => [.int .i64 n]
theorem zhR (l : List Int) : (isE l).length = l.length := by simp [isE]
def isAt (l : List Int) (k : Nat) : Int := l.getD k 0
theorem is_at {l : List Int} {k : Nat} (h : k < l.length) : isAt l k = l[k] := by simp [isAt, List.getD, List.getElem?_eq_getElem h]
theorem zhS {l : List Int} {k : Nat} (h : k < l.length) : (isE l)[k]? = some [.int .i64 (isAt l k)] := by rw [is_at h]; simp [isE, List.getElem?_eq_getElem h]
theorem zfh (l : List Int) (k : Nat) (h : k < l.length) : l.take (k + 1) = l.take k ++ [isAt l k] := by rw [List.take_add_one, List.getElem?_eq_getElem h, is_at h]; rfl
theorem ntE_is (l : List Nat) : ntE l = isE (l.map fun n : Nat => (n : Int)) := by simp [ntE, isE]
set_option maxRecDepth 100000 in
set_option maxHeartbeats 1000000 in
theorem zaS (l m : List Int) (hl : (l.length : Int) ≤ 100000000) (hm : (m.length : Int) ≤ 100000000) : CT Tryz.prog 39 [] [.sl 1 (isE l), .sl 1 (isE m)] (.bool (decide (l = m))) [] := by
 have h1 := zhR l
 have h2 := zhR m
 refine z01 z0f 1 rfl Tryz.func39 rfl rfl rfl ?_
 repeat ((try conv => whnf); first | (refine stpQ ?_))
 ((try conv => whnf); first | (refine cb_d (fun h => ?_) (fun h => ?_)) | (refine cb_n (fun h => ?_) (fun h => ?_)) | (refine cb (fun h => ?_) (fun h => ?_)))
 ·repeat ((try conv => whnf); first | (refine stpQ ?_))
  (refine z00 (by rfl) ?_ ?_ (by rfl)) <;> repeat' (first | (exact eqA) | (refine And.intro ?_ ?_) | ((fail_if_success (with_reducible (show _ = _))); (show _ = _)))
  have : l ≠ m := fun e => by subst e; exact h rfl
  simp [this]
 ·repeat ((try conv => whnf); first | (refine stpQ ?_))
  have he : l.length = m.length := by omega
  refine z1L Nat (fun k => ⟨[(0, .sl 1 (isE l)), (1, .sl 1 (isE m)), (12, .int .i64 ((isE l).length : Int)), (13, .int .i64 (k : Int))], [], 1⟩) (fun k => k ≤ l.length ∧ l.take k = m.take k) (fun k => l.length - k) 0 ⟨by omega, rfl⟩ ?_ ?_
  ·(refine z02 (by rfl) ?_ ?_) <;> repeat' (first | (exact eqA) | (refine And.intro ?_ ?_) | ((fail_if_success (with_reducible (show _ = _))); (show _ = _)))
  ·intro k hx
   have hk : k ≤ l.length := hx.1
   have hp : l.take k = m.take k := hx.2
   clear hx
   by_cases hk1 : k < l.length
   ·have hk2 : k < m.length := by omega
    have hk3 : (k : Int) < ((isE l).length : Int) := by omega
    repeat ((try conv => whnf); first | (refine i_at (zhS hk1) ?_) | (refine i_at (zhS hk2) ?_) | (refine stpQ ?_))
    ((try conv => whnf); first | (refine cb_d (fun h => ?_) (fun h => ?_)) | (refine cb_n (fun h => ?_) (fun h => ?_)) | (refine cb (fun h => ?_) (fun h => ?_)))
    ·have hne : isAt l k ≠ isAt m k := h
     repeat ((try conv => whnf); first | (refine stpQ ?_))
     (refine z00 (by rfl) ?_ ?_ (by rfl)) <;> repeat' (first | (exact eqA) | (refine And.intro ?_ ?_) | ((fail_if_success (with_reducible (show _ = _))); (show _ = _)))
     have : l ≠ m := fun e => by subst e; exact hne rfl
     simp [this]
    ·have heq : isAt l k = isAt m k := by first | exact h | exact Classical.not_not.1 h
     repeat ((try conv => whnf); first | (refine stpQ ?_))
     refine ⟨k + 1, ⟨by omega, ?_⟩, by omega, ?_⟩
     ·rw [zfh l k hk1, zfh m k hk2, hp, heq]
     ·(refine z02 (by rfl) ?_ ?_) <;> repeat' (first | (exact eqA) | (refine And.intro ?_ ?_) | ((fail_if_success (with_reducible (show _ = _))); (show _ = _)))
   ·obtain rfl : k = l.length := by omega
    have hlm : l = m := by
     rw [List.take_length] at hp
     rw [hp, he, List.take_length]
    repeat ((try conv => whnf); first | (refine stpQ ?_))
    (refine z00 (by rfl) ?_ ?_ (by rfl)) <;> repeat' (first | (exact eqA) | (refine And.intro ?_ ?_) | ((fail_if_success (with_reducible (show _ = _))); (show _ = _)))
    simp [hlm]
end Go.Proofs.YtkjjacndfieeoaaGreatDoor
namespace Go.Proofs.YtkjjacndfieeoaaGreatDoor
set_option linter.unusedVariables false
set_option linter.unusedSimpArgs false
set_option linter.unusedSectionVars false
open Go.RowKit Pl
attribute [local irreducible] z0m z0n z0q AnsP LeP
def tkI (l : List Nat) : List Int := l.map fun n : Nat => (n : Int)
theorem ziJ (l : List Nat) : (tkI l).length = l.length := by simp [tkI]
end Go.Proofs.YtkjjacndfieeoaaGreatDoor
namespace Go.Proofs.YtkjjacndfieeoaaGreatDoor
set_option linter.unusedVariables false
set_option linter.unusedSimpArgs false
set_option linter.unusedSectionVars false
open Go.RowKit Pl
end Go.Proofs.YtkjjacndfieeoaaGreatDoor
namespace Go.Proofs.YtkjjacndfieeoaaGreatDoor
set_option linter.unusedVariables false
set_option linter.unusedSimpArgs false
set_option linter.unusedSectionVars false
open Go.RowKit Pl
def cI (e : List T) (j : Nat) : Int := match e[j]? with
 | some (.int _ n) => n
 | _ => 0
def allB (p : Nat → Bool) (n : Nat) : Bool := (List.range n).all p
theorem zjg {p : Nat → Bool} {n k : Nat} (h : k < n) (hp : p k = false) : allB p n = false := by
 unfold allB
 rw [List.all_eq_false]
 exact ⟨k, List.mem_range.2 h, by simp [hp]⟩
theorem zcL {p : Nat → Bool} {n : Nat} (h : ∀ k, k < n → p k = true) : allB p n = true := List.all_eq_true.2 fun k hk => h k (List.mem_range.1 hk)
end Go.Proofs.YtkjjacndfieeoaaGreatDoor
