/- Functions by content: lists that are compared; whether a shard is as its disk tells. Functions by content: whether a shard is as its disk tells, by the program and by the reference. What fits a shape is a list of files, of entries, of numbers, of changes. -/
import Derived.Test.YthcfalipgnpelaaGreatDoorSxy
namespace Go.Proofs.YthcfalipgnpelaaGreatDoor
set_option maxRecDepth 100000
set_option maxHeartbeats 8000000
set_option linter.unusedVariables false
set_option linter.unusedSimpArgs false
set_option linter.unusedSectionVars false
open Go.RowKit Pl
attribute [local irreducible] z0o z0p z0z AnsP LeP
def isE (l : List Int) : List (List T) := l.map fun n : Int => [.int .i64 n]
theorem z5M (l : List Int) : (isE l).length = l.length := by simp [isE]
def isAt (l : List Int) (k : Nat) : Int := l.getD k 0
theorem is_at {l : List Int} {k : Nat} (h : k < l.length) : isAt l k = l[k] := by simp [isAt, List.getD, List.getElem?_eq_getElem h]
theorem z6v {l : List Int} {k : Nat} (h : k < l.length) : (isE l)[k]? = some [.int .i64 (isAt l k)] := by rw [is_at h]; simp [isE, List.getElem?_eq_getElem h]
theorem z6f (l : List Int) (k : Nat) (h : k < l.length) : l.take (k + 1) = l.take k ++ [isAt l k] := by rw [List.take_add_one, List.getElem?_eq_getElem h, is_at h]; rfl
theorem zbK (l : List Nat) : ntE l = isE (l.map fun n : Nat => (n : Int)) := by simp [ntE, isE]
def vAt (l : List (List Lf)) (k : Nat) : List Lf := l.getD k []
theorem zd1 {l : List (List Lf)} {k : Nat} (h : k < l.length) : vAt l k = l[k] := by simp [vAt, List.getD, List.getElem?_eq_getElem h]
theorem za2 (l : List (List Lf)) (k : Nat) (h : k < l.length) : l.take (k + 1) = l.take k ++ [vAt l k] := by rw [List.take_add_one, List.getElem?_eq_getElem h, zd1 h]; rfl
theorem z4q {l : List (List Lf)} {k : Nat} (h : k < l.length) : (vwE l)[k]? = some [.sl 2 (lvE (vAt l k))] := by rw [zd1 h]; simp [vwE, List.getElem?_eq_getElem h]
theorem vz_get {l : List (List Lf)} {k : Nat} (h : 0 < k) (hk : k < l.length) (z : Bool) : (vwZ z l)[k]? = some [.sl 2 (lvE (vAt l k))] := by
 cases l with
 | nil => simp at hk
 | cons v r =>
   obtain ⟨m, rfl⟩ : ∃ m, k = m + 1 := ⟨k - 1, by omega⟩
   have h1 : m < r.length := by simpa using hk
   have h2 := z4q h1
   simpa [vwZ, vAt] using h2
theorem zm7 {l : List (List Lf)} (h : 0 < l.length) (z : Bool) : (vwZ z l)[0]? = some (bif z then [.val nilV] else [.sl 2 (lvE (vAt l 0))]) := by
 cases l with
 | nil => simp at h
 | cons v r => simp [vwZ, vAt]
theorem z88 (l m : List Int) (hl : (l.length : Int) ≤ 100000000) (hm : (m.length : Int) ≤ 100000000) : CT Tryz.prog 61 [] [.sl 1 (isE l), .sl 1 (isE m)] (.bool (decide (l = m))) [] := by
 have h1 := z5M l
 have h2 := z5M m
 refine z01 z03 1 rfl Tryz.func61 rfl rfl rfl ?_
 repeat ((try conv => whnf); first | (refine stpQ ?_))
 ((try conv => whnf); first | (refine cb_d (fun h => ?_) (fun h => ?_)) | (refine cb_n (fun h => ?_) (fun h => ?_)) | (refine cb (fun h => ?_) (fun h => ?_)))
 ·repeat ((try conv => whnf); first | (refine stpQ ?_))
  (refine z00 (by rfl) ?_ ?_ (by rfl)) <;> repeat' (first | (exact eqA) | (refine And.intro ?_ ?_) | ((fail_if_success (with_reducible (show _ = _))); (show _ = _)))
  have : l ≠ m := fun e => by subst e; exact h rfl
  simp [this]
 ·repeat ((try conv => whnf); first | (refine stpQ ?_))
  have he : l.length = m.length := by omega
  refine z0f Nat (fun k => ⟨[(0, .sl 1 (isE l)), (1, .sl 1 (isE m)), (12, .int .i64 ((isE l).length : Int)), (13, .int .i64 (k : Int))], [], 1⟩) (fun k => k ≤ l.length ∧ l.take k = m.take k) (fun k => l.length - k) 0 ⟨by omega, rfl⟩ ?_ ?_
  ·(refine z02 (by rfl) ?_ ?_) <;> repeat' (first | (exact eqA) | (refine And.intro ?_ ?_) | ((fail_if_success (with_reducible (show _ = _))); (show _ = _)))
  ·intro k hx
   have hk : k ≤ l.length := hx.1
   have hp : l.take k = m.take k := hx.2
   clear hx
   by_cases hk1 : k < l.length
   ·have hk2 : k < m.length := by omega
    have hk3 : (k : Int) < ((isE l).length : Int) := by omega
    repeat ((try conv => whnf); first | (refine i_at (z6v hk1) ?_) | (refine i_at (z6v hk2) ?_) | (refine stpQ ?_))
    ((try conv => whnf); first | (refine cb_d (fun h => ?_) (fun h => ?_)) | (refine cb_n (fun h => ?_) (fun h => ?_)) | (refine cb (fun h => ?_) (fun h => ?_)))
    ·have hne : isAt l k ≠ isAt m k := h
     repeat ((try conv => whnf); first | (refine stpQ ?_))
     (refine z00 (by rfl) ?_ ?_ (by rfl)) <;> repeat' (first | (exact eqA) | (refine And.intro ?_ ?_) | ((fail_if_success (with_reducible (show _ = _))); (show _ = _)))
     have : l ≠ m := fun e => by subst e; exact hne rfl
     simp [this]
    ·have heq : isAt l k = isAt m k := by first | exact h | exact Classical.not_not.1 h
     repeat ((try conv => whnf); first | (refine stpQ ?_))
     refine ⟨k + 1, ⟨by omega, ?_⟩, by omega, ?_⟩
     ·rw [z6f l k hk1, z6f m k hk2, hp, heq]
     ·(refine z02 (by rfl) ?_ ?_) <;> repeat' (first | (exact eqA) | (refine And.intro ?_ ?_) | ((fail_if_success (with_reducible (show _ = _))); (show _ = _)))
   ·obtain rfl : k = l.length := by omega
    have hlm : l = m := by
     rw [List.take_length] at hp
     rw [hp, he, List.take_length]
    repeat ((try conv => whnf); first | (refine stpQ ?_))
    (refine z00 (by rfl) ?_ ?_ (by rfl)) <;> repeat' (first | (exact eqA) | (refine And.intro ?_ ?_) | ((fail_if_success (with_reducible (show _ = _))); (show _ = _)))
    simp [hlm]
theorem z5N (l m : List Lf) (hl : (l.length : Int) ≤ 100000000) (hm : (m.length : Int) ≤ 100000000) : CT Tryz.prog 135 [] [.sl 2 (lvE l), .sl 2 (lvE m)] (.bool (decide (l = m))) [] := by
 have h1 := z0N l
 have h2 := z0N m
 refine z01 z03 1 rfl Tryz.func135 rfl rfl rfl ?_
 repeat ((try conv => whnf); first | (refine stpQ ?_))
 ((try conv => whnf); first | (refine cb_d (fun h => ?_) (fun h => ?_)) | (refine cb_n (fun h => ?_) (fun h => ?_)) | (refine cb (fun h => ?_) (fun h => ?_)))
 ·repeat ((try conv => whnf); first | (refine stpQ ?_))
  (refine z00 (by rfl) ?_ ?_ (by rfl)) <;> repeat' (first | (exact eqA) | (refine And.intro ?_ ?_) | ((fail_if_success (with_reducible (show _ = _))); (show _ = _)))
  have : l ≠ m := fun e => by subst e; exact h rfl
  simp [this]
 ·repeat ((try conv => whnf); first | (refine stpQ ?_))
  have he : l.length = m.length := by omega
  refine z0f Nat (fun k => ⟨[(0, .sl 2 (lvE l)), (1, .sl 2 (lvE m)), (12, .int .i64 ((lvE l).length : Int)), (13, .int .i64 (k : Int))], [], 1⟩) (fun k => k ≤ l.length ∧ l.take k = m.take k) (fun k => l.length - k) 0 ⟨by omega, rfl⟩ ?_ ?_
  ·(refine z02 (by rfl) ?_ ?_) <;> repeat' (first | (exact eqA) | (refine And.intro ?_ ?_) | ((fail_if_success (with_reducible (show _ = _))); (show _ = _)))
  ·intro k hx
   have hk : k ≤ l.length := hx.1
   have hp : l.take k = m.take k := hx.2
   clear hx
   by_cases hk1 : k < l.length
   ·have hk2 : k < m.length := by omega
    have hk3 : (k : Int) < ((lvE l).length : Int) := by omega
    repeat ((try conv => whnf); first | (refine i_at (z1F hk1) ?_) | (refine i_at (z1F hk2) ?_) | (refine stpQ ?_))
    ((try conv => whnf); first | (refine cb_d (fun h => ?_) (fun h => ?_)) | (refine cb_n (fun h => ?_) (fun h => ?_)) | (refine cb (fun h => ?_) (fun h => ?_)))
    ·have hne : lfAt l k ≠ lfAt m k := fun e => by rw [e] at h; simp [eqC] at h
     repeat ((try conv => whnf); first | (refine stpQ ?_))
     (refine z00 (by rfl) ?_ ?_ (by rfl)) <;> repeat' (first | (exact eqA) | (refine And.intro ?_ ?_) | ((fail_if_success (with_reducible (show _ = _))); (show _ = _)))
     have : l ≠ m := fun e => by subst e; exact hne rfl
     simp [this]
    ·have heq : lfAt l k = lfAt m k := by simp [eqC] at h; exact Prod.ext h.1 h.2
     repeat ((try conv => whnf); first | (refine stpQ ?_))
     refine ⟨k + 1, ⟨by omega, ?_⟩, by omega, ?_⟩
     ·rw [z1A l k hk1, z1A m k hk2, hp, heq]
     ·(refine z02 (by rfl) ?_ ?_) <;> repeat' (first | (exact eqA) | (refine And.intro ?_ ?_) | ((fail_if_success (with_reducible (show _ = _))); (show _ = _)))
   ·obtain rfl : k = l.length := by omega
    have hlm : l = m := by
     rw [List.take_length] at hp
     rw [hp, he, List.take_length]
    repeat ((try conv => whnf); first | (refine stpQ ?_))
    (refine z00 (by rfl) ?_ ?_ (by rfl)) <;> repeat' (first | (exact eqA) | (refine And.intro ?_ ?_) | ((fail_if_success (with_reducible (show _ = _))); (show _ = _)))
    simp [hlm]
theorem z8t (l m : List Ch) (hl : (l.length : Int) ≤ 100000000) (hm : (m.length : Int) ≤ 100000000) : CT Tryz.prog 199 [] [.sl 3 (chE l), .sl 3 (chE m)] (.bool (decide (l = m))) [] := by
 have h1 := z2Z l
 have h2 := z2Z m
 refine z01 z03 1 rfl Tryz.func199 rfl rfl rfl ?_
 repeat ((try conv => whnf); first | (refine stpQ ?_))
 ((try conv => whnf); first | (refine cb_d (fun h => ?_) (fun h => ?_)) | (refine cb_n (fun h => ?_) (fun h => ?_)) | (refine cb (fun h => ?_) (fun h => ?_)))
 ·repeat ((try conv => whnf); first | (refine stpQ ?_))
  (refine z00 (by rfl) ?_ ?_ (by rfl)) <;> repeat' (first | (exact eqA) | (refine And.intro ?_ ?_) | ((fail_if_success (with_reducible (show _ = _))); (show _ = _)))
  have : l ≠ m := fun e => by subst e; exact h rfl
  simp [this]
 ·repeat ((try conv => whnf); first | (refine stpQ ?_))
  have he : l.length = m.length := by omega
  refine z0f Nat (fun k => ⟨[(0, .sl 3 (chE l)), (1, .sl 3 (chE m)), (12, .int .i64 ((chE l).length : Int)), (13, .int .i64 (k : Int))], [], 1⟩) (fun k => k ≤ l.length ∧ l.take k = m.take k) (fun k => l.length - k) 0 ⟨by omega, rfl⟩ ?_ ?_
  ·(refine z02 (by rfl) ?_ ?_) <;> repeat' (first | (exact eqA) | (refine And.intro ?_ ?_) | ((fail_if_success (with_reducible (show _ = _))); (show _ = _)))
  ·intro k hx
   have hk : k ≤ l.length := hx.1
   have hp : l.take k = m.take k := hx.2
   clear hx
   by_cases hk1 : k < l.length
   ·have hk2 : k < m.length := by omega
    have hk3 : (k : Int) < ((chE l).length : Int) := by omega
    repeat ((try conv => whnf); first | (refine i_at (z4E hk1) ?_) | (refine i_at (z4E hk2) ?_) | (refine stpQ ?_))
    ((try conv => whnf); first | (refine cb_d (fun h => ?_) (fun h => ?_)) | (refine cb_n (fun h => ?_) (fun h => ?_)) | (refine cb (fun h => ?_) (fun h => ?_)))
    ·have hne : chAt l k ≠ chAt m k := fun e => by rw [e] at h; simp [eqC] at h
     repeat ((try conv => whnf); first | (refine stpQ ?_))
     (refine z00 (by rfl) ?_ ?_ (by rfl)) <;> repeat' (first | (exact eqA) | (refine And.intro ?_ ?_) | ((fail_if_success (with_reducible (show _ = _))); (show _ = _)))
     have : l ≠ m := fun e => by subst e; exact hne rfl
     simp [this]
    ·have heq : chAt l k = chAt m k := by simp [eqC] at h; exact Prod.ext h.1 (Prod.ext h.2.1 h.2.2)
     repeat ((try conv => whnf); first | (refine stpQ ?_))
     refine ⟨k + 1, ⟨by omega, ?_⟩, by omega, ?_⟩
     ·rw [z7v l k hk1, z7v m k hk2, hp, heq]
     ·(refine z02 (by rfl) ?_ ?_) <;> repeat' (first | (exact eqA) | (refine And.intro ?_ ?_) | ((fail_if_success (with_reducible (show _ = _))); (show _ = _)))
   ·obtain rfl : k = l.length := by omega
    have hlm : l = m := by
     rw [List.take_length] at hp
     rw [hp, he, List.take_length]
    repeat ((try conv => whnf); first | (refine stpQ ?_))
    (refine z00 (by rfl) ?_ ?_ (by rfl)) <;> repeat' (first | (exact eqA) | (refine And.intro ?_ ?_) | ((fail_if_success (with_reducible (show _ = _))); (show _ = _)))
    simp [hlm]
theorem z5O (l m : List Lf) (hl : (l.length : Int) ≤ 100000000) (hm : (m.length : Int) ≤ 100000000) : CT Tryz.prog 127 [] [.sl 2 (lvE l), .sl 2 (lvE m)] (.bool (decide (l = m))) [] := by
 have h1 := z0N l
 have h2 := z0N m
 refine z01 z03 1 rfl Tryz.func127 rfl rfl rfl ?_
 repeat ((try conv => whnf); first | (refine stpQ ?_))
 ((try conv => whnf); first | (refine cb_d (fun h => ?_) (fun h => ?_)) | (refine cb_n (fun h => ?_) (fun h => ?_)) | (refine cb (fun h => ?_) (fun h => ?_)))
 ·repeat ((try conv => whnf); first | (refine stpQ ?_))
  (refine z00 (by rfl) ?_ ?_ (by rfl)) <;> repeat' (first | (exact eqA) | (refine And.intro ?_ ?_) | ((fail_if_success (with_reducible (show _ = _))); (show _ = _)))
  have : l ≠ m := fun e => by subst e; exact h rfl
  simp [this]
 ·repeat ((try conv => whnf); first | (refine stpQ ?_))
  have he : l.length = m.length := by omega
  refine z0f Nat (fun k => ⟨[(0, .sl 2 (lvE l)), (1, .sl 2 (lvE m)), (5, .int .i64 (k : Int))], [], 1⟩) (fun k => k ≤ l.length ∧ l.take k = m.take k) (fun k => l.length - k) 0 ⟨by omega, rfl⟩ ?_ ?_
  ·(refine z02 (by rfl) ?_ ?_) <;> repeat' (first | (exact eqA) | (refine And.intro ?_ ?_) | ((fail_if_success (with_reducible (show _ = _))); (show _ = _)))
  ·intro k hx
   have hk : k ≤ l.length := hx.1
   have hp : l.take k = m.take k := hx.2
   clear hx
   by_cases hk1 : k < l.length
   ·have hk2 : k < m.length := by omega
    have hk3 : (k : Int) < ((lvE l).length : Int) := by omega
    repeat ((try conv => whnf); first | (refine i_at (z1F hk1) ?_) | (refine i_at (z1F hk2) ?_) | (refine stpQ ?_))
    ((try conv => whnf); first | (refine cb_d (fun h => ?_) (fun h => ?_)) | (refine cb_n (fun h => ?_) (fun h => ?_)) | (refine cb (fun h => ?_) (fun h => ?_)))
    ·have hne : lfAt l k ≠ lfAt m k := fun e => by rw [e] at h; simp [eqC] at h
     repeat ((try conv => whnf); first | (refine stpQ ?_))
     (refine z00 (by rfl) ?_ ?_ (by rfl)) <;> repeat' (first | (exact eqA) | (refine And.intro ?_ ?_) | ((fail_if_success (with_reducible (show _ = _))); (show _ = _)))
     have : l ≠ m := fun e => by subst e; exact hne rfl
     simp [this]
    ·have heq : lfAt l k = lfAt m k := by simp [eqC] at h; exact Prod.ext h.1 h.2
     repeat ((try conv => whnf); first | (refine stpQ ?_))
     refine ⟨k + 1, ⟨by omega, ?_⟩, by omega, ?_⟩
     ·rw [z1A l k hk1, z1A m k hk2, hp, heq]
     ·(refine z02 (by rfl) ?_ ?_) <;> repeat' (first | (exact eqA) | (refine And.intro ?_ ?_) | ((fail_if_success (with_reducible (show _ = _))); (show _ = _)))
   ·obtain rfl : k = l.length := by omega
    have hlm : l = m := by
     rw [List.take_length] at hp
     rw [hp, he, List.take_length]
    repeat ((try conv => whnf); first | (refine stpQ ?_))
    (refine z00 (by rfl) ?_ ?_ (by rfl)) <;> repeat' (first | (exact eqA) | (refine And.intro ?_ ?_) | ((fail_if_success (with_reducible (show _ = _))); (show _ = _)))
    simp [hlm]
theorem z8u (l m : List Ch) (hl : (l.length : Int) ≤ 100000000) (hm : (m.length : Int) ≤ 100000000) : CT Tryz.prog 189 [] [.sl 3 (chE l), .sl 3 (chE m)] (.bool (decide (l = m))) [] := by
 have h1 := z2Z l
 have h2 := z2Z m
 refine z01 z03 1 rfl Tryz.func189 rfl rfl rfl ?_
 repeat ((try conv => whnf); first | (refine stpQ ?_))
 ((try conv => whnf); first | (refine cb_d (fun h => ?_) (fun h => ?_)) | (refine cb_n (fun h => ?_) (fun h => ?_)) | (refine cb (fun h => ?_) (fun h => ?_)))
 ·repeat ((try conv => whnf); first | (refine stpQ ?_))
  (refine z00 (by rfl) ?_ ?_ (by rfl)) <;> repeat' (first | (exact eqA) | (refine And.intro ?_ ?_) | ((fail_if_success (with_reducible (show _ = _))); (show _ = _)))
  have : l ≠ m := fun e => by subst e; exact h rfl
  simp [this]
 ·repeat ((try conv => whnf); first | (refine stpQ ?_))
  have he : l.length = m.length := by omega
  refine z0f Nat (fun k => ⟨[(0, .sl 3 (chE l)), (1, .sl 3 (chE m)), (5, .int .i64 (k : Int))], [], 1⟩) (fun k => k ≤ l.length ∧ l.take k = m.take k) (fun k => l.length - k) 0 ⟨by omega, rfl⟩ ?_ ?_
  ·(refine z02 (by rfl) ?_ ?_) <;> repeat' (first | (exact eqA) | (refine And.intro ?_ ?_) | ((fail_if_success (with_reducible (show _ = _))); (show _ = _)))
  ·intro k hx
   have hk : k ≤ l.length := hx.1
   have hp : l.take k = m.take k := hx.2
   clear hx
   by_cases hk1 : k < l.length
   ·have hk2 : k < m.length := by omega
    have hk3 : (k : Int) < ((chE l).length : Int) := by omega
    repeat ((try conv => whnf); first | (refine i_at (z4E hk1) ?_) | (refine i_at (z4E hk2) ?_) | (refine stpQ ?_))
    ((try conv => whnf); first | (refine cb_d (fun h => ?_) (fun h => ?_)) | (refine cb_n (fun h => ?_) (fun h => ?_)) | (refine cb (fun h => ?_) (fun h => ?_)))
    ·have hne : chAt l k ≠ chAt m k := fun e => by rw [e] at h; simp [eqC] at h
     repeat ((try conv => whnf); first | (refine stpQ ?_))
     (refine z00 (by rfl) ?_ ?_ (by rfl)) <;> repeat' (first | (exact eqA) | (refine And.intro ?_ ?_) | ((fail_if_success (with_reducible (show _ = _))); (show _ = _)))
     have : l ≠ m := fun e => by subst e; exact hne rfl
     simp [this]
    ·have heq : chAt l k = chAt m k := by simp [eqC] at h; exact Prod.ext h.1 (Prod.ext h.2.1 h.2.2)
     repeat ((try conv => whnf); first | (refine stpQ ?_))
     refine ⟨k + 1, ⟨by omega, ?_⟩, by omega, ?_⟩
     ·rw [z7v l k hk1, z7v m k hk2, hp, heq]
     ·(refine z02 (by rfl) ?_ ?_) <;> repeat' (first | (exact eqA) | (refine And.intro ?_ ?_) | ((fail_if_success (with_reducible (show _ = _))); (show _ = _)))
   ·obtain rfl : k = l.length := by omega
    have hlm : l = m := by
     rw [List.take_length] at hp
     rw [hp, he, List.take_length]
    repeat ((try conv => whnf); first | (refine stpQ ?_))
    (refine z00 (by rfl) ?_ ?_ (by rfl)) <;> repeat' (first | (exact eqA) | (refine And.intro ?_ ?_) | ((fail_if_success (with_reducible (show _ = _))); (show _ = _)))
    simp [hlm]
def zfC (l : List (List Lf)) : Prop := (l.length : Int) ≤ 100000000 ∧ ∀ k, ((vAt l k).length : Int) ≤ 100000000
theorem zd2 (l m : List (List Lf)) (z : Bool) (hl : zfC l) (hm : zfC m) (hz : z = true → vAt m 0 = []) : CT Tryz.prog 198 [] [.sl 1 (vwE l), .sl 1 (vwZ z m)] (.bool (decide (l = m))) [] := by
 have h1 := z5y l
 have h2 := zcZ z m
 have hl1 := hl.1
 have hm1 := hm.1
 refine z01 z03 1 rfl Tryz.func198 rfl rfl rfl ?_
 by_cases he : l.length = m.length
 ·have he2 : ¬ ((vwE l).length : Int) ≠ ((vwZ z m).length : Int) := by omega
  repeat ((try conv => whnf); first | (refine stpQ ?_))
  refine z0K Nat (fun k => ⟨[(0, .sl 1 (vwE l)), (1, .sl 1 (vwZ z m)), (12, .int .i64 ((vwE l).length : Int)), (13, .int .i64 (k : Int))], [], 1⟩) (fun k => k ≤ l.length ∧ l.take k = m.take k) (fun k => l.length - k) 0 ⟨by omega, rfl⟩ ?_ ?_
  ·(refine z02 (by rfl) ?_ ?_) <;> repeat' (first | (exact eqA) | (refine And.intro ?_ ?_) | ((fail_if_success (with_reducible (show _ = _))); (show _ = _)))
  ·intro Q1 hQ1 k hx
   have hk : k ≤ l.length := hx.1
   have hp : l.take k = m.take k := hx.2
   clear hx
   by_cases hk1 : k < l.length
   ·have hk2 : k < m.length := by omega
    have hk3 : (k : Int) < ((vwE l).length : Int) := by omega
    have c1 := z5N (vAt l k) (vAt m k) (hl.2 k) (hm.2 k)
    have hgz : (vwZ z m)[k]? = some [.sl 2 (lvE (vAt m k))] ∨ ((vwZ z m)[k]? = some [.val nilV] ∧ vAt m k = []) := by
     by_cases h0 : k = 0
     ·subst h0
      have := zm7 hk2 z
      cases z with
      | true => exact .inr ⟨this, hz rfl⟩
      | false => exact .inl this
     ·exact .inl (vz_get (by omega) hk2 z)
    by_cases hv : vAt l k = vAt m k
    ·rw [decide_eq_true hv] at c1
     have hnx : l.take (k + 1) = m.take (k + 1) := by rw [za2 l k hk1, za2 m k hk2, hp, hv]
     rcases hgz with g | ⟨g, e⟩
     ·repeat ((try conv => whnf); first | (refine i_at (z4q hk1) ?_) | (refine i_at g ?_) | (refine ccA ([]) (c1) ?_) | (refine stpQ ?_))
      refine ⟨k + 1, ⟨by omega, hnx⟩, by omega, ?_⟩
      (refine z02 (by rfl) ?_ ?_) <;> repeat' (first | (exact eqA) | (refine And.intro ?_ ?_) | ((fail_if_success (with_reducible (show _ = _))); (show _ = _)))
     ·rw [e] at c1
      repeat ((try conv => whnf); first | (refine i_at (z4q hk1) ?_) | (refine i_at g ?_) | (refine ccA ([]) (c1) ?_) | (refine stpQ ?_))
      refine ⟨k + 1, ⟨by omega, hnx⟩, by omega, ?_⟩
      (refine z02 (by rfl) ?_ ?_) <;> repeat' (first | (exact eqA) | (refine And.intro ?_ ?_) | ((fail_if_success (with_reducible (show _ = _))); (show _ = _)))
    ·rw [decide_eq_false hv] at c1
     have hne : decide (l = m) = false := decide_eq_false fun e => hv (by rw [e])
     rcases hgz with g | ⟨g, e⟩
     ·repeat ((try conv => whnf); first | (refine i_at (z4q hk1) ?_) | (refine i_at g ?_) | (refine ccA ([]) (c1) ?_) | (refine stpQ ?_))
      refine hQ1 _ _ ?_
      (try conv => whnf)
      rw [hne]
      (refine z00 (by rfl) ?_ ?_ (by rfl)) <;> repeat' (first | (exact eqA) | (refine And.intro ?_ ?_) | ((fail_if_success (with_reducible (show _ = _))); (show _ = _)))
     ·rw [e] at c1
      repeat ((try conv => whnf); first | (refine i_at (z4q hk1) ?_) | (refine i_at g ?_) | (refine ccA ([]) (c1) ?_) | (refine stpQ ?_))
      refine hQ1 _ _ ?_
      (try conv => whnf)
      rw [hne]
      (refine z00 (by rfl) ?_ ?_ (by rfl)) <;> repeat' (first | (exact eqA) | (refine And.intro ?_ ?_) | ((fail_if_success (with_reducible (show _ = _))); (show _ = _)))
   ·have hke : k = l.length := by omega
    subst hke
    have hlm : l = m := by
     rw [List.take_length] at hp
     rw [hp, he, List.take_length]
    repeat ((try conv => whnf); first | (refine stpQ ?_))
    refine hQ1 _ _ ?_
    repeat ((try conv => whnf); first | (refine stpQ ?_))
    rw [decide_eq_true hlm]
    (refine z00 (by rfl) ?_ ?_ (by rfl)) <;> repeat' (first | (exact eqA) | (refine And.intro ?_ ?_) | ((fail_if_success (with_reducible (show _ = _))); (show _ = _)))
 ·have he2 : ((vwE l).length : Int) ≠ ((vwZ z m).length : Int) := by omega
  have hne : decide (l = m) = false := decide_eq_false fun e => he (by rw [e])
  rw [hne]
  repeat ((try conv => whnf); first | (refine z1w (by omega) ?_) | (refine stpQ ?_))
  (refine z00 (by rfl) ?_ ?_ (by rfl)) <;> repeat' (first | (exact eqA) | (refine And.intro ?_ ?_) | ((fail_if_success (with_reducible (show _ = _))); (show _ = _)))
theorem zi6 (a K : Int) : ∀ (ts : List Bs) (s : Sv), vAt s.vs 0 = [] → 0 < s.vs.length → vAt (ts.foldl (z7G a K) s).vs 0 = []
 | [], s, h, _ => h
 | t :: ts, s, h, h0 => by
   have key : vAt (z7G a K s t).vs 0 = [] ∧ 0 < (z7G a K s t).vs.length := by
    unfold z7G
    rcases zka a K s t with e | ⟨u, e⟩ | ⟨x, y, k, e⟩ | e
    ·rw [e]; exact ⟨h, h0⟩
    ·rw [e]; exact ⟨h, h0⟩
    ·rw [e]; exact ⟨h, h0⟩
    ·rw [e]
     refine ⟨?_, by simp [rkDo, z1z]⟩
     show vAt (s.vs ++ [z2j s]) 0 = []
     cases hv : s.vs with
     | nil => rw [hv] at h0; simp at h0
     | cons v r => rw [hv] at h; simpa [vAt] using h
   exact zi6 a K ts _ key.1 key.2
theorem zi7 (a K : Int) (ts : List Bs) : vAt (svOf a K ts).vs 0 = [] := zi6 a K ts sv0 rfl (by simp [sv0])
end Go.Proofs.YthcfalipgnpelaaGreatDoor
namespace Go.Proofs.YthcfalipgnpelaaGreatDoor
set_option maxRecDepth 100000
set_option maxHeartbeats 8000000
set_option linter.unusedVariables false
set_option linter.unusedSimpArgs false
set_option linter.unusedSectionVars false
open Go.RowKit Pl
attribute [local irreducible] z0o z0p z0z AnsP LeP
def tkI (l : List Nat) : List Int := l.map fun n : Nat => (n : Int)
theorem z58 (l : List Nat) : (tkI l).length = l.length := by simp [tkI]
def z89 (a K : Int) (ep : Int) (vs : List (List Lf)) (tk : List Int) (al : List Ch) (re rt rk : Int) (n : Sv) : Bool :=
 inB K 0 2 && (inB a 0 (2 ^ K.toNat - 1) && (decide (ep = (n.ep : Int)) && (decide (vs = n.vs) && (decide (tk = tkI n.tk) && (decide (al = n.al) && (decide (re = (n.re : Int)) && (decide (rt = (n.rt : Int)) && decide (rk = (n.rk : Int)))))))))
theorem shl1 {k : Nat} (h : k ≤ 2) : IntKind.i64.wrap (1 * 2 ^ ((k : Nat) : Int).toNat) = 2 ^ k := by
 rw [Int.toNat_natCast]
 rcases (show k = 0 ∨ k = 1 ∨ k = 2 by omega) with rfl | rfl | rfl <;> decide
theorem zi8 {k : Nat} (h : k ≤ 2) : (1 : Int) ≤ 2 ^ k ∧ (2 : Int) ^ k ≤ 4 := by rcases (show k = 0 ∨ k = 1 ∨ k = 2 by omega) with rfl | rfl | rfl <;> decide
theorem zeC {n : Nat} {s : Sv} (g : SvOk n s) : zfC s.vs := by
 refine ⟨by have := g.vl; have := g.ep; omega, fun k => ?_⟩
 rcases Nat.lt_or_ge k s.vs.length with h | h
 ·rw [zd1 h]
  have := g.vo _ (List.getElem_mem h)
  have := (z4e.1 this).1
  omega
 ·simp [vAt, List.getD, List.getElem?_eq_none h]
theorem zfD (a K : Int) (up : Bool) (fs : List Fl) (ep : Int) (vs : List (List Lf)) (tk : List Int) (al : List Ch) (re rt rk : Int) (hf : z50 fs) (hv : zfC vs) (ht : (tk.length : Int) ≤ 100000000) (hal : (al.length : Int) ≤ 100000000) :
 CT Tryz.prog 131 [] [.agg [.int .i64 a, .int .i64 K, .bool up, .sl 3 (flE fs), .int .i64 ep, .sl 1 (vwE vs), .sl 1 (isE tk), .sl 3 (chE al), .int .i64 re, .int .i64 rt, .int .i64 rk]] (.bool (z89 a K ep vs tk al re rt rk (svOf a K (z0i fs z0v)))) [] := by
 have c0 := z68 K
 by_cases hK : 0 ≤ K ∧ K ≤ 2
 ·obtain ⟨k, rfl⟩ : ∃ k : Nat, K = k := ⟨K.toNat, by omega⟩
  have hk : k ≤ 2 := by omega
  have hpw := zi8 hk
  have e1 := shl1 hk
  have e2 : IntKind.i64.wrap ((2 : Int) ^ k - 1) = 2 ^ k - 1 := by rw [z08 (by omega) (by omega)]
  have c1 := c_in a 0 (2 ^ k - 1)
  unfold z89
  rw [z0R hK, Bool.true_and, Int.toNat_natCast]
  rw [z0R hK] at c0
  cases hin : inB a 0 (2 ^ k - 1) with
  | false =>
    rw [hin] at c1
    rw [Bool.false_and]
    generalize (2 : Int) ^ k = pk at e1 e2 c1
    refine z01 z03 1 rfl Tryz.func131 rfl rfl rfl ?_
    repeat ((try conv => whnf); first | (refine ccA ([]) (c0) ?_) | (refine And.intro (show _ ≤ (64 : Int) from by omega) ?_) | (refine Exists.intro _ (And.intro e1.symm ?_)) | (refine Exists.intro _ (And.intro e2.symm ?_)) | (refine ccA ([]) (c1) ?_) | (refine stpQ ?_))
    (refine z00 (by rfl) ?_ ?_ (by rfl)) <;> repeat' (first | (exact eqA) | (refine And.intro ?_ ?_) | ((fail_if_success (with_reducible (show _ = _))); (show _ = _)))
  | true =>
    rw [hin] at c1
    rw [Bool.true_and]
    have c2 := zd0 a (k : Int) fs hf
    have g := z7H a (k : Int) (z0i fs z0v)
    have hh := zi7 a (k : Int) (z0i fs z0v)
    have hlt := (z1h fs z0v).2
    generalize svOf a (k : Int) (z0i fs z0v) = s at c2 g hh ⊢
    have c3 := zd2 vs s.vs true hv (zeC g) (fun _ => hh)
    have c4 := z88 tk (tkI s.tk) ht (by rw [z58]; have := g.tl; have := g.ep; omega)
    have c5 := z8t al s.al hal (by have := g.al; omega)
    rw [show isE (tkI s.tk) = ntE s.tk from (zbK s.tk).symm] at c4
    clear g hh hlt
    obtain ⟨nep, nvs, ntk, nal, nre, nrt, nrk⟩ := s
    unfold svE at c2
    simp only at c2 c3 c4 c5 ⊢
    generalize vwZ true nvs = V at c2 c3
    generalize decide (vs = nvs) = b1 at c3 ⊢
    generalize decide (tk = tkI ntk) = b2 at c4 ⊢
    generalize decide (al = nal) = b3 at c5 ⊢
    generalize (2 : Int) ^ k = pk at e1 e2 c1
    refine z01 z03 1 rfl Tryz.func131 rfl rfl rfl ?_
    repeat' (first | ((try conv => whnf); first | (refine ccA ([]) (c0) ?_) | (refine And.intro (show _ ≤ (64 : Int) from by omega) ?_) | (refine Exists.intro _ (And.intro e1.symm ?_)) | (refine Exists.intro _ (And.intro e2.symm ?_)) | (refine ccA ([]) (c1) ?_) | (refine ccA ([]) (c2) ?_) | (refine ccA ([]) (c3) ?_) | (refine ccA ([]) (c4) ?_) | (refine ccA ([]) (c5) ?_) | (refine And.intro (by kernel_rfl) ?_) | (refine stpQ ?_)) | ((try conv => whnf); first | (refine cb_d (fun h => ?_) (fun h => ?_)) | (refine cb_n (fun h => ?_) (fun h => ?_)) | (refine cb (fun h => ?_) (fun h => ?_))))
    all_goals
     (refine z00 (by rfl) ?_ ?_ (by rfl)) <;> repeat' (first | (exact eqA) | (refine And.intro ?_ ?_) | ((fail_if_success (with_reducible (show _ = _))); (show _ = _)))
    all_goals first
     | (simp_all [eqC]; done)
     | (simp_all only [Bool.true_and]
        show eqC [.int .i64 re, .int .i64 rt, .int .i64 rk] [.int .i64 (nre : Int), .int .i64 (nrt : Int), .int .i64 (nrk : Int)] = _
        simp [eqC])
 ·rw [z21 hK] at c0
  have hr : z89 a K ep vs tk al re rt rk (svOf a K (z0i fs z0v)) = false := by unfold z89; rw [z21 hK]; rfl
  rw [hr]
  refine z01 z03 1 rfl Tryz.func131 rfl rfl rfl ?_
  repeat ((try conv => whnf); first | (refine ccA ([]) (c0) ?_) | (refine stpQ ?_))
  (refine z00 (by rfl) ?_ ?_ (by rfl)) <;> repeat' (first | (exact eqA) | (refine And.intro ?_ ?_) | ((fail_if_success (with_reducible (show _ = _))); (show _ = _)))
theorem zd3 (a K : Int) (up : Bool) (fs : List Fl) (ep : Int) (vs : List (List Lf)) (tk : List Int) (al : List Ch) (re rt rk : Int) (hf : z50 fs) (hv : zfC vs) (ht : (tk.length : Int) ≤ 100000000) (hal : (al.length : Int) ≤ 100000000) :
 CT Tryz.prog 123 [] [.agg [.int .i64 a, .int .i64 K, .bool up, .sl 3 (flE fs), .int .i64 ep, .sl 1 (vwE vs), .sl 1 (isE tk), .sl 3 (chE al), .int .i64 re, .int .i64 rt, .int .i64 rk]] (.bool (z89 a K ep vs tk al re rt rk (svOf a K (z0i fs z0v)))) [] := by
 have c0 := z1f K 0 2
 by_cases hK : 0 ≤ K ∧ K ≤ 2
 ·obtain ⟨k, rfl⟩ : ∃ k : Nat, K = k := ⟨K.toNat, by omega⟩
  have hk : k ≤ 2 := by omega
  have hpw := zi8 hk
  have e1 := shl1 hk
  have e1u : IntKind.u64.wrap ((k : Nat) : Int) = ((k : Nat) : Int) := by
   show ((k : Nat) : Int) % 18446744073709551616 = _
   omega
  unfold z89
  rw [z0R hK, Bool.true_and, Int.toNat_natCast]
  rw [z0R hK] at c0
  by_cases hin : 0 ≤ a ∧ a ≤ 2 ^ k - 1
  ·rw [z0R hin, Bool.true_and]
   have ha1 : ¬ a < 0 := by omega
   have ha2 : ¬ a ≥ 2 ^ k := by omega
   have c2 := zbJ a (k : Int) fs hf
   have g := z7H a (k : Int) (z0i fs z0v)
   generalize svOf a (k : Int) (z0i fs z0v) = s at c2 g ⊢
   have hvw := zeC g
   have hlen : s.vs.length = s.tk.length := by rw [g.vl, g.tl]
   have htl : (s.tk.length : Int) ≤ 100 := by have := g.tl; have := g.ep; omega
   have hall : (s.al.length : Int) ≤ 100000000 := by have := g.al; have := (z1h fs z0v).2; omega
   rw [zi5] at c2
   clear g
   obtain ⟨nep, nvs, ntk, nal, nre, nrt, nrk⟩ := s
   unfold svE at c2
   simp only at c2 hvw hlen htl hall ⊢
   have c5 := z8u nal al hall hal
   have hdc : decide (nal = al) = decide (al = nal) := by simp [eq_comm]
   rw [hdc] at c5
   have l1 := z5y vs
   have l2 := z5y nvs
   have l3 := z5M tk
   have l4 := z7N ntk
   have hv1 := hv.1
   generalize decide (al = nal) = b3 at c5 ⊢
   generalize (2 : Int) ^ k = pk at e1 ha2
   by_cases h1 : ep = (nep : Int)
   ·by_cases h2 : re = (nre : Int) ∧ rt = (nrt : Int) ∧ rk = (nrk : Int)
    ·obtain ⟨r1, r2, r3⟩ := h2
     subst r1 r2 r3 h1
     cases b3 with
     | true =>
       by_cases h3 : ntk.length = tk.length
       ·by_cases h4 : nvs.length = vs.length
        ·have hq : (!eqC [.int .i64 (nre : Int), .int .i64 (nrt : Int), .int .i64 (nrk : Int)] [.int .i64 (nre : Int), .int .i64 (nrt : Int), .int .i64 (nrk : Int)]) = false := by simp [eqC]
         refine z01 z03 1 rfl Tryz.func123 rfl rfl rfl ?_
         repeat ((try conv => whnf); first | (refine ccA ([]) (c0) ?_) | (refine And.intro (show _ ≤ (64 : Int) from by omega) ?_) | (refine Exists.intro _ (And.intro e1.symm ?_)) | (refine Exists.intro _ (And.intro e1u.symm ?_)) | (refine ccA ([]) (c2) ?_) | (refine ccA ([]) (c5) ?_) | (refine cb_f hq ?_) | (refine z0A rfl ?_) | (refine And.intro (by kernel_rfl) ?_) | (refine stpQ ?_))
         refine z0K Nat (fun i => ⟨[(1, .ptr 1 0 0), (3, .ptr 2 0 0), (4, .int .i64 (i : Int))], [(1, some (.box [.int .i64 a, .int .i64 (k : Int), .bool up, .sl 3 (flE fs), .int .i64 (nep : Int), .sl 1 (vwE vs), .sl 1 (isE tk), .sl 3 (chE al), .int .i64 (nre : Int), .int .i64 (nrt : Int), .int .i64 (nrk : Int)])), (2, some (.box [.int .i64 a, .int .i64 (k : Int), .bool true, .sl 3 (flE fs), .int .i64 (nep : Int), .sl 1 (vwE nvs), .sl 1 (ntE ntk), .sl 3 (chE nal), .int .i64 (nre : Int), .int .i64 (nrt : Int), .int .i64 (nrk : Int)]))], 3⟩) (fun i => i ≤ ntk.length ∧ vs.take i = nvs.take i ∧ tk.take i = (tkI ntk).take i) (fun i => ntk.length - i) 0 ⟨by omega, rfl, rfl⟩ ?_ ?_
         ·(refine z02 (by rfl) ?_ ?_) <;> (repeat' (first | (exact eqA) | (refine And.intro ?_ ?_) | ((fail_if_success (with_reducible (show _ = _))); (show _ = _)))) <;> first | rfl | decide
         ·intro Q1 hQ1 i hx
          have hi : i ≤ ntk.length := hx.1
          have p1 : vs.take i = nvs.take i := hx.2.1
          have p2 : tk.take i = (tkI ntk).take i := hx.2.2
          clear hx
          by_cases hlt : i < ntk.length
          ·have hlt2 : (i : Int) < ((ntE ntk).length : Int) := by omega
           have hti : i < tk.length := by omega
           have hvi : i < vs.length := by omega
           have hni : i < nvs.length := by omega
           have hkl := z58 ntk
           have g1 : (ntE ntk)[i]? = some [.int .i64 (isAt (tkI ntk) i)] := by rw [zbK]; exact z6v (l := tkI ntk) (by omega)
           have g2 := z6v hti
           have g3 := z4q hni
           have g4 := z4q hvi
           have c6 := z5O (vAt nvs i) (vAt vs i) (hvw.2 i) (hv.2 i)
           by_cases ht2 : isAt (tkI ntk) i = isAt tk i
           ·by_cases hv2 : vAt nvs i = vAt vs i
            ·rw [decide_eq_true hv2] at c6
             repeat ((try conv => whnf); first | (refine i_at g1 ?_) | (refine i_at g2 ?_) | (refine i_at g3 ?_) | (refine i_at g4 ?_) | (refine z0A ht2 ?_) | (refine ccA ([]) (c6) ?_) | (refine And.intro (by kernel_rfl) ?_) | (refine stpQ ?_))
             refine ⟨i + 1, ⟨by omega, ?_, ?_⟩, by omega, ?_⟩
             ·rw [za2 vs i hvi, za2 nvs i hni, p1, hv2]
             ·rw [z6f tk i hti, z6f (tkI ntk) i (by omega), p2, ht2]
             ·(refine z02 (by rfl) ?_ ?_) <;> repeat' (first | (exact eqA) | (refine And.intro ?_ ?_) | ((fail_if_success (with_reducible (show _ = _))); (show _ = _)))
            ·rw [decide_eq_false hv2] at c6
             have hne : ¬ vs = nvs := fun e => hv2 (by rw [e])
             repeat ((try conv => whnf); first | (refine i_at g1 ?_) | (refine i_at g2 ?_) | (refine i_at g3 ?_) | (refine i_at g4 ?_) | (refine z0A ht2 ?_) | (refine ccA ([]) (c6) ?_) | (refine And.intro (by kernel_rfl) ?_) | (refine stpQ ?_))
             refine hQ1 _ _ ?_
             (try conv => whnf)
             rw [decide_eq_false hne]
             (refine z00 (by rfl) ?_ ?_ (by rfl)) <;> repeat' (first | (exact eqA) | (refine And.intro ?_ ?_) | ((fail_if_success (with_reducible (show _ = _))); (show _ = _)))
             all_goals simp
           ·have hne : ¬ tk = tkI ntk := fun e => ht2 (by rw [e])
            repeat ((try conv => whnf); first | (refine i_at g1 ?_) | (refine i_at g2 ?_) | (refine i_at g3 ?_) | (refine i_at g4 ?_) | (refine z1w ht2 ?_) | (refine ccA ([]) (c6) ?_) | (refine And.intro (by kernel_rfl) ?_) | (refine stpQ ?_))
            refine hQ1 _ _ ?_
            (try conv => whnf)
            rw [decide_eq_false hne]
            (refine z00 (by rfl) ?_ ?_ (by rfl)) <;> repeat' (first | (exact eqA) | (refine And.intro ?_ ?_) | ((fail_if_success (with_reducible (show _ = _))); (show _ = _)))
            all_goals simp
          ·have hie : i = ntk.length := by omega
           subst hie
           have hvv : vs = nvs := by rw [List.take_of_length_le (by omega), List.take_of_length_le (by omega)] at p1; exact p1
           have htt : tk = tkI ntk := by rw [List.take_of_length_le (by omega), List.take_of_length_le (by rw [z58]; omega)] at p2; exact p2
           repeat ((try conv => whnf); first | (refine stpQ ?_))
           refine hQ1 _ _ ?_
           repeat ((try conv => whnf); first | (refine stpQ ?_))
           rw [decide_eq_true hvv, decide_eq_true htt]
           (refine z00 (by rfl) ?_ ?_ (by rfl)) <;> repeat' (first | (exact eqA) | (refine And.intro ?_ ?_) | ((fail_if_success (with_reducible (show _ = _))); (show _ = _)))
           all_goals simp
        ·have hne : ¬ vs = nvs := fun e => h4 (by rw [e])
         rw [decide_eq_false hne]
         have hq : (!eqC [.int .i64 (nre : Int), .int .i64 (nrt : Int), .int .i64 (nrk : Int)] [.int .i64 (nre : Int), .int .i64 (nrt : Int), .int .i64 (nrk : Int)]) = false := by simp [eqC]
         refine z01 z03 1 rfl Tryz.func123 rfl rfl rfl ?_
         repeat ((try conv => whnf); first | (refine ccA ([]) (c0) ?_) | (refine And.intro (show _ ≤ (64 : Int) from by omega) ?_) | (refine Exists.intro _ (And.intro e1.symm ?_)) | (refine Exists.intro _ (And.intro e1u.symm ?_)) | (refine ccA ([]) (c2) ?_) | (refine ccA ([]) (c5) ?_) | (refine cb_f hq ?_) | (refine z0A rfl ?_) | (refine And.intro (by kernel_rfl) ?_) | (refine stpQ ?_))
         (refine z00 (by rfl) ?_ ?_ (by rfl)) <;> repeat' (first | (exact eqA) | (refine And.intro ?_ ?_) | ((fail_if_success (with_reducible (show _ = _))); (show _ = _)))
         all_goals simp
       ·have hne : ¬ tk = tkI ntk := fun e => h3 (by rw [e, z58])
        rw [decide_eq_false hne]
        have hq : (!eqC [.int .i64 (nre : Int), .int .i64 (nrt : Int), .int .i64 (nrk : Int)] [.int .i64 (nre : Int), .int .i64 (nrt : Int), .int .i64 (nrk : Int)]) = false := by simp [eqC]
        refine z01 z03 1 rfl Tryz.func123 rfl rfl rfl ?_
        repeat ((try conv => whnf); first | (refine ccA ([]) (c0) ?_) | (refine And.intro (show _ ≤ (64 : Int) from by omega) ?_) | (refine Exists.intro _ (And.intro e1.symm ?_)) | (refine Exists.intro _ (And.intro e1u.symm ?_)) | (refine ccA ([]) (c2) ?_) | (refine ccA ([]) (c5) ?_) | (refine cb_f hq ?_) | (refine z0A rfl ?_) | (refine And.intro (by kernel_rfl) ?_) | (refine stpQ ?_))
        (refine z00 (by rfl) ?_ ?_ (by rfl)) <;> repeat' (first | (exact eqA) | (refine And.intro ?_ ?_) | ((fail_if_success (with_reducible (show _ = _))); (show _ = _)))
        all_goals simp
     | false =>
       have hq : (!eqC [.int .i64 (nre : Int), .int .i64 (nrt : Int), .int .i64 (nrk : Int)] [.int .i64 (nre : Int), .int .i64 (nrt : Int), .int .i64 (nrk : Int)]) = false := by simp [eqC]
       refine z01 z03 1 rfl Tryz.func123 rfl rfl rfl ?_
       repeat ((try conv => whnf); first | (refine ccA ([]) (c0) ?_) | (refine And.intro (show _ ≤ (64 : Int) from by omega) ?_) | (refine Exists.intro _ (And.intro e1.symm ?_)) | (refine Exists.intro _ (And.intro e1u.symm ?_)) | (refine ccA ([]) (c2) ?_) | (refine ccA ([]) (c5) ?_) | (refine cb_f hq ?_) | (refine z0A rfl ?_) | (refine And.intro (by kernel_rfl) ?_) | (refine stpQ ?_))
       (refine z00 (by rfl) ?_ ?_ (by rfl)) <;> repeat' (first | (exact eqA) | (refine And.intro ?_ ?_) | ((fail_if_success (with_reducible (show _ = _))); (show _ = _)))
       all_goals simp
    ·have hq : (!eqC [.int .i64 (nre : Int), .int .i64 (nrt : Int), .int .i64 (nrk : Int)] [.int .i64 re, .int .i64 rt, .int .i64 rk]) = true := by
      cases hh : eqC [T.int .i64 (nre : Int), .int .i64 (nrt : Int), .int .i64 (nrk : Int)] [.int .i64 re, .int .i64 rt, .int .i64 rk] with
      | false => rfl
      | true =>
        simp [eqC] at hh
        exact absurd ⟨hh.1.symm, hh.2.1.symm, hh.2.2.symm⟩ h2
     have hf2 : (decide (re = (nre : Int)) && (decide (rt = (nrt : Int)) && decide (rk = (nrk : Int)))) = false := by
      cases hh : (decide (re = (nre : Int)) && (decide (rt = (nrt : Int)) && decide (rk = (nrk : Int)))) with
      | false => rfl
      | true =>
        simp only [Bool.and_eq_true, decide_eq_true_eq] at hh
        exact absurd hh h2
     rw [hf2]
     subst h1
     refine z01 z03 1 rfl Tryz.func123 rfl rfl rfl ?_
     repeat ((try conv => whnf); first | (refine ccA ([]) (c0) ?_) | (refine And.intro (show _ ≤ (64 : Int) from by omega) ?_) | (refine Exists.intro _ (And.intro e1.symm ?_)) | (refine Exists.intro _ (And.intro e1u.symm ?_)) | (refine ccA ([]) (c2) ?_) | (refine cb_t hq ?_) | (refine z0A rfl ?_) | (refine And.intro (by kernel_rfl) ?_) | (refine stpQ ?_))
     (refine z00 (by rfl) ?_ ?_ (by rfl)) <;> repeat' (first | (exact eqA) | (refine And.intro ?_ ?_) | ((fail_if_success (with_reducible (show _ = _))); (show _ = _)))
     all_goals simp
   ·rw [decide_eq_false h1, Bool.false_and]
    have h1' : ¬ (nep : Int) = ep := fun e => h1 e.symm
    refine z01 z03 1 rfl Tryz.func123 rfl rfl rfl ?_
    repeat ((try conv => whnf); first | (refine ccA ([]) (c0) ?_) | (refine And.intro (show _ ≤ (64 : Int) from by omega) ?_) | (refine Exists.intro _ (And.intro e1.symm ?_)) | (refine Exists.intro _ (And.intro e1u.symm ?_)) | (refine ccA ([]) (c2) ?_) | (refine z1w h1' ?_) | (refine And.intro (by kernel_rfl) ?_) | (refine stpQ ?_))
    (refine z00 (by rfl) ?_ ?_ (by rfl)) <;> repeat' (first | (exact eqA) | (refine And.intro ?_ ?_) | ((fail_if_success (with_reducible (show _ = _))); (show _ = _)))
  ·rw [z21 hin, Bool.false_and]
   generalize (2 : Int) ^ k = pk at e1 hin
   by_cases ha : a < 0
   ·refine z01 z03 1 rfl Tryz.func123 rfl rfl rfl ?_
    repeat ((try conv => whnf); first | (refine ccA ([]) (c0) ?_) | (refine And.intro (show _ ≤ (64 : Int) from by omega) ?_) | (refine Exists.intro _ (And.intro e1.symm ?_)) | (refine Exists.intro _ (And.intro e1u.symm ?_)) | (refine stpQ ?_))
    (refine z00 (by rfl) ?_ ?_ (by rfl)) <;> repeat' (first | (exact eqA) | (refine And.intro ?_ ?_) | ((fail_if_success (with_reducible (show _ = _))); (show _ = _)))
   ·have ha2 : a ≥ pk := by omega
    refine z01 z03 1 rfl Tryz.func123 rfl rfl rfl ?_
    repeat ((try conv => whnf); first | (refine ccA ([]) (c0) ?_) | (refine And.intro (show _ ≤ (64 : Int) from by omega) ?_) | (refine Exists.intro _ (And.intro e1.symm ?_)) | (refine Exists.intro _ (And.intro e1u.symm ?_)) | (refine stpQ ?_))
    (refine z00 (by rfl) ?_ ?_ (by rfl)) <;> repeat' (first | (exact eqA) | (refine And.intro ?_ ?_) | ((fail_if_success (with_reducible (show _ = _))); (show _ = _)))
 ·rw [z21 hK] at c0
  have hr : z89 a K ep vs tk al re rt rk (svOf a K (z0i fs z0v)) = false := by unfold z89; rw [z21 hK]; rfl
  rw [hr]
  refine z01 z03 1 rfl Tryz.func123 rfl rfl rfl ?_
  repeat ((try conv => whnf); first | (refine ccA ([]) (c0) ?_) | (refine stpQ ?_))
  (refine z00 (by rfl) ?_ ?_ (by rfl)) <;> repeat' (first | (exact eqA) | (refine And.intro ?_ ?_) | ((fail_if_success (with_reducible (show _ = _))); (show _ = _)))
end Go.Proofs.YthcfalipgnpelaaGreatDoor
namespace Go.Proofs.YthcfalipgnpelaaGreatDoor
set_option maxRecDepth 100000
set_option maxHeartbeats 8000000
set_option linter.unusedVariables false
set_option linter.unusedSimpArgs false
set_option linter.unusedSectionVars false
open Go.RowKit Pl
theorem z2M {α : Type} (enc : α → List T) (R : α → Prop) : ∀ (z : List (List T)), (∀ e ∈ z, ∃ x, e = enc x ∧ R x) → ∃ l : List α, z = l.map enc ∧ ∀ x ∈ l, R x
 | [], _ => ⟨[], rfl, fun x h => by cases h⟩
 | e :: z, h => by
   obtain ⟨x, hx, hr⟩ := h e (by simp)
   obtain ⟨l, hl, hs⟩ := z2M enc R z fun e he => h e (List.mem_cons_of_mem _ he)
   refine ⟨x :: l, by rw [hx, hl]; rfl, fun y hy => ?_⟩
   rcases List.mem_cons.1 hy with rfl | hy
   ·exact hr
   ·exact hs y hy
theorem zi9 {N : Nat} {z : List (List T)} (h : ∀ e ∈ z, Fits N z0L e) : ∃ l : List Fl, z = flE l ∧ ∀ x ∈ l, x.1.length ≤ N ∧ x.2.1.length ≤ N :=
 z2M (fun f : Fl => [.str f.1, .str f.2.1, .int .i64 f.2.2]) (fun x => x.1.length ≤ N ∧ x.2.1.length ≤ N) z fun e he => by
  obtain ⟨s0, s1, n2, rfl, q0, q1, q2, -⟩ := z2X (h e he)
  exact ⟨(s0, s1, n2), rfl, q0, q1⟩
theorem dec_lv {N : Nat} {z : List (List T)} (h : ∀ e ∈ z, Fits N z0y e) : ∃ l : List Lf, z = lvE l ∧ ∀ x ∈ l, x.1.length ≤ N ∧ x.2.length ≤ N :=
 z2M (fun f : Lf => [.str f.1, .str f.2]) (fun x => x.1.length ≤ N ∧ x.2.length ≤ N) z fun e he => by
  obtain ⟨s0, s1, rfl, q0, q1, -⟩ := z2W (h e he)
  exact ⟨(s0, s1), rfl, q0, q1⟩
theorem dec_ch {N : Nat} {z : List (List T)} (h : ∀ e ∈ z, Fits N z0B e) : ∃ l : List Ch, z = chE l ∧ ∀ x ∈ l, x.2.1.length ≤ N ∧ x.2.2.length ≤ N :=
 z2M chL (fun x => x.2.1.length ≤ N ∧ x.2.2.length ≤ N) z fun e he => by
  obtain ⟨n0, s1, s2, rfl, q0, q1, q2, -⟩ := z1Z (h e he)
  exact ⟨(n0, s1, s2), rfl, q1, q2⟩
theorem zia {N : Nat} {z : List (List T)} (h : ∀ e ∈ z, Fits N .int e) : ∃ l : List Int, z = isE l := by
 obtain ⟨l, hl, _⟩ := z2M (fun n : Int => [T.int .i64 n]) (fun _ => True) z fun e he => by
  obtain ⟨n, rfl, _⟩ := h e he
  exact ⟨n, rfl, trivial⟩
 exact ⟨l, hl⟩
theorem dec_vw {N : Nat} {z : List (List T)} (h : ∀ e ∈ z, Fits N (.sl 2 z0y) e) : ∃ l : List (List Lf), z = vwE l ∧ ∀ v ∈ l, v.length ≤ N :=
 z2M (fun v : List Lf => [.sl 2 (lvE v)]) (fun v => v.length ≤ N) z fun e he => by
  obtain ⟨es, rfl, q, hq⟩ := h e he
  obtain ⟨l, rfl, _⟩ := dec_lv hq
  exact ⟨l, rfl, by rw [z0N] at q; exact q⟩
theorem zib {N : Nat} {l : List Fl} (hN : (N : Int) ≤ 100000000) (h : l.length ≤ N) (hx : ∀ x ∈ l, x.1.length ≤ N ∧ x.2.1.length ≤ N) : z50 l := by
 refine ⟨by omega, fun k => ?_⟩
 rcases Nat.lt_or_ge k l.length with hk | hk
 ·rw [zhk hk]
  have := hx _ (List.getElem_mem hk)
  omega
 ·simp [flAt, List.getD, List.getElem?_eq_none hk]
theorem vw_fit {N : Nat} {l : List (List Lf)} (hN : (N : Int) ≤ 100000000) (h : l.length ≤ N) (hx : ∀ v ∈ l, v.length ≤ N) : zfC l := by
 refine ⟨by omega, fun k => ?_⟩
 rcases Nat.lt_or_ge k l.length with hk | hk
 ·rw [zd1 hk]
  have := hx _ (List.getElem_mem hk)
  omega
 ·simp [vAt, List.getD, List.getElem?_eq_none hk]
end Go.Proofs.YthcfalipgnpelaaGreatDoor
