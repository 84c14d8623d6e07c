/- Functions by content: lists that are compared; whether a shard is as its disk tells. Functions by content: whether a shard is as its disk tells, by the program and by the reference. What fits a shape is a list of files, of entries, of numbers, of changes. -/
import Derived.Test.YtfjbinbpgdiafaaGreatDoorSxy
namespace Go.Proofs.YtfjbinbpgdiafaaGreatDoor
set_option maxRecDepth 100000
set_option maxHeartbeats 8000000
set_option linter.unusedVariables false
set_option linter.unusedSimpArgs false
set_option linter.unusedSectionVars false
open Go.RowKit Pl
attribute [local irreducible] z0r z0s z0z AnsP LeP
def isE (l : List Int) : List (List T) := l.map fun n : Int => [.int .i64 n]
theorem zge (l : List Int) : (isE l).length = l.length := by simp [isE]
def isAt (l : List Int) (k : Nat) : Int := l.getD k 0
theorem is_at {l : List Int} {k : Nat} (h : k < l.length) : isAt l k = l[k] := by simp [isAt, List.getD, List.getElem?_eq_getElem h]
theorem zgf {l : List Int} {k : Nat} (h : k < l.length) : (isE l)[k]? = some [.int .i64 (isAt l k)] := by rw [is_at h]; simp [isE, List.getElem?_eq_getElem h]
theorem zeo (l : List Int) (k : Nat) (h : k < l.length) : l.take (k + 1) = l.take k ++ [isAt l k] := by rw [List.take_add_one, List.getElem?_eq_getElem h, is_at h]; rfl
theorem zgg (l : List Nat) : ntE l = isE (l.map fun n : Nat => (n : Int)) := by simp [ntE, isE]
def vAt (l : List (List Lf)) (k : Nat) : List Lf := l.getD k []
theorem zfz {l : List (List Lf)} {k : Nat} (h : k < l.length) : vAt l k = l[k] := by simp [vAt, List.getD, List.getElem?_eq_getElem h]
theorem zad (l : List (List Lf)) (k : Nat) (h : k < l.length) : l.take (k + 1) = l.take k ++ [vAt l k] := by rw [List.take_add_one, List.getElem?_eq_getElem h, zfz h]; rfl
theorem z78 {l : List (List Lf)} {k : Nat} (h : k < l.length) : (vwE l)[k]? = some [.sl 2 (lvE (vAt l k))] := by rw [zfz h]; simp [vwE, List.getElem?_eq_getElem h]
theorem vz_get {l : List (List Lf)} {k : Nat} (h : 0 < k) (hk : k < l.length) (z : Bool) : (vwZ z l)[k]? = some [.sl 2 (lvE (vAt l k))] := by
 cases l with
 | nil => simp at hk
 | cons v r =>
   obtain ⟨m, rfl⟩ : ∃ m, k = m + 1 := ⟨k - 1, by omega⟩
   have h1 : m < r.length := by simpa using hk
   have h2 := z78 h1
   simpa [vwZ, vAt] using h2
theorem zhg {l : List (List Lf)} (h : 0 < l.length) (z : Bool) : (vwZ z l)[0]? = some (bif z then [.val nilV] else [.sl 2 (lvE (vAt l 0))]) := by
 cases l with
 | nil => simp at h
 | cons v r => simp [vwZ, vAt]
theorem zae (l m : List Int) (hl : (l.length : Int) ≤ 100000000) (hm : (m.length : Int) ≤ 100000000) : CT Tryz.prog 53 [] [.sl 1 (isE l), .sl 1 (isE m)] (.bool (decide (l = m))) [] := by
 have h1 := zge l
 have h2 := zge m
 refine z01 z0p 1 rfl Tryz.func53 rfl rfl rfl ?_
 repeat ((try conv => whnf); first | (refine stpQ ?_))
 ((try conv => whnf); first | (refine cb_d (fun h => ?_) (fun h => ?_)) | (refine cb_n (fun h => ?_) (fun h => ?_)) | (refine cb (fun h => ?_) (fun h => ?_)))
 ·repeat ((try conv => whnf); first | (refine stpQ ?_))
  (refine z00 (by rfl) ?_ ?_ (by rfl)) <;> repeat' (first | (exact eqA) | (refine And.intro ?_ ?_) | ((fail_if_success (with_reducible (show _ = _))); (show _ = _)))
  have : l ≠ m := fun e => by subst e; exact h rfl
  simp [this]
 ·repeat ((try conv => whnf); first | (refine stpQ ?_))
  have he : l.length = m.length := by omega
  refine z0K Nat (fun k => ⟨[(0, .sl 1 (isE l)), (1, .sl 1 (isE m)), (12, .int .i64 ((isE l).length : Int)), (13, .int .i64 (k : Int))], [], 1⟩) (fun k => k ≤ l.length ∧ l.take k = m.take k) (fun k => l.length - k) 0 ⟨by omega, rfl⟩ ?_ ?_
  ·(refine z02 (by rfl) ?_ ?_) <;> repeat' (first | (exact eqA) | (refine And.intro ?_ ?_) | ((fail_if_success (with_reducible (show _ = _))); (show _ = _)))
  ·intro k hx
   have hk : k ≤ l.length := hx.1
   have hp : l.take k = m.take k := hx.2
   clear hx
   by_cases hk1 : k < l.length
   ·have hk2 : k < m.length := by omega
    have hk3 : (k : Int) < ((isE l).length : Int) := by omega
    repeat ((try conv => whnf); first | (refine i_at (zgf hk1) ?_) | (refine i_at (zgf hk2) ?_) | (refine stpQ ?_))
    ((try conv => whnf); first | (refine cb_d (fun h => ?_) (fun h => ?_)) | (refine cb_n (fun h => ?_) (fun h => ?_)) | (refine cb (fun h => ?_) (fun h => ?_)))
    ·have hne : isAt l k ≠ isAt m k := h
     repeat ((try conv => whnf); first | (refine stpQ ?_))
     (refine z00 (by rfl) ?_ ?_ (by rfl)) <;> repeat' (first | (exact eqA) | (refine And.intro ?_ ?_) | ((fail_if_success (with_reducible (show _ = _))); (show _ = _)))
     have : l ≠ m := fun e => by subst e; exact hne rfl
     simp [this]
    ·have heq : isAt l k = isAt m k := by first | exact h | exact Classical.not_not.1 h
     repeat ((try conv => whnf); first | (refine stpQ ?_))
     refine ⟨k + 1, ⟨by omega, ?_⟩, by omega, ?_⟩
     ·rw [zeo l k hk1, zeo m k hk2, hp, heq]
     ·(refine z02 (by rfl) ?_ ?_) <;> repeat' (first | (exact eqA) | (refine And.intro ?_ ?_) | ((fail_if_success (with_reducible (show _ = _))); (show _ = _)))
   ·obtain rfl : k = l.length := by omega
    have hlm : l = m := by
     rw [List.take_length] at hp
     rw [hp, he, List.take_length]
    repeat ((try conv => whnf); first | (refine stpQ ?_))
    (refine z00 (by rfl) ?_ ?_ (by rfl)) <;> repeat' (first | (exact eqA) | (refine And.intro ?_ ?_) | ((fail_if_success (with_reducible (show _ = _))); (show _ = _)))
    simp [hlm]
theorem z7Y (l m : List Lf) (hl : (l.length : Int) ≤ 100000000) (hm : (m.length : Int) ≤ 100000000) : CT Tryz.prog 119 [] [.sl 2 (lvE l), .sl 2 (lvE m)] (.bool (decide (l = m))) [] := by
 have h1 := z0B l
 have h2 := z0B m
 refine z01 z0p 1 rfl Tryz.func119 rfl rfl rfl ?_
 repeat ((try conv => whnf); first | (refine stpQ ?_))
 ((try conv => whnf); first | (refine cb_d (fun h => ?_) (fun h => ?_)) | (refine cb_n (fun h => ?_) (fun h => ?_)) | (refine cb (fun h => ?_) (fun h => ?_)))
 ·repeat ((try conv => whnf); first | (refine stpQ ?_))
  (refine z00 (by rfl) ?_ ?_ (by rfl)) <;> repeat' (first | (exact eqA) | (refine And.intro ?_ ?_) | ((fail_if_success (with_reducible (show _ = _))); (show _ = _)))
  have : l ≠ m := fun e => by subst e; exact h rfl
  simp [this]
 ·repeat ((try conv => whnf); first | (refine stpQ ?_))
  have he : l.length = m.length := by omega
  refine z0K Nat (fun k => ⟨[(0, .sl 2 (lvE l)), (1, .sl 2 (lvE m)), (12, .int .i64 ((lvE l).length : Int)), (13, .int .i64 (k : Int))], [], 1⟩) (fun k => k ≤ l.length ∧ l.take k = m.take k) (fun k => l.length - k) 0 ⟨by omega, rfl⟩ ?_ ?_
  ·(refine z02 (by rfl) ?_ ?_) <;> repeat' (first | (exact eqA) | (refine And.intro ?_ ?_) | ((fail_if_success (with_reducible (show _ = _))); (show _ = _)))
  ·intro k hx
   have hk : k ≤ l.length := hx.1
   have hp : l.take k = m.take k := hx.2
   clear hx
   by_cases hk1 : k < l.length
   ·have hk2 : k < m.length := by omega
    have hk3 : (k : Int) < ((lvE l).length : Int) := by omega
    repeat ((try conv => whnf); first | (refine i_at (z1f hk1) ?_) | (refine i_at (z1f hk2) ?_) | (refine stpQ ?_))
    ((try conv => whnf); first | (refine cb_d (fun h => ?_) (fun h => ?_)) | (refine cb_n (fun h => ?_) (fun h => ?_)) | (refine cb (fun h => ?_) (fun h => ?_)))
    ·have hne : lfAt l k ≠ lfAt m k := fun e => by rw [e] at h; simp [eqC] at h
     repeat ((try conv => whnf); first | (refine stpQ ?_))
     (refine z00 (by rfl) ?_ ?_ (by rfl)) <;> repeat' (first | (exact eqA) | (refine And.intro ?_ ?_) | ((fail_if_success (with_reducible (show _ = _))); (show _ = _)))
     have : l ≠ m := fun e => by subst e; exact hne rfl
     simp [this]
    ·have heq : lfAt l k = lfAt m k := by simp [eqC] at h; exact Prod.ext h.1 h.2
     repeat ((try conv => whnf); first | (refine stpQ ?_))
     refine ⟨k + 1, ⟨by omega, ?_⟩, by omega, ?_⟩
     ·rw [z1n l k hk1, z1n m k hk2, hp, heq]
     ·(refine z02 (by rfl) ?_ ?_) <;> repeat' (first | (exact eqA) | (refine And.intro ?_ ?_) | ((fail_if_success (with_reducible (show _ = _))); (show _ = _)))
   ·obtain rfl : k = l.length := by omega
    have hlm : l = m := by
     rw [List.take_length] at hp
     rw [hp, he, List.take_length]
    repeat ((try conv => whnf); first | (refine stpQ ?_))
    (refine z00 (by rfl) ?_ ?_ (by rfl)) <;> repeat' (first | (exact eqA) | (refine And.intro ?_ ?_) | ((fail_if_success (with_reducible (show _ = _))); (show _ = _)))
    simp [hlm]
theorem z6C (l m : List Ch) (hl : (l.length : Int) ≤ 100000000) (hm : (m.length : Int) ≤ 100000000) : CT Tryz.prog 54 [] [.sl 3 (chE l), .sl 3 (chE m)] (.bool (decide (l = m))) [] := by
 have h1 := z0R l
 have h2 := z0R m
 refine z01 z0p 1 rfl Tryz.func54 rfl rfl rfl ?_
 repeat ((try conv => whnf); first | (refine stpQ ?_))
 ((try conv => whnf); first | (refine cb_d (fun h => ?_) (fun h => ?_)) | (refine cb_n (fun h => ?_) (fun h => ?_)) | (refine cb (fun h => ?_) (fun h => ?_)))
 ·repeat ((try conv => whnf); first | (refine stpQ ?_))
  (refine z00 (by rfl) ?_ ?_ (by rfl)) <;> repeat' (first | (exact eqA) | (refine And.intro ?_ ?_) | ((fail_if_success (with_reducible (show _ = _))); (show _ = _)))
  have : l ≠ m := fun e => by subst e; exact h rfl
  simp [this]
 ·repeat ((try conv => whnf); first | (refine stpQ ?_))
  have he : l.length = m.length := by omega
  refine z0K Nat (fun k => ⟨[(0, .sl 3 (chE l)), (1, .sl 3 (chE m)), (12, .int .i64 ((chE l).length : Int)), (13, .int .i64 (k : Int))], [], 1⟩) (fun k => k ≤ l.length ∧ l.take k = m.take k) (fun k => l.length - k) 0 ⟨by omega, rfl⟩ ?_ ?_
  ·(refine z02 (by rfl) ?_ ?_) <;> repeat' (first | (exact eqA) | (refine And.intro ?_ ?_) | ((fail_if_success (with_reducible (show _ = _))); (show _ = _)))
  ·intro k hx
   have hk : k ≤ l.length := hx.1
   have hp : l.take k = m.take k := hx.2
   clear hx
   by_cases hk1 : k < l.length
   ·have hk2 : k < m.length := by omega
    have hk3 : (k : Int) < ((chE l).length : Int) := by omega
    repeat ((try conv => whnf); first | (refine i_at (z3A hk1) ?_) | (refine i_at (z3A hk2) ?_) | (refine stpQ ?_))
    ((try conv => whnf); first | (refine cb_d (fun h => ?_) (fun h => ?_)) | (refine cb_n (fun h => ?_) (fun h => ?_)) | (refine cb (fun h => ?_) (fun h => ?_)))
    ·have hne : chAt l k ≠ chAt m k := fun e => by rw [e] at h; simp [eqC] at h
     repeat ((try conv => whnf); first | (refine stpQ ?_))
     (refine z00 (by rfl) ?_ ?_ (by rfl)) <;> repeat' (first | (exact eqA) | (refine And.intro ?_ ?_) | ((fail_if_success (with_reducible (show _ = _))); (show _ = _)))
     have : l ≠ m := fun e => by subst e; exact hne rfl
     simp [this]
    ·have heq : chAt l k = chAt m k := by simp [eqC] at h; exact Prod.ext h.1 (Prod.ext h.2.1 h.2.2)
     repeat ((try conv => whnf); first | (refine stpQ ?_))
     refine ⟨k + 1, ⟨by omega, ?_⟩, by omega, ?_⟩
     ·rw [z9S l k hk1, z9S m k hk2, hp, heq]
     ·(refine z02 (by rfl) ?_ ?_) <;> repeat' (first | (exact eqA) | (refine And.intro ?_ ?_) | ((fail_if_success (with_reducible (show _ = _))); (show _ = _)))
   ·obtain rfl : k = l.length := by omega
    have hlm : l = m := by
     rw [List.take_length] at hp
     rw [hp, he, List.take_length]
    repeat ((try conv => whnf); first | (refine stpQ ?_))
    (refine z00 (by rfl) ?_ ?_ (by rfl)) <;> repeat' (first | (exact eqA) | (refine And.intro ?_ ?_) | ((fail_if_success (with_reducible (show _ = _))); (show _ = _)))
    simp [hlm]
def zfA (l : List (List Lf)) : Prop := (l.length : Int) ≤ 100000000 ∧ ∀ k, ((vAt l k).length : Int) ≤ 100000000
theorem zaf (l m : List (List Lf)) (z : Bool) (hl : zfA l) (hm : zfA m) (hz : z = true → vAt m 0 = []) : CT Tryz.prog 52 [] [.sl 1 (vwE l), .sl 1 (vwZ z m)] (.bool (decide (l = m))) [] := by
 have h1 := z3D l
 have h2 := zen z m
 have hl1 := hl.1
 have hm1 := hm.1
 refine z01 z0p 1 rfl Tryz.func52 rfl rfl rfl ?_
 by_cases he : l.length = m.length
 ·have he2 : ¬ ((vwE l).length : Int) ≠ ((vwZ z m).length : Int) := by omega
  repeat ((try conv => whnf); first | (refine stpQ ?_))
  refine z3V Nat (fun k => ⟨[(0, .sl 1 (vwE l)), (1, .sl 1 (vwZ z m)), (12, .int .i64 ((vwE l).length : Int)), (13, .int .i64 (k : Int))], [], 1⟩) (fun k => k ≤ l.length ∧ l.take k = m.take k) (fun k => l.length - k) 0 ⟨by omega, rfl⟩ ?_ ?_
  ·(refine z02 (by rfl) ?_ ?_) <;> repeat' (first | (exact eqA) | (refine And.intro ?_ ?_) | ((fail_if_success (with_reducible (show _ = _))); (show _ = _)))
  ·intro Q1 hQ1 k hx
   have hk : k ≤ l.length := hx.1
   have hp : l.take k = m.take k := hx.2
   clear hx
   by_cases hk1 : k < l.length
   ·have hk2 : k < m.length := by omega
    have hk3 : (k : Int) < ((vwE l).length : Int) := by omega
    have c1 := z7Y (vAt l k) (vAt m k) (hl.2 k) (hm.2 k)
    have hgz : (vwZ z m)[k]? = some [.sl 2 (lvE (vAt m k))] ∨ ((vwZ z m)[k]? = some [.val nilV] ∧ vAt m k = []) := by
     by_cases h0 : k = 0
     ·subst h0
      have := zhg hk2 z
      cases z with
      | true => exact .inr ⟨this, hz rfl⟩
      | false => exact .inl this
     ·exact .inl (vz_get (by omega) hk2 z)
    by_cases hv : vAt l k = vAt m k
    ·rw [decide_eq_true hv] at c1
     have hnx : l.take (k + 1) = m.take (k + 1) := by rw [zad l k hk1, zad m k hk2, hp, hv]
     rcases hgz with g | ⟨g, e⟩
     ·repeat ((try conv => whnf); first | (refine i_at (z78 hk1) ?_) | (refine i_at g ?_) | (refine ccA ([]) (c1) ?_) | (refine stpQ ?_))
      refine ⟨k + 1, ⟨by omega, hnx⟩, by omega, ?_⟩
      (refine z02 (by rfl) ?_ ?_) <;> repeat' (first | (exact eqA) | (refine And.intro ?_ ?_) | ((fail_if_success (with_reducible (show _ = _))); (show _ = _)))
     ·rw [e] at c1
      repeat ((try conv => whnf); first | (refine i_at (z78 hk1) ?_) | (refine i_at g ?_) | (refine ccA ([]) (c1) ?_) | (refine stpQ ?_))
      refine ⟨k + 1, ⟨by omega, hnx⟩, by omega, ?_⟩
      (refine z02 (by rfl) ?_ ?_) <;> repeat' (first | (exact eqA) | (refine And.intro ?_ ?_) | ((fail_if_success (with_reducible (show _ = _))); (show _ = _)))
    ·rw [decide_eq_false hv] at c1
     have hne : decide (l = m) = false := decide_eq_false fun e => hv (by rw [e])
     rcases hgz with g | ⟨g, e⟩
     ·repeat ((try conv => whnf); first | (refine i_at (z78 hk1) ?_) | (refine i_at g ?_) | (refine ccA ([]) (c1) ?_) | (refine stpQ ?_))
      refine hQ1 _ _ ?_
      (try conv => whnf)
      rw [hne]
      (refine z00 (by rfl) ?_ ?_ (by rfl)) <;> repeat' (first | (exact eqA) | (refine And.intro ?_ ?_) | ((fail_if_success (with_reducible (show _ = _))); (show _ = _)))
     ·rw [e] at c1
      repeat ((try conv => whnf); first | (refine i_at (z78 hk1) ?_) | (refine i_at g ?_) | (refine ccA ([]) (c1) ?_) | (refine stpQ ?_))
      refine hQ1 _ _ ?_
      (try conv => whnf)
      rw [hne]
      (refine z00 (by rfl) ?_ ?_ (by rfl)) <;> repeat' (first | (exact eqA) | (refine And.intro ?_ ?_) | ((fail_if_success (with_reducible (show _ = _))); (show _ = _)))
   ·have hke : k = l.length := by omega
    subst hke
    have hlm : l = m := by
     rw [List.take_length] at hp
     rw [hp, he, List.take_length]
    repeat ((try conv => whnf); first | (refine stpQ ?_))
    refine hQ1 _ _ ?_
    repeat ((try conv => whnf); first | (refine stpQ ?_))
    rw [decide_eq_true hlm]
    (refine z00 (by rfl) ?_ ?_ (by rfl)) <;> repeat' (first | (exact eqA) | (refine And.intro ?_ ?_) | ((fail_if_success (with_reducible (show _ = _))); (show _ = _)))
 ·have he2 : ((vwE l).length : Int) ≠ ((vwZ z m).length : Int) := by omega
  have hne : decide (l = m) = false := decide_eq_false fun e => he (by rw [e])
  rw [hne]
  repeat ((try conv => whnf); first | (refine z2M (by omega) ?_) | (refine stpQ ?_))
  (refine z00 (by rfl) ?_ ?_ (by rfl)) <;> repeat' (first | (exact eqA) | (refine And.intro ?_ ?_) | ((fail_if_success (with_reducible (show _ = _))); (show _ = _)))
theorem zep (a K : Int) : ∀ (ts : List Bs) (s : Sv), vAt s.vs 0 = [] → 0 < s.vs.length → vAt (ts.foldl (z6z a K) s).vs 0 = []
 | [], s, h, _ => h
 | t :: ts, s, h, h0 => by
   have key : vAt (z6z a K s t).vs 0 = [] ∧ 0 < (z6z a K s t).vs.length := by
    unfold z6z
    rcases zfy a K s t with e | ⟨u, e⟩ | ⟨x, y, k, e⟩ | e
    ·rw [e]; exact ⟨h, h0⟩
    ·rw [e]; exact ⟨h, h0⟩
    ·rw [e]; exact ⟨h, h0⟩
    ·rw [e]
     refine ⟨?_, by simp [rkDo, z19]⟩
     show vAt (s.vs ++ [z1N s]) 0 = []
     cases hv : s.vs with
     | nil => rw [hv] at h0; simp at h0
     | cons v r => rw [hv] at h; simpa [vAt] using h
   exact zep a K ts _ key.1 key.2
theorem zeq (a K : Int) (ts : List Bs) : vAt (svOf a K ts).vs 0 = [] := zep a K ts sv0 rfl (by simp [sv0])
end Go.Proofs.YtfjbinbpgdiafaaGreatDoor
namespace Go.Proofs.YtfjbinbpgdiafaaGreatDoor
set_option maxRecDepth 100000
set_option maxHeartbeats 8000000
set_option linter.unusedVariables false
set_option linter.unusedSimpArgs false
set_option linter.unusedSectionVars false
open Go.RowKit Pl
attribute [local irreducible] z0r z0s z0z AnsP LeP
def tkI (l : List Nat) : List Int := l.map fun n : Nat => (n : Int)
theorem zer (l : List Nat) : (tkI l).length = l.length := by simp [tkI]
def zct (a K : Int) (ep : Int) (vs : List (List Lf)) (tk : List Int) (al : List Ch) (re rt rk : Int) (n : Sv) : Bool :=
 inB K 0 2 && (inB a 0 (2 ^ K.toNat - 1) && (decide (ep = (n.ep : Int)) && (decide (vs = n.vs) && (decide (tk = tkI n.tk) && (decide (al = n.al) && (decide (re = (n.re : Int)) && (decide (rt = (n.rt : Int)) && decide (rk = (n.rk : Int)))))))))
theorem shl1 {k : Nat} (h : k ≤ 2) : IntKind.i64.wrap (1 * 2 ^ ((k : Nat) : Int).toNat) = 2 ^ k := by
 rw [Int.toNat_natCast]
 rcases (show k = 0 ∨ k = 1 ∨ k = 2 by omega) with rfl | rfl | rfl <;> decide
theorem zes {k : Nat} (h : k ≤ 2) : (1 : Int) ≤ 2 ^ k ∧ (2 : Int) ^ k ≤ 4 := by rcases (show k = 0 ∨ k = 1 ∨ k = 2 by omega) with rfl | rfl | rfl <;> decide
theorem zbB {n : Nat} {s : Sv} (g : SvOk n s) : zfA s.vs := by
 refine ⟨by have := g.vl; have := g.ep; omega, fun k => ?_⟩
 rcases Nat.lt_or_ge k s.vs.length with h | h
 ·rw [zfz h]
  have := g.vo _ (List.getElem_mem h)
  have := (z3a.1 this).1
  omega
 ·simp [vAt, List.getD, List.getElem?_eq_none h]
theorem zcu (a K : Int) (up : Bool) (fs : List Fl) (ep : Int) (vs : List (List Lf)) (tk : List Int) (al : List Ch) (re rt rk : Int) (hf : za1 fs) (hv : zfA vs) (ht : (tk.length : Int) ≤ 100000000) (hal : (al.length : Int) ≤ 100000000) :
 CT Tryz.prog 17 [] [.agg [.int .i64 a, .int .i64 K, .bool up, .sl 3 (flE fs), .int .i64 ep, .sl 1 (vwE vs), .sl 1 (isE tk), .sl 3 (chE al), .int .i64 re, .int .i64 rt, .int .i64 rk]] (.bool (zct a K ep vs tk al re rt rk (svOf a K (z10 fs z0Y)))) [] := by
 have c0 := z3p K
 by_cases hK : 0 ≤ K ∧ K ≤ 2
 ·obtain ⟨k, rfl⟩ : ∃ k : Nat, K = k := ⟨K.toNat, by omega⟩
  have hk : k ≤ 2 := by omega
  have hpw := zes hk
  have e1 := shl1 hk
  have e2 : IntKind.i64.wrap ((2 : Int) ^ k - 1) = 2 ^ k - 1 := by rw [wrap_i64 (by omega) (by omega)]
  have c1 := c_in a 0 (2 ^ k - 1)
  unfold zct
  rw [z2q hK, Bool.true_and, Int.toNat_natCast]
  rw [z2q hK] at c0
  cases hin : inB a 0 (2 ^ k - 1) with
  | false =>
    rw [hin] at c1
    rw [Bool.false_and]
    generalize (2 : Int) ^ k = pk at e1 e2 c1
    refine z01 z0p 1 rfl Tryz.func17 rfl rfl rfl ?_
    repeat ((try conv => whnf); first | (refine ccA ([]) (c0) ?_) | (refine And.intro (show _ ≤ (64 : Int) from by omega) ?_) | (refine Exists.intro _ (And.intro e1.symm ?_)) | (refine Exists.intro _ (And.intro e2.symm ?_)) | (refine ccA ([]) (c1) ?_) | (refine stpQ ?_))
    (refine z00 (by rfl) ?_ ?_ (by rfl)) <;> repeat' (first | (exact eqA) | (refine And.intro ?_ ?_) | ((fail_if_success (with_reducible (show _ = _))); (show _ = _)))
  | true =>
    rw [hin] at c1
    rw [Bool.true_and]
    have c2 := zac a (k : Int) fs hf
    have g := z9W a (k : Int) (z10 fs z0Y)
    have hh := zeq a (k : Int) (z10 fs z0Y)
    have hlt := (z2v fs z0Y).2
    generalize svOf a (k : Int) (z10 fs z0Y) = s at c2 g hh ⊢
    have c3 := zaf vs s.vs true hv (zbB g) (fun _ => hh)
    have c4 := zae tk (tkI s.tk) ht (by rw [zer]; have := g.tl; have := g.ep; omega)
    have c5 := z6C al s.al hal (by have := g.al; omega)
    rw [show isE (tkI s.tk) = ntE s.tk from (zgg s.tk).symm] at c4
    clear g hh hlt
    obtain ⟨nep, nvs, ntk, nal, nre, nrt, nrk⟩ := s
    unfold svE at c2
    simp only at c2 c3 c4 c5 ⊢
    generalize vwZ true nvs = V at c2 c3
    generalize decide (vs = nvs) = b1 at c3 ⊢
    generalize decide (tk = tkI ntk) = b2 at c4 ⊢
    generalize decide (al = nal) = b3 at c5 ⊢
    generalize (2 : Int) ^ k = pk at e1 e2 c1
    refine z01 z0p 1 rfl Tryz.func17 rfl rfl rfl ?_
    repeat' (first | ((try conv => whnf); first | (refine ccA ([]) (c0) ?_) | (refine And.intro (show _ ≤ (64 : Int) from by omega) ?_) | (refine Exists.intro _ (And.intro e1.symm ?_)) | (refine Exists.intro _ (And.intro e2.symm ?_)) | (refine ccA ([]) (c1) ?_) | (refine ccA ([]) (c2) ?_) | (refine ccA ([]) (c3) ?_) | (refine ccA ([]) (c4) ?_) | (refine ccA ([]) (c5) ?_) | (refine And.intro (by kernel_rfl) ?_) | (refine stpQ ?_)) | ((try conv => whnf); first | (refine cb_d (fun h => ?_) (fun h => ?_)) | (refine cb_n (fun h => ?_) (fun h => ?_)) | (refine cb (fun h => ?_) (fun h => ?_))))
    all_goals
     (refine z00 (by rfl) ?_ ?_ (by rfl)) <;> repeat' (first | (exact eqA) | (refine And.intro ?_ ?_) | ((fail_if_success (with_reducible (show _ = _))); (show _ = _)))
    all_goals first
     | (simp_all [eqC]; done)
     | (simp_all only [Bool.true_and]
        show eqC [.int .i64 re, .int .i64 rt, .int .i64 rk] [.int .i64 (nre : Int), .int .i64 (nrt : Int), .int .i64 (nrk : Int)] = _
        simp [eqC])
 ·rw [z4F hK] at c0
  have hr : zct a K ep vs tk al re rt rk (svOf a K (z10 fs z0Y)) = false := by unfold zct; rw [z4F hK]; rfl
  rw [hr]
  refine z01 z0p 1 rfl Tryz.func17 rfl rfl rfl ?_
  repeat ((try conv => whnf); first | (refine ccA ([]) (c0) ?_) | (refine stpQ ?_))
  (refine z00 (by rfl) ?_ ?_ (by rfl)) <;> repeat' (first | (exact eqA) | (refine And.intro ?_ ?_) | ((fail_if_success (with_reducible (show _ = _))); (show _ = _)))
end Go.Proofs.YtfjbinbpgdiafaaGreatDoor
namespace Go.Proofs.YtfjbinbpgdiafaaGreatDoor
set_option maxRecDepth 100000
set_option maxHeartbeats 8000000
set_option linter.unusedVariables false
set_option linter.unusedSimpArgs false
set_option linter.unusedSectionVars false
open Go.RowKit Pl
end Go.Proofs.YtfjbinbpgdiafaaGreatDoor
