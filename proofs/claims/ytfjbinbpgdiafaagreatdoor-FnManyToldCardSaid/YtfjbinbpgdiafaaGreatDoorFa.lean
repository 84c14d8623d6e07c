/- The types that the code names. Functions by content: names, values, lists of entries. Functions by content: lists of entries. Functions by content: numbers, strings and entries as bytes. -/
import Derived.Test.YtfjbinbpgdiafaaGreatDoorVd
import Derived.Test.YtfjbinbpgdiafaaGreatDoorWa
import Derived.Test.YtfjbinbpgdiafaaGreatDoorPlainM
namespace Go.Proofs.YtfjbinbpgdiafaaGreatDoor
set_option linter.unusedVariables false
set_option linter.unusedSimpArgs false
set_option linter.unusedSectionVars false
open Go.RowKit Pl
def zdA : Ty := ⟨1, 8, [.int .i64 0], .int .i64, false⟩
def tySl (e : TypeId) : Ty := ⟨1, 24, [.val nilV], .slice e, false⟩
def ttL : List (Nat × Ty) := [
 (4, ⟨1, 1, [.bool false], .bool, false⟩),
 (9, ⟨1, 16, [.str []], .string, false⟩),
 (5, ⟨1, 1, [.int .u8 0], .int .u8, false⟩),
 (158, ⟨2, 32, [.str [], .str []], .struct [(0, 9), (1, 9)], true⟩),
 (36, tySl 158),
 (22, tySl 5),
 (37, tySl 9),
 (28, tySl 3),
 (134, ⟨3, 40, [.int .i64 0, .str [], .str []], .struct [(0, 3), (1, 9), (2, 9)], true⟩),
 (29, tySl 134),
 (140, ⟨6, 56, [.int .i64 0, .int .i64 0, .int .i64 0, .int .i64 0, .int .i64 0, .str []], .struct [(0, 3), (1, 3), (2, 3), (3, 3), (4, 3), (5, 9)], true⟩),
 (39, ⟨2, 48, [.val nilV, .val nilV], .struct [(0, 36), (1, 37)], false⟩),
 (117, ⟨3, 32, [.str [], .int .i64 0, .bool false], .struct [(0, 9), (1, 3), (2, 4)], false⟩),
 (126, ⟨3, 32, [.str [], .int .i64 0, .bool false], .struct [(0, 9), (1, 3), (2, 4)], false⟩),
 (142, ⟨3, 40, [.val nilV, .int .i64 0, .int .i64 0], .struct [(0, 22), (1, 3), (2, 3)], false⟩),
 (148, ⟨1, 4, [.int .u32 0], .int .u32, false⟩),
 (77, ⟨1, 8, [.int .u64 0], .int .u64, false⟩),
 (3, zdA)]
def tt : TT := lk ttL
set_option maxRecDepth 100000 in
set_option maxHeartbeats 4000000 in
theorem z6m : ∀ p ∈ ttL, TyOk Tryz.prog p.1 p.2 := by
 simp only [ttL, List.forall_mem_cons]
 repeat' (refine And.intro ?_ ?_)
 all_goals first
  | exact (fun _ h => by cases h)
  | exact ⟨⟨_, _, rfl, rfl, rfl, rfl, rfl⟩, ⟨_, rfl, rfl⟩, rfl, rfl, fun h => (Bool.false_ne_true h).elim⟩
  | (refine ⟨⟨_, _, rfl, rfl, rfl, rfl, rfl⟩, ⟨_, rfl, rfl⟩, rfl, rfl, fun _ => ⟨by kernel_rfl, by kernel_rfl, _, rfl, z9v ?_⟩⟩
     repeat (first | exact rfl | (refine And.intro (by decide) (And.intro rfl (And.intro rfl ?_)))))
theorem z0q : TtOk Tryz.prog tt := fun t y h => z6m (t, y) (z18 h)
end Go.Proofs.YtfjbinbpgdiafaaGreatDoor
namespace Go.Proofs.YtfjbinbpgdiafaaGreatDoor
set_option maxRecDepth 100000
set_option maxHeartbeats 1000000
set_option linter.unusedVariables false
set_option linter.unusedSimpArgs false
set_option linter.unusedSectionVars false
open Go.RowKit Pl
attribute [local irreducible] z0t z0u z0A AnsP LeP
theorem za7 {f : Nat → Bool} {l : Bs} {k : Nat} (hk : k < l.length) (h : f (l.getD k 0).toNat = false) : allN f l = false := by
 have : l.all (fun b => f b.toNat) = false := by
  rw [List.all_eq_false]
  refine ⟨l[k], List.getElem_mem hk, ?_⟩
  have e : l.getD k 0 = l[k] := by simp [List.getD, List.getElem?_eq_getElem hk]
  rw [← e, h]; simp
 rw [allN, this, Bool.and_false]
theorem z74 {f : Nat → Bool} {l : Bs} (h : ∀ k, k < l.length → f (l.getD k 0).toNat = true) : allN f l = inB l.length 1 12 := by
 have : l.all (fun b => f b.toNat) = true := by
  rw [List.all_eq_true]
  intro b hb
  obtain ⟨k, hk, rfl⟩ := List.getElem_of_mem hb
  have e : l.getD k 0 = l[k] := by simp [List.getD, List.getElem?_eq_getElem hk]
  rw [← e]; exact h k hk
 rw [allN, this, Bool.and_true, inB]
 congr 1 <;> exact decide_eq_decide.2 (by omega)
theorem zch {f : Nat → Bool} {l : Bs} (h : 12 < l.length) : allN f l = false := by
 have : decide (l.length ≤ 12) = false := by simp; omega
 rw [allN, this]; simp
theorem z86 {n : Nat} (h : (97 ≤ n ∧ n ≤ 122) ∨ (48 ≤ n ∧ n ≤ 57) ∨ n = 64 ∨ n = 46) : z3T n = true := by simp [z3T]; omega
theorem za8 {n : Nat} (h : ¬ ((97 ≤ n ∧ n ≤ 122) ∨ (48 ≤ n ∧ n ≤ 57) ∨ n = 64 ∨ n = 46)) : z3T n = false := by simp [z3T]; omega
theorem za9 {n : Nat} (h : 33 ≤ n ∧ n ≤ 126) : valN n = true := by simp [valN]; omega
theorem zci {n : Nat} (h : ¬ (33 ≤ n ∧ n ≤ 126)) : valN n = false := by simp [valN]; omega
theorem zaa {l : Bs} (h : 12 < l.length) : inB l.length 1 12 = false := by
 simp [inB]; omega
theorem c_in (a lo hi : Int) : CT Tryz.prog 34 [] [.int .i64 a, .int .i64 lo, .int .i64 hi] (.bool (inB a lo hi)) [] := by
 refine z0b z0q 1 rfl Tryz.func34 rfl rfl rfl ?_
 repeat' (first | ((try conv => whnf); first | (refine stpQ ?_)) | ((try conv => whnf); first | (refine cb_d (fun h => ?_) (fun h => ?_)) | (refine cb_n (fun h => ?_) (fun h => ?_)) | (refine cb (fun h => ?_) (fun h => ?_))))
 all_goals
  (refine z02 (by rfl) ?_ ?_ (by rfl)) <;> repeat' (first | (exact eqA) | (refine shE ?_) | (refine And.intro ?_ ?_)) <;> simp [inB] <;> omega
theorem z2N (a lo hi : Int) : CT Tryz.prog 39 [] [.int .i64 a, .int .i64 lo, .int .i64 hi] (.bool (inB a lo hi)) [] := by
 refine z0b z0q 1 rfl Tryz.func39 rfl rfl rfl ?_
 repeat' (first | ((try conv => whnf); first | (refine stpQ ?_)) | ((try conv => whnf); first | (refine cb_d (fun h => ?_) (fun h => ?_)) | (refine cb_n (fun h => ?_) (fun h => ?_)) | (refine cb (fun h => ?_) (fun h => ?_))))
 all_goals
  (refine z02 (by rfl) ?_ ?_ (by rfl)) <;> repeat' (first | (exact eqA) | (refine shE ?_) | (refine And.intro ?_ ?_)) <;> simp [inB] <;> omega
theorem zab (s : Bs) (hs : (s.length : Int) ≤ 1000000000) : CT Tryz.prog 36 [] [.str s] (.bool (z0E s)) [] := by
 refine z0b z0q 1 rfl Tryz.func36 rfl rfl rfl ?_
 repeat ((try conv => whnf); first | (refine stpQ ?_))
 refine z0K Nat (fun k => ⟨[(0, .str s), (3, .int .i64 (k : Int))], [], 2⟩) (fun k => k ≤ s.length ∧ k ≤ 13 ∧ ∀ j, j < k → z3T (s.getD j 0).toNat = true) (fun k => s.length - k) 0 ⟨by omega, by omega, fun j hj => by omega⟩ ?_ ?_
 ·(refine z01 (by rfl) ?_ ?_) <;> repeat' (first | (exact eqA) | (refine shE ?_) | (refine And.intro ?_ ?_))
 ·rintro k ⟨hk, hk2, hp⟩
  repeat ((try conv => whnf); first | (refine stpQ ?_))
  ((try conv => whnf); first | (refine cb_d (fun h => ?_) (fun h => ?_)) | (refine cb_n (fun h => ?_) (fun h => ?_)) | (refine cb (fun h => ?_) (fun h => ?_)))
  ·repeat ((try conv => whnf); first | (refine stpQ ?_))
   ((try conv => whnf); first | (refine cb_d (fun h => ?_) (fun h => ?_)) | (refine cb_n (fun h => ?_) (fun h => ?_)) | (refine cb (fun h => ?_) (fun h => ?_)))
   ·have hlt : k < s.length := by omega
    have next : z3T (s.getD k 0).toNat = true → ∀ j, j < k + 1 → z3T (s.getD j 0).toNat = true := fun hx j hj => by
     by_cases hjk : j = k
     ·subst hjk; exact hx
     ·exact hp j (by omega)
    have bad : z3T (s.getD k 0).toNat = false → z0E s = false := fun hx => za7 hlt hx
    repeat' (first | ((try conv => whnf); first | (refine stpQ ?_)) | ((try conv => whnf); first | (refine cb_d (fun h => ?_) (fun h => ?_)) | (refine cb_n (fun h => ?_) (fun h => ?_)) | (refine cb (fun h => ?_) (fun h => ?_))))
    all_goals first
     | (refine ⟨k + 1, ⟨by omega, by omega, next (z86 (by omega))⟩, by omega, ?_⟩
        (refine z01 (by rfl) ?_ ?_) <;> repeat' (first | (exact eqA) | (refine shE ?_) | (refine And.intro ?_ ?_)))
     | (rw [bad (za8 (by omega))]
        (refine z02 (by rfl) ?_ ?_ (by rfl)) <;> repeat' (first | (exact eqA) | (refine shE ?_) | (refine And.intro ?_ ?_)))
   ·repeat ((try conv => whnf); first | (refine ccA ([]) (c_in _ _ _) ?_) | (refine stpQ ?_))
    (refine z02 (by rfl) ?_ ?_ (by rfl)) <;> repeat' (first | (exact eqA) | (refine shE ?_) | (refine And.intro ?_ ?_))
    rw [z0E, zch (by omega), zaa (by omega)]
  ·repeat ((try conv => whnf); first | (refine ccA ([]) (c_in _ _ _) ?_) | (refine stpQ ?_))
   (refine z02 (by rfl) ?_ ?_ (by rfl)) <;> repeat' (first | (exact eqA) | (refine shE ?_) | (refine And.intro ?_ ?_))
   rw [z0E, z74 (fun j hj => hp j (by omega))]
theorem z87 (s : Bs) (hs : (s.length : Int) ≤ 1000000000) : CT Tryz.prog 114 [] [.str s] (.bool (z0E s)) [] := by
 refine z0b z0q 1 rfl Tryz.func114 rfl rfl rfl ?_
 repeat ((try conv => whnf); first | (refine stpQ ?_))
 refine z0K Nat (fun k => ⟨[(0, .str s), (3, .int .i64 (k : Int))], [], 2⟩) (fun k => k ≤ s.length ∧ ∀ j, j < k → z3T (s.getD j 0).toNat = true) (fun k => s.length - k) 0 ⟨by omega, fun j hj => by omega⟩ ?_ ?_
 ·(refine z01 (by rfl) ?_ ?_) <;> repeat' (first | (exact eqA) | (refine shE ?_) | (refine And.intro ?_ ?_))
 ·rintro k ⟨hk, hp⟩
  repeat ((try conv => whnf); first | (refine stpQ ?_))
  ((try conv => whnf); first | (refine cb_d (fun h => ?_) (fun h => ?_)) | (refine cb_n (fun h => ?_) (fun h => ?_)) | (refine cb (fun h => ?_) (fun h => ?_)))
  ·have hlt : k < s.length := by omega
   have next : z3T (s.getD k 0).toNat = true → ∀ j, j < k + 1 → z3T (s.getD j 0).toNat = true := fun hx j hj => by
    by_cases hjk : j = k
    ·subst hjk; exact hx
    ·exact hp j (by omega)
   have bad : z3T (s.getD k 0).toNat = false → z0E s = false := fun hx => za7 hlt hx
   repeat' (first | ((try conv => whnf); first | (refine stpQ ?_)) | ((try conv => whnf); first | (refine cb_d (fun h => ?_) (fun h => ?_)) | (refine cb_n (fun h => ?_) (fun h => ?_)) | (refine cb (fun h => ?_) (fun h => ?_))))
   all_goals first
    | (refine ⟨k + 1, ⟨by omega, next (z86 (by omega))⟩, by omega, ?_⟩
       (refine z01 (by rfl) ?_ ?_) <;> repeat' (first | (exact eqA) | (refine shE ?_) | (refine And.intro ?_ ?_)))
    | (rw [bad (za8 (by omega))]
       (refine z02 (by rfl) ?_ ?_ (by rfl)) <;> repeat' (first | (exact eqA) | (refine shE ?_) | (refine And.intro ?_ ?_)))
  ·repeat ((try conv => whnf); first | (refine ccA ([]) (z2N _ _ _) ?_) | (refine stpQ ?_))
   (refine z02 (by rfl) ?_ ?_ (by rfl)) <;> repeat' (first | (exact eqA) | (refine shE ?_) | (refine And.intro ?_ ?_))
   rw [z0E, z74 (fun j hj => hp j (by omega))]
theorem zcj (s : Bs) (hs : (s.length : Int) ≤ 1000000000) : CT Tryz.prog 123 [] [.str s] (.bool (z17 s)) [] := by
 refine z0b z0q 1 rfl Tryz.func123 rfl rfl rfl ?_
 repeat ((try conv => whnf); first | (refine stpQ ?_))
 refine z0K Nat (fun k => ⟨[(0, .str s), (3, .int .i64 (k : Int))], [], 2⟩) (fun k => k ≤ s.length ∧ k ≤ 13 ∧ ∀ j, j < k → valN (s.getD j 0).toNat = true) (fun k => s.length - k) 0 ⟨by omega, by omega, fun j hj => by omega⟩ ?_ ?_
 ·(refine z01 (by rfl) ?_ ?_) <;> repeat' (first | (exact eqA) | (refine shE ?_) | (refine And.intro ?_ ?_))
 ·rintro k ⟨hk, hk2, hp⟩
  repeat ((try conv => whnf); first | (refine stpQ ?_))
  ((try conv => whnf); first | (refine cb_d (fun h => ?_) (fun h => ?_)) | (refine cb_n (fun h => ?_) (fun h => ?_)) | (refine cb (fun h => ?_) (fun h => ?_)))
  ·repeat ((try conv => whnf); first | (refine stpQ ?_))
   ((try conv => whnf); first | (refine cb_d (fun h => ?_) (fun h => ?_)) | (refine cb_n (fun h => ?_) (fun h => ?_)) | (refine cb (fun h => ?_) (fun h => ?_)))
   ·have hlt : k < s.length := by omega
    have next : valN (s.getD k 0).toNat = true → ∀ j, j < k + 1 → valN (s.getD j 0).toNat = true := fun hx j hj => by
     by_cases hjk : j = k
     ·subst hjk; exact hx
     ·exact hp j (by omega)
    have bad : valN (s.getD k 0).toNat = false → z17 s = false := fun hx => za7 hlt hx
    have h8 := (s.getD k 0).toNat_lt
    repeat ((try conv => whnf); first | (refine ccA ([]) (c_in _ _ _) ?_) | (refine stpQ ?_))
    ((try conv => whnf); first | (refine cb_d (fun h => ?_) (fun h => ?_)) | (refine cb_n (fun h => ?_) (fun h => ?_)) | (refine cb (fun h => ?_) (fun h => ?_)))
    ·have hx : inB ((s.getD k 0).toNat : Int) 33 126 = false := by simpa using h
     rw [bad (zci fun hc => by rw [z1b.2 (by omega)] at hx; cases hx)]
     repeat ((try conv => whnf); first | (refine stpQ ?_))
     (refine z02 (by rfl) ?_ ?_ (by rfl)) <;> repeat' (first | (exact eqA) | (refine shE ?_) | (refine And.intro ?_ ?_))
    ·have hx : inB ((s.getD k 0).toNat : Int) 33 126 = true := by simpa using h
     rw [z1b] at hx
     repeat ((try conv => whnf); first | (refine stpQ ?_))
     refine ⟨k + 1, ⟨by omega, by omega, next (za9 (by omega))⟩, by omega, ?_⟩
     (refine z01 (by rfl) ?_ ?_) <;> repeat' (first | (exact eqA) | (refine shE ?_) | (refine And.intro ?_ ?_))
   ·repeat ((try conv => whnf); first | (refine ccA ([]) (c_in _ _ _) ?_) | (refine stpQ ?_))
    (refine z02 (by rfl) ?_ ?_ (by rfl)) <;> repeat' (first | (exact eqA) | (refine shE ?_) | (refine And.intro ?_ ?_))
    rw [z17, zch (by omega), zaa (by omega)]
  ·repeat ((try conv => whnf); first | (refine ccA ([]) (c_in _ _ _) ?_) | (refine stpQ ?_))
   (refine z02 (by rfl) ?_ ?_ (by rfl)) <;> repeat' (first | (exact eqA) | (refine shE ?_) | (refine And.intro ?_ ?_))
   rw [z17, z74 (fun j hj => hp j (by omega))]
theorem zb1 (s : Bs) (hs : (s.length : Int) ≤ 1000000000) : CT Tryz.prog 131 [] [.str s] (.bool (z17 s)) [] := by
 refine z0b z0q 1 rfl Tryz.func131 rfl rfl rfl ?_
 repeat ((try conv => whnf); first | (refine stpQ ?_))
 refine z0K Nat (fun k => ⟨[(0, .str s), (3, .int .i64 (k : Int))], [], 2⟩) (fun k => k ≤ s.length ∧ ∀ j, j < k → valN (s.getD j 0).toNat = true) (fun k => s.length - k) 0 ⟨by omega, fun j hj => by omega⟩ ?_ ?_
 ·(refine z01 (by rfl) ?_ ?_) <;> repeat' (first | (exact eqA) | (refine shE ?_) | (refine And.intro ?_ ?_))
 ·rintro k ⟨hk, hp⟩
  repeat ((try conv => whnf); first | (refine stpQ ?_))
  ((try conv => whnf); first | (refine cb_d (fun h => ?_) (fun h => ?_)) | (refine cb_n (fun h => ?_) (fun h => ?_)) | (refine cb (fun h => ?_) (fun h => ?_)))
  ·have hlt : k < s.length := by omega
   have next : valN (s.getD k 0).toNat = true → ∀ j, j < k + 1 → valN (s.getD j 0).toNat = true := fun hx j hj => by
    by_cases hjk : j = k
    ·subst hjk; exact hx
    ·exact hp j (by omega)
   have bad : valN (s.getD k 0).toNat = false → z17 s = false := fun hx => za7 hlt hx
   repeat' (first | ((try conv => whnf); first | (refine stpQ ?_)) | ((try conv => whnf); first | (refine cb_d (fun h => ?_) (fun h => ?_)) | (refine cb_n (fun h => ?_) (fun h => ?_)) | (refine cb (fun h => ?_) (fun h => ?_))))
   all_goals first
    | (refine ⟨k + 1, ⟨by omega, next (za9 (by omega))⟩, by omega, ?_⟩
       (refine z01 (by rfl) ?_ ?_) <;> repeat' (first | (exact eqA) | (refine shE ?_) | (refine And.intro ?_ ?_)))
    | (rw [bad (zci (by omega))]
       (refine z02 (by rfl) ?_ ?_ (by rfl)) <;> repeat' (first | (exact eqA) | (refine shE ?_) | (refine And.intro ?_ ?_)))
  ·repeat ((try conv => whnf); first | (refine ccA ([]) (z2N _ _ _) ?_) | (refine stpQ ?_))
   (refine z02 (by rfl) ?_ ?_ (by rfl)) <;> repeat' (first | (exact eqA) | (refine shE ?_) | (refine And.intro ?_ ?_))
   rw [z17, z74 (fun j hj => hp j (by omega))]
end Go.Proofs.YtfjbinbpgdiafaaGreatDoor
namespace Go.Proofs.YtfjbinbpgdiafaaGreatDoor
set_option maxRecDepth 100000
set_option maxHeartbeats 1000000
set_option linter.unusedVariables false
set_option linter.unusedSimpArgs false
set_option linter.unusedSectionVars false
open Go.RowKit Pl
attribute [local irreducible] z0t z0u z0A AnsP LeP
def lvE (l : List Lf) : List (List T) := l.map fun x => [.str x.1, .str x.2]
theorem z75 {l : List Lf} {k : Nat} (h : k < l.length) : lfAt l k = l[k] := by simp [lfAt, List.getD, List.getElem?_eq_getElem h]
theorem z13 {l : List Lf} {k : Nat} (h : k < l.length) : (lvE l)[k]? = some [.str (lfAt l k).1, .str (lfAt l k).2] := by
 rw [z75 h]; simp [lvE, List.getElem?_eq_getElem h]
theorem z0v (l : List Lf) : (lvE l).length = l.length := by simp [lvE]
theorem z2Z (a b : List Lf) : lvE (a ++ b) = lvE a ++ lvE b := by simp [lvE]
def Fit (l : List Lf) : Prop := ∀ i, ((lfAt l i).1.length : Int) ≤ 1000000000 ∧ ((lfAt l i).2.length : Int) ≤ 1000000000
theorem zck (k : Nat) : (k == 0) = !decide ((0 : Int) < (k : Int)) := by cases k <;> simp <;> omega
theorem z2m (l : List Lf) (hl : (l.length : Int) ≤ 1000000000) (hf : Fit l) : CT Tryz.prog 61 [] [.sl 2 (lvE l)] (.bool (leavesOk l)) [] := by
 have hlen := z0v l
 refine z0b z0q 1 rfl Tryz.func61 rfl rfl rfl ?_
 repeat ((try conv => whnf); first | (refine stpQ ?_))
 refine z0K Nat (fun k => ⟨[(0, .sl 2 (lvE l)), (5, .sl 2 (lvE l)), (6, .int .i64 ((lvE l).length : Int)), (7, .int .i64 (k : Int))], [], 2⟩) (fun k => k ≤ l.length ∧ k ≤ 24 ∧ ∀ j, j < k → z1v l j = true) (fun k => l.length - k) 0 ⟨by omega, by omega, fun j hj => by omega⟩ ?_ ?_
 ·(refine z01 (by rfl) ?_ ?_) <;> repeat' (first | (exact eqA) | (refine shE ?_) | (refine And.intro ?_ ?_))
 ·rintro k ⟨hk, hk2, hp⟩
  have hz := zck k
  repeat ((try conv => whnf); first | (refine stpQ ?_))
  ((try conv => whnf); first | (refine cb_d (fun h => ?_) (fun h => ?_)) | (refine cb_n (fun h => ?_) (fun h => ?_)) | (refine cb (fun h => ?_) (fun h => ?_)))
  ·have hlt : k < l.length := by omega
   have next : z1v l k = true → ∀ j, j < k + 1 → z1v l j = true := fun hx j hj => by
    by_cases hjk : j = k
    ·subst hjk; exact hx
    ·exact hp j (by omega)
   repeat' (first | ((try conv => whnf); first | (refine i_at (z13 hlt) ?_) | (refine i_at (z13 (show k - 1 < l.length by omega)) ?_) | (refine ccA ([]) (zab _ (hf k).1) ?_) | (refine ccA ([]) (zcj _ (hf k).2) ?_) | (refine stpQ ?_)) | ((try conv => whnf); first | (refine cb_d (fun h => ?_) (fun h => ?_)) | (refine cb_n (fun h => ?_) (fun h => ?_)) | (refine cb (fun h => ?_) (fun h => ?_))))
   all_goals first
    | (refine ⟨k + 1, ⟨by omega, by omega, next (by simp_all [z1v, ltB])⟩, by omega, ?_⟩
       (refine z01 (by rfl) ?_ ?_) <;> repeat' (first | (exact eqA) | (refine shE ?_) | (refine And.intro ?_ ?_)))
    | (rw [z2w (by omega)]
       (refine z02 (by rfl) ?_ ?_ (by rfl)) <;> repeat' (first | (exact eqA) | (refine shE ?_) | (refine And.intro ?_ ?_)))
    | (rw [z4f hlt (by simp_all [z1v, ltB])]
       (refine z02 (by rfl) ?_ ?_ (by rfl)) <;> repeat' (first | (exact eqA) | (refine shE ?_) | (refine And.intro ?_ ?_)))
  ·repeat ((try conv => whnf); first | (refine stpQ ?_))
   rw [z2x (by omega) (fun j hj => hp j (by omega))]
   (refine z02 (by rfl) ?_ ?_ (by rfl)) <;> repeat' (first | (exact eqA) | (refine shE ?_) | (refine And.intro ?_ ?_))
theorem z1n (l : List Lf) (hl : (l.length : Int) ≤ 1000000000) (hf : Fit l) : CT Tryz.prog 76 [] [.sl 2 (lvE l)] (.bool (leavesOk l)) [] := by
 have hlen := z0v l
 refine z0b z0q 1 rfl Tryz.func76 rfl rfl rfl ?_
 repeat ((try conv => whnf); first | (refine stpQ ?_))
 refine z0K Nat (fun k => ⟨[(0, .sl 2 (lvE l)), (3, .int .i64 (k : Int))], [], 2⟩) (fun k => k ≤ l.length ∧ ∀ j, j < k → z1v l j = true) (fun k => l.length - k) 0 ⟨by omega, fun j hj => by omega⟩ ?_ ?_
 ·(refine z01 (by rfl) ?_ ?_) <;> repeat' (first | (exact eqA) | (refine shE ?_) | (refine And.intro ?_ ?_))
 ·rintro k ⟨hk, hp⟩
  have hz := zck k
  repeat ((try conv => whnf); first | (refine stpQ ?_))
  ((try conv => whnf); first | (refine cb_d (fun h => ?_) (fun h => ?_)) | (refine cb_n (fun h => ?_) (fun h => ?_)) | (refine cb (fun h => ?_) (fun h => ?_)))
  ·have hlt : k < l.length := by omega
   have next : z1v l k = true → ∀ j, j < k + 1 → z1v l j = true := fun hx j hj => by
    by_cases hjk : j = k
    ·subst hjk; exact hx
    ·exact hp j (by omega)
   repeat' (first | ((try conv => whnf); first | (refine i_at (z13 hlt) ?_) | (refine i_at (z13 (show k - 1 < l.length by omega)) ?_) | (refine ccA ([]) (z87 _ (hf k).1) ?_) | (refine ccA ([]) (zb1 _ (hf k).2) ?_) | (refine stpQ ?_)) | ((try conv => whnf); first | (refine cb_d (fun h => ?_) (fun h => ?_)) | (refine cb_n (fun h => ?_) (fun h => ?_)) | (refine cb (fun h => ?_) (fun h => ?_))))
   all_goals first
    | (refine ⟨k + 1, ⟨by omega, next (by simp_all [z1v, ltB])⟩, by omega, ?_⟩
       (refine z01 (by rfl) ?_ ?_) <;> repeat' (first | (exact eqA) | (refine shE ?_) | (refine And.intro ?_ ?_)))
    | (rw [z4f hlt (by simp_all [z1v, ltB])]
       (refine z02 (by rfl) ?_ ?_ (by rfl)) <;> repeat' (first | (exact eqA) | (refine shE ?_) | (refine And.intro ?_ ?_)))
  ·repeat ((try conv => whnf); first | (refine stpQ ?_))
   (refine z02 (by rfl) ?_ ?_ (by rfl)) <;> repeat' (first | (exact eqA) | (refine shE ?_) | (refine And.intro ?_ ?_))
   by_cases h24 : l.length ≤ 24
   ·rw [z2x (by omega) (fun j hj => hp j (by omega))]; simp; omega
   ·rw [z2w (by omega)]; simp; omega
end Go.Proofs.YtfjbinbpgdiafaaGreatDoor
namespace Go.Proofs.YtfjbinbpgdiafaaGreatDoor
set_option maxRecDepth 100000
set_option maxHeartbeats 400000
set_option linter.unusedVariables false
set_option linter.unusedSimpArgs false
set_option linter.unusedSectionVars false
open Go.RowKit Pl
attribute [local irreducible] z0t z0u z0A AnsP LeP
theorem w_quo {a n : Nat} {K : Int → Prop} (h : a ≤ 9223372036854775807) (hk : K ((a / n : Nat) : Int)) : ∃ r, r = IntKind.i64.wrap ((a : Int).tdiv (n : Int)) ∧ K r := by
 have e : (a : Int).tdiv (n : Int) = ((a / n : Nat) : Int) := Int.ofNat_tdiv a n
 have : a / n ≤ a := Nat.div_le_self _ _
 have h2 : ((a / n : Nat) : Int) ≤ 9223372036854775807 := by generalize a / n = x at *; omega
 have h3 : (0 : Int) ≤ ((a / n : Nat) : Int) := Int.natCast_nonneg _
 generalize a / n = x at *
 exact ⟨_, by rw [e, wrap_i64 (by omega) h2], hk⟩
theorem z1M {a n : Nat} {K : Int → Prop} (h : a ≤ 9223372036854775807) (hk : K ((a / OfNat.ofNat n : Nat) : Int)) : ∃ r, r = IntKind.i64.wrap ((a : Int).tdiv (OfNat.ofNat n : Int)) ∧ K r := w_quo (n := OfNat.ofNat n) h hk
theorem z1c {a n : Nat} {K : Int → Prop} (hk : K ((a % OfNat.ofNat n : Nat) : Int)) : ∃ r, r = (a : Int).tmod (OfNat.ofNat n : Int) ∧ K r :=
 ⟨_, (Int.ofNat_tmod a (OfNat.ofNat n)).symm, hk⟩
theorem wrap_u8 {n : Nat} : IntKind.u8.wrap (n : Int) = ((UInt8.ofNat n).toNat : Int) := by
 show (if (false && decide ((n : Int) % 2 ^ 8 ≥ 2 ^ (8 - 1))) = true then (n : Int) % 2 ^ 8 - 2 ^ 8 else (n : Int) % 2 ^ 8) = _
 simp
theorem w_u8 {n : Nat} {K : Int → Prop} (hk : K ((UInt8.ofNat n).toNat : Int)) : ∃ r, r = IntKind.u8.wrap (n : Int) ∧ K r := ⟨_, wrap_u8.symm, hk⟩
theorem z0s (l : Bs) : (z0i l).length = l.length := by simp [z0i]
theorem c_big (l : Bs) : CT Tryz.prog 5 [] [.sl 1 (z0i l)] (.bool (decide ((1048576 : Int) < (l.length : Int)))) [] := by
 have hlen := z0s l
 refine z0b z0q 1 rfl Tryz.func5 rfl rfl rfl ?_
 repeat ((try conv => whnf); first | (refine stpQ ?_))
 rw [← hlen]
 (refine z02 (by rfl) ?_ ?_ (by rfl)) <;> repeat' (first | (exact eqA) | (refine shE ?_) | (refine And.intro ?_ ?_))
theorem zcl {a n : Nat} {K : Int → Prop} (h : OfNat.ofNat n + a ≤ 9223372036854775807) (hk : K ((OfNat.ofNat n + a : Nat) : Int)) : ∃ r, r = IntKind.i64.wrap ((OfNat.ofNat n : Int) + (a : Int)) ∧ K r :=
 zf2 (a := OfNat.ofNat n) h hk
theorem z2O (n : Nat) (hn : (n : Int) ≤ 2000000000) : CT Tryz.prog 138 [] [.int .i64 (n : Int)] (.str (z0f n)) [] := by
 have hvl := z0Z hn
 refine z0b z0q 1 rfl Tryz.func138 rfl rfl rfl ?_
 repeat ((try conv => whnf); first | (refine stpQ ?_))
 refine z0K (Nat × Bs) (fun ⟨m, out⟩ => ⟨[(0, .int .i64 (m : Int)), (3, .ref 1)], [(1, some (.row 1 (z0i out)))], 2⟩) (fun ⟨m, out⟩ => out ++ z0f m = z0f n ∧ m ≤ n) (fun ⟨m, out⟩ => m) (n, []) ⟨rfl, Nat.le_refl _⟩ ?_ ?_
 ·(refine z01 (by rfl) ?_ ?_) <;> (repeat' (first | (exact eqA) | (refine shE ?_) | (refine And.intro ?_ ?_))) <;> first | rfl | decide
 ·rintro ⟨m, out⟩ ⟨h1, h2⟩
  have hol : out.length + (z0f m).length ≤ 5 := by
   have := congrArg List.length h1
   rw [List.length_append] at this
   omega
  have hbl := z0s out
  repeat ((try conv => whnf); first | (refine stpQ ?_))
  ((try conv => whnf); first | (refine cb_d (fun h => ?_) (fun h => ?_)) | (refine cb_n (fun h => ?_) (fun h => ?_)) | (refine cb (fun h => ?_) (fun h => ?_)))
  ·repeat ((try conv => whnf); first | (refine z1c ?_) | (refine z1M (by omega) ?_) | (refine zcl (by omega) ?_) | (refine w_u8 ?_) | (refine And.intro (by simp [z0s]; omega) ?_) | (refine stpQ ?_))
   refine ⟨(m / 128, out ++ [UInt8.ofNat (128 + m % 128)]), ⟨?_, ?_⟩, ?_, ?_⟩
   ·rw [← h1, z22 (n := m) (by omega)]; simp
   ·exact Nat.le_trans (Nat.div_le_self _ _) h2
   ·exact Nat.div_lt_self (by omega) (by omega)
   ·(refine z01 (by rfl) ?_ ?_) <;> (repeat' (first | (exact eqA) | (refine shE ?_) | (refine And.intro ?_ ?_)))
    simp [z0i, z35]
    rfl
  ·repeat ((try conv => whnf); first | (refine w_u8 ?_) | (refine And.intro (by simp [z0s]; omega) ?_) | (refine Exists.intro (out ++ [UInt8.ofNat m]) (And.intro (by simp [z0i, z35]; first | done | fail) ?_)) | (refine stpQ ?_))
   rw [← h1, z0Y (n := m) (by omega)]
   (refine z02 (by rfl) ?_ ?_ (by rfl)) <;> repeat' (first | (exact eqA) | (refine shE ?_) | (refine And.intro ?_ ?_))
theorem z10 {n : Nat} (hn : (n : Int) ≤ 2000000000) : ((z0f n).length : Int) ≤ 5 := by have := z0Z hn; omega
theorem z29 (s : Bs) (hs : (s.length : Int) ≤ 1000000000) : CT Tryz.prog 139 [] [.str s] (.str (z0e s)) [] := by
 have hvl := z10 (n := s.length) (by omega)
 refine z0b z0q 1 rfl Tryz.func139 rfl rfl rfl ?_
 repeat ((try conv => whnf); first | (refine ccA ([]) (z2O s.length (by omega)) ?_) | (refine stpQ ?_))
 (refine z02 (by rfl) ?_ ?_ (by rfl)) <;> repeat' (first | (exact eqA) | (refine shE ?_) | (refine And.intro ?_ ?_))
 rfl
theorem z30 {s : Bs} (hs : (s.length : Int) ≤ 1000000000) : ((z0e s).length : Int) ≤ (s.length : Int) + 5 := by have := z1V (l := s) (by omega); omega
def Sml (l : List Lf) : Prop := (l.length : Int) ≤ 1000 ∧ ∀ i, ((lfAt l i).1.length : Int) ≤ 1000000 ∧ ((lfAt l i).2.length : Int) ≤ 1000000
theorem z5k {l : List Lf} {k : Nat} (h : k < l.length) : (l.take (k + 1)).flatMap z1i = (l.take k).flatMap z1i ++ (z0e (lfAt l k).1 ++ z0e (lfAt l k).2) := by
 rw [z1j l k h, List.flatMap_append]; simp [z1i]
theorem z76 {l : List Lf} (h : Sml l) : ∀ k, (((l.take k).flatMap z1i).length : Int) ≤ 3000000 * k
 | 0 => by simp
 | k + 1 => by
   have ih := z76 h k
   by_cases hk : k < l.length
   ·rw [z5k hk]
    have h1 := z30 (s := (lfAt l k).1) (by have := (h.2 k).1; omega)
    have h2 := z30 (s := (lfAt l k).2) (by have := (h.2 k).2; omega)
    have := h.2 k
    simp only [List.length_append]
    omega
   ·rw [List.take_of_length_le (by omega)]
    rw [List.take_of_length_le (by omega)] at ih
    omega
theorem z88 (l : List Lf) (hl : Sml l) : CT Tryz.prog 140 [] [.sl 2 (lvE l)] (.str (z0l l)) [] := by
 have hlen := z0v l
 have hll := hl.1
 have hv := z10 (n := l.length) (by omega)
 refine z0b z0q 1 rfl Tryz.func140 rfl rfl rfl ?_
 repeat ((try conv => whnf); first | (refine Exists.intro l.length (And.intro hlen ?_)) | (refine ccA ([]) (z2O l.length (by omega)) ?_) | (refine stpQ ?_))
 refine z0K Nat (fun k => ⟨[(3, .str (z0f l.length ++ (l.take k).flatMap z1i)), (9, .sl 2 (lvE l)), (10, .int .i64 (l.length : Int)), (11, .int .i64 (k : Int))], [], 2⟩) (fun k => k ≤ l.length) (fun k => l.length - k) 0 (by omega) ?_ ?_
 ·(refine z01 (by rfl) ?_ ?_) <;> (repeat' (first | (exact eqA) | (refine shE ?_) | (refine And.intro ?_ ?_))) <;> simp
 ·intro k hk
  have hfl := z76 hl k
  repeat ((try conv => whnf); first | (refine stpQ ?_))
  ((try conv => whnf); first | (refine cb_d (fun h => ?_) (fun h => ?_)) | (refine cb_n (fun h => ?_) (fun h => ?_)) | (refine cb (fun h => ?_) (fun h => ?_)))
  ·have hk2 : k < l.length := by omega
   have hnx := z5k hk2
   have h1 := z30 (s := (lfAt l k).1) (by have := (hl.2 k).1; omega)
   have h2 := z30 (s := (lfAt l k).2) (by have := (hl.2 k).2; omega)
   have h3 := hl.2 k
   repeat ((try conv => whnf); first | (refine i_at (z13 hk2) ?_) | (refine ccA ([]) (z29 (lfAt l k).1 (by omega)) ?_) | (refine ccA ([]) (z29 (lfAt l k).2 (by omega)) ?_) | (refine And.intro (by simp only [List.length_append]; omega) ?_) | (refine stpQ ?_))
   refine ⟨k + 1, by omega, by omega, ?_⟩
   (refine z01 (by rfl) ?_ ?_) <;> (repeat' (first | (exact eqA) | (refine shE ?_) | (refine And.intro ?_ ?_)))
   rw [hnx]; simp
  ·obtain rfl : k = l.length := by omega
   repeat ((try conv => whnf); first | (refine stpQ ?_))
   (refine z02 (by rfl) ?_ ?_ (by rfl)) <;> repeat' (first | (exact eqA) | (refine shE ?_) | (refine And.intro ?_ ?_))
   rw [List.take_length]; rfl
end Go.Proofs.YtfjbinbpgdiafaaGreatDoor
