/- The types that the code names. Functions by content: names, values, lists of entries. Functions by content: lists of entries. Functions by content: numbers, strings and entries as bytes. -/
import Derived.Test.YtnhcfmmdaihneaaGreatDoorVd
import Derived.Test.YtnhcfmmdaihneaaGreatDoorWa
import Derived.Test.YtnhcfmmdaihneaaGreatDoorPlainM
namespace Go.Proofs.YtnhcfmmdaihneaaGreatDoor
set_option linter.unusedVariables false
set_option linter.unusedSimpArgs false
set_option linter.unusedSectionVars false
open Go.RowKit Pl
def zdu : Ty := ⟨1, 8, [.int .i64 0], .int .i64, false⟩
def tySl (e : TypeId) : Ty := ⟨1, 24, [.val nilV], .slice e, false⟩
def ttL : List (Nat × Ty) := [
 (4, ⟨1, 1, [.bool false], .bool, false⟩),
 (9, ⟨1, 16, [.str []], .string, false⟩),
 (5, ⟨1, 1, [.int .u8 0], .int .u8, false⟩),
 (193, ⟨2, 32, [.str [], .str []], .struct [(0, 9), (1, 9)], true⟩),
 (80, tySl 193),
 (199, tySl 5),
 (22, tySl 9),
 (39, tySl 3),
 (226, ⟨3, 40, [.int .i64 0, .str [], .str []], .struct [(0, 3), (1, 9), (2, 9)], true⟩),
 (116, tySl 226),
 (88, ⟨3, 32, [.str [], .int .i64 0, .bool false], .struct [(0, 9), (1, 3), (2, 4)], false⟩),
 (77, ⟨3, 32, [.str [], .int .i64 0, .bool false], .struct [(0, 9), (1, 3), (2, 4)], false⟩),
 (258, ⟨1, 4, [.int .u32 0], .int .u32, false⟩),
 (177, ⟨1, 8, [.int .u64 0], .int .u64, false⟩),
 (3, zdu)]
def tt : TT := lk ttL
set_option maxRecDepth 100000 in
set_option maxHeartbeats 4000000 in
theorem z90 : ∀ p ∈ ttL, TyOk Tryz.prog p.1 p.2 := by
 simp only [ttL, List.forall_mem_cons]
 repeat' (refine And.intro ?_ ?_)
 all_goals first
  | exact (fun _ h => by cases h)
  | exact ⟨⟨_, _, rfl, rfl, rfl, rfl, rfl⟩, ⟨_, rfl, rfl⟩, rfl, rfl, fun h => (Bool.false_ne_true h).elim⟩
  | (refine ⟨⟨_, _, rfl, rfl, rfl, rfl, rfl⟩, ⟨_, rfl, rfl⟩, rfl, rfl, fun _ => ⟨by kernel_rfl, by kernel_rfl, _, rfl, z8r ?_⟩⟩
     repeat (first | exact rfl | (refine And.intro (by decide) (And.intro rfl (And.intro rfl ?_)))))
theorem z0E : TtOk Tryz.prog tt := fun t y h => z90 (t, y) (z18 h)
end Go.Proofs.YtnhcfmmdaihneaaGreatDoor
namespace Go.Proofs.YtnhcfmmdaihneaaGreatDoor
set_option maxRecDepth 100000
set_option maxHeartbeats 1000000
set_option linter.unusedVariables false
set_option linter.unusedSimpArgs false
set_option linter.unusedSectionVars false
open Go.RowKit Pl
attribute [local irreducible] z0s z0t z0x AnsP LeP
theorem z93 {f : Nat → Bool} {l : Bs} {k : Nat} (hk : k < l.length) (h : f (l.getD k 0).toNat = false) : allN f l = false := by
 have : l.all (fun b => f b.toNat) = false := by
  rw [List.all_eq_false]
  refine ⟨l[k], List.getElem_mem hk, ?_⟩
  have e : l.getD k 0 = l[k] := by simp [List.getD, List.getElem?_eq_getElem hk]
  rw [← e, h]; simp
 rw [allN, this, Bool.and_false]
theorem z68 {f : Nat → Bool} {l : Bs} (h : ∀ k, k < l.length → f (l.getD k 0).toNat = true) : allN f l = inB l.length 1 12 := by
 have : l.all (fun b => f b.toNat) = true := by
  rw [List.all_eq_true]
  intro b hb
  obtain ⟨k, hk, rfl⟩ := List.getElem_of_mem hb
  have e : l.getD k 0 = l[k] := by simp [List.getD, List.getElem?_eq_getElem hk]
  rw [← e]; exact h k hk
 rw [allN, this, Bool.and_true, inB]
 congr 1 <;> exact decide_eq_decide.2 (by omega)
theorem zb2 {f : Nat → Bool} {l : Bs} (h : 12 < l.length) : allN f l = false := by
 have : decide (l.length ≤ 12) = false := by simp; omega
 rw [allN, this]; simp
theorem z78 {n : Nat} (h : (97 ≤ n ∧ n ≤ 122) ∨ (48 ≤ n ∧ n ≤ 57) ∨ n = 64 ∨ n = 46) : z3l n = true := by simp [z3l]; omega
theorem z94 {n : Nat} (h : ¬ ((97 ≤ n ∧ n ≤ 122) ∨ (48 ≤ n ∧ n ≤ 57) ∨ n = 64 ∨ n = 46)) : z3l n = false := by simp [z3l]; omega
theorem z95 {n : Nat} (h : 33 ≤ n ∧ n ≤ 126) : valN n = true := by simp [valN]; omega
theorem zb3 {n : Nat} (h : ¬ (33 ≤ n ∧ n ≤ 126)) : valN n = false := by simp [valN]; omega
theorem z96 {l : Bs} (h : 12 < l.length) : inB l.length 1 12 = false := by
 simp [inB]; omega
theorem c_in (a lo hi : Int) : CT Tryz.prog 94 [] [.int .i64 a, .int .i64 lo, .int .i64 hi] (.bool (inB a lo hi)) [] := by
 refine z0b z0E 1 rfl Tryz.func94 rfl rfl rfl ?_
 repeat' (first | ((try conv => whnf); first | (refine stpQ ?_)) | ((try conv => whnf); first | (refine cb_d (fun h => ?_) (fun h => ?_)) | (refine cb_n (fun h => ?_) (fun h => ?_)) | (refine cb (fun h => ?_) (fun h => ?_))))
 all_goals
  (refine z07 (by rfl) ?_ ?_ (by rfl)) <;> repeat' (first | (exact eqA) | (refine shE ?_) | (refine And.intro ?_ ?_)) <;> simp [inB] <;> omega
theorem z3w (a lo hi : Int) : CT Tryz.prog 84 [] [.int .i64 a, .int .i64 lo, .int .i64 hi] (.bool (inB a lo hi)) [] := by
 refine z0b z0E 1 rfl Tryz.func84 rfl rfl rfl ?_
 repeat' (first | ((try conv => whnf); first | (refine stpQ ?_)) | ((try conv => whnf); first | (refine cb_d (fun h => ?_) (fun h => ?_)) | (refine cb_n (fun h => ?_) (fun h => ?_)) | (refine cb (fun h => ?_) (fun h => ?_))))
 all_goals
  (refine z07 (by rfl) ?_ ?_ (by rfl)) <;> repeat' (first | (exact eqA) | (refine shE ?_) | (refine And.intro ?_ ?_)) <;> simp [inB] <;> omega
theorem z97 (s : Bs) (hs : (s.length : Int) ≤ 1000000000) : CT Tryz.prog 227 [] [.str s] (.bool (z0J s)) [] := by
 refine z0b z0E 1 rfl Tryz.func227 rfl rfl rfl ?_
 repeat ((try conv => whnf); first | (refine stpQ ?_))
 refine z0Y Nat (fun k => ⟨[(0, .str s), (3, .int .i64 (k : Int))], [], 2⟩) (fun k => k ≤ s.length ∧ k ≤ 13 ∧ ∀ j, j < k → z3l (s.getD j 0).toNat = true) (fun k => s.length - k) 0 ⟨by omega, by omega, fun j hj => by omega⟩ ?_ ?_
 ·(refine z01 (by rfl) ?_ ?_) <;> repeat' (first | (exact eqA) | (refine shE ?_) | (refine And.intro ?_ ?_))
 ·rintro k ⟨hk, hk2, hp⟩
  repeat ((try conv => whnf); first | (refine stpQ ?_))
  ((try conv => whnf); first | (refine cb_d (fun h => ?_) (fun h => ?_)) | (refine cb_n (fun h => ?_) (fun h => ?_)) | (refine cb (fun h => ?_) (fun h => ?_)))
  ·repeat ((try conv => whnf); first | (refine stpQ ?_))
   ((try conv => whnf); first | (refine cb_d (fun h => ?_) (fun h => ?_)) | (refine cb_n (fun h => ?_) (fun h => ?_)) | (refine cb (fun h => ?_) (fun h => ?_)))
   ·have hlt : k < s.length := by omega
    have next : z3l (s.getD k 0).toNat = true → ∀ j, j < k + 1 → z3l (s.getD j 0).toNat = true := fun hx j hj => by
     by_cases hjk : j = k
     ·subst hjk; exact hx
     ·exact hp j (by omega)
    have bad : z3l (s.getD k 0).toNat = false → z0J s = false := fun hx => z93 hlt hx
    repeat' (first | ((try conv => whnf); first | (refine stpQ ?_)) | ((try conv => whnf); first | (refine cb_d (fun h => ?_) (fun h => ?_)) | (refine cb_n (fun h => ?_) (fun h => ?_)) | (refine cb (fun h => ?_) (fun h => ?_))))
    all_goals first
     | (refine ⟨k + 1, ⟨by omega, by omega, next (z78 (by omega))⟩, by omega, ?_⟩
        (refine z01 (by rfl) ?_ ?_) <;> repeat' (first | (exact eqA) | (refine shE ?_) | (refine And.intro ?_ ?_)))
     | (rw [bad (z94 (by omega))]
        (refine z07 (by rfl) ?_ ?_ (by rfl)) <;> repeat' (first | (exact eqA) | (refine shE ?_) | (refine And.intro ?_ ?_)))
   ·repeat ((try conv => whnf); first | (refine ccA ([]) (c_in _ _ _) ?_) | (refine stpQ ?_))
    (refine z07 (by rfl) ?_ ?_ (by rfl)) <;> repeat' (first | (exact eqA) | (refine shE ?_) | (refine And.intro ?_ ?_))
    rw [z0J, zb2 (by omega), z96 (by omega)]
  ·repeat ((try conv => whnf); first | (refine ccA ([]) (c_in _ _ _) ?_) | (refine stpQ ?_))
   (refine z07 (by rfl) ?_ ?_ (by rfl)) <;> repeat' (first | (exact eqA) | (refine shE ?_) | (refine And.intro ?_ ?_))
   rw [z0J, z68 (fun j hj => hp j (by omega))]
theorem z79 (s : Bs) (hs : (s.length : Int) ≤ 1000000000) : CT Tryz.prog 217 [] [.str s] (.bool (z0J s)) [] := by
 refine z0b z0E 1 rfl Tryz.func217 rfl rfl rfl ?_
 repeat ((try conv => whnf); first | (refine stpQ ?_))
 refine z0Y Nat (fun k => ⟨[(0, .str s), (3, .int .i64 (k : Int))], [], 2⟩) (fun k => k ≤ s.length ∧ ∀ j, j < k → z3l (s.getD j 0).toNat = true) (fun k => s.length - k) 0 ⟨by omega, fun j hj => by omega⟩ ?_ ?_
 ·(refine z01 (by rfl) ?_ ?_) <;> repeat' (first | (exact eqA) | (refine shE ?_) | (refine And.intro ?_ ?_))
 ·rintro k ⟨hk, hp⟩
  repeat ((try conv => whnf); first | (refine stpQ ?_))
  ((try conv => whnf); first | (refine cb_d (fun h => ?_) (fun h => ?_)) | (refine cb_n (fun h => ?_) (fun h => ?_)) | (refine cb (fun h => ?_) (fun h => ?_)))
  ·have hlt : k < s.length := by omega
   have next : z3l (s.getD k 0).toNat = true → ∀ j, j < k + 1 → z3l (s.getD j 0).toNat = true := fun hx j hj => by
    by_cases hjk : j = k
    ·subst hjk; exact hx
    ·exact hp j (by omega)
   have bad : z3l (s.getD k 0).toNat = false → z0J s = false := fun hx => z93 hlt hx
   repeat' (first | ((try conv => whnf); first | (refine stpQ ?_)) | ((try conv => whnf); first | (refine cb_d (fun h => ?_) (fun h => ?_)) | (refine cb_n (fun h => ?_) (fun h => ?_)) | (refine cb (fun h => ?_) (fun h => ?_))))
   all_goals first
    | (refine ⟨k + 1, ⟨by omega, next (z78 (by omega))⟩, by omega, ?_⟩
       (refine z01 (by rfl) ?_ ?_) <;> repeat' (first | (exact eqA) | (refine shE ?_) | (refine And.intro ?_ ?_)))
    | (rw [bad (z94 (by omega))]
       (refine z07 (by rfl) ?_ ?_ (by rfl)) <;> repeat' (first | (exact eqA) | (refine shE ?_) | (refine And.intro ?_ ?_)))
  ·repeat ((try conv => whnf); first | (refine ccA ([]) (z3w _ _ _) ?_) | (refine stpQ ?_))
   (refine z07 (by rfl) ?_ ?_ (by rfl)) <;> repeat' (first | (exact eqA) | (refine shE ?_) | (refine And.intro ?_ ?_))
   rw [z0J, z68 (fun j hj => hp j (by omega))]
theorem zb4 (s : Bs) (hs : (s.length : Int) ≤ 1000000000) : CT Tryz.prog 228 [] [.str s] (.bool (z1l s)) [] := by
 refine z0b z0E 1 rfl Tryz.func228 rfl rfl rfl ?_
 repeat ((try conv => whnf); first | (refine stpQ ?_))
 refine z0Y Nat (fun k => ⟨[(0, .str s), (3, .int .i64 (k : Int))], [], 2⟩) (fun k => k ≤ s.length ∧ k ≤ 13 ∧ ∀ j, j < k → valN (s.getD j 0).toNat = true) (fun k => s.length - k) 0 ⟨by omega, by omega, fun j hj => by omega⟩ ?_ ?_
 ·(refine z01 (by rfl) ?_ ?_) <;> repeat' (first | (exact eqA) | (refine shE ?_) | (refine And.intro ?_ ?_))
 ·rintro k ⟨hk, hk2, hp⟩
  repeat ((try conv => whnf); first | (refine stpQ ?_))
  ((try conv => whnf); first | (refine cb_d (fun h => ?_) (fun h => ?_)) | (refine cb_n (fun h => ?_) (fun h => ?_)) | (refine cb (fun h => ?_) (fun h => ?_)))
  ·repeat ((try conv => whnf); first | (refine stpQ ?_))
   ((try conv => whnf); first | (refine cb_d (fun h => ?_) (fun h => ?_)) | (refine cb_n (fun h => ?_) (fun h => ?_)) | (refine cb (fun h => ?_) (fun h => ?_)))
   ·have hlt : k < s.length := by omega
    have next : valN (s.getD k 0).toNat = true → ∀ j, j < k + 1 → valN (s.getD j 0).toNat = true := fun hx j hj => by
     by_cases hjk : j = k
     ·subst hjk; exact hx
     ·exact hp j (by omega)
    have bad : valN (s.getD k 0).toNat = false → z1l s = false := fun hx => z93 hlt hx
    have h8 := (s.getD k 0).toNat_lt
    repeat ((try conv => whnf); first | (refine ccA ([]) (c_in _ _ _) ?_) | (refine stpQ ?_))
    ((try conv => whnf); first | (refine cb_d (fun h => ?_) (fun h => ?_)) | (refine cb_n (fun h => ?_) (fun h => ?_)) | (refine cb (fun h => ?_) (fun h => ?_)))
    ·have hx : inB ((s.getD k 0).toNat : Int) 33 126 = false := by simpa using h
     rw [bad (zb3 fun hc => by rw [z1q.2 (by omega)] at hx; cases hx)]
     repeat ((try conv => whnf); first | (refine stpQ ?_))
     (refine z07 (by rfl) ?_ ?_ (by rfl)) <;> repeat' (first | (exact eqA) | (refine shE ?_) | (refine And.intro ?_ ?_))
    ·have hx : inB ((s.getD k 0).toNat : Int) 33 126 = true := by simpa using h
     rw [z1q] at hx
     repeat ((try conv => whnf); first | (refine stpQ ?_))
     refine ⟨k + 1, ⟨by omega, by omega, next (z95 (by omega))⟩, by omega, ?_⟩
     (refine z01 (by rfl) ?_ ?_) <;> repeat' (first | (exact eqA) | (refine shE ?_) | (refine And.intro ?_ ?_))
   ·repeat ((try conv => whnf); first | (refine ccA ([]) (c_in _ _ _) ?_) | (refine stpQ ?_))
    (refine z07 (by rfl) ?_ ?_ (by rfl)) <;> repeat' (first | (exact eqA) | (refine shE ?_) | (refine And.intro ?_ ?_))
    rw [z1l, zb2 (by omega), z96 (by omega)]
  ·repeat ((try conv => whnf); first | (refine ccA ([]) (c_in _ _ _) ?_) | (refine stpQ ?_))
   (refine z07 (by rfl) ?_ ?_ (by rfl)) <;> repeat' (first | (exact eqA) | (refine shE ?_) | (refine And.intro ?_ ?_))
   rw [z1l, z68 (fun j hj => hp j (by omega))]
theorem z9N (s : Bs) (hs : (s.length : Int) ≤ 1000000000) : CT Tryz.prog 218 [] [.str s] (.bool (z1l s)) [] := by
 refine z0b z0E 1 rfl Tryz.func218 rfl rfl rfl ?_
 repeat ((try conv => whnf); first | (refine stpQ ?_))
 refine z0Y Nat (fun k => ⟨[(0, .str s), (3, .int .i64 (k : Int))], [], 2⟩) (fun k => k ≤ s.length ∧ ∀ j, j < k → valN (s.getD j 0).toNat = true) (fun k => s.length - k) 0 ⟨by omega, fun j hj => by omega⟩ ?_ ?_
 ·(refine z01 (by rfl) ?_ ?_) <;> repeat' (first | (exact eqA) | (refine shE ?_) | (refine And.intro ?_ ?_))
 ·rintro k ⟨hk, hp⟩
  repeat ((try conv => whnf); first | (refine stpQ ?_))
  ((try conv => whnf); first | (refine cb_d (fun h => ?_) (fun h => ?_)) | (refine cb_n (fun h => ?_) (fun h => ?_)) | (refine cb (fun h => ?_) (fun h => ?_)))
  ·have hlt : k < s.length := by omega
   have next : valN (s.getD k 0).toNat = true → ∀ j, j < k + 1 → valN (s.getD j 0).toNat = true := fun hx j hj => by
    by_cases hjk : j = k
    ·subst hjk; exact hx
    ·exact hp j (by omega)
   have bad : valN (s.getD k 0).toNat = false → z1l s = false := fun hx => z93 hlt hx
   repeat' (first | ((try conv => whnf); first | (refine stpQ ?_)) | ((try conv => whnf); first | (refine cb_d (fun h => ?_) (fun h => ?_)) | (refine cb_n (fun h => ?_) (fun h => ?_)) | (refine cb (fun h => ?_) (fun h => ?_))))
   all_goals first
    | (refine ⟨k + 1, ⟨by omega, next (z95 (by omega))⟩, by omega, ?_⟩
       (refine z01 (by rfl) ?_ ?_) <;> repeat' (first | (exact eqA) | (refine shE ?_) | (refine And.intro ?_ ?_)))
    | (rw [bad (zb3 (by omega))]
       (refine z07 (by rfl) ?_ ?_ (by rfl)) <;> repeat' (first | (exact eqA) | (refine shE ?_) | (refine And.intro ?_ ?_)))
  ·repeat ((try conv => whnf); first | (refine ccA ([]) (z3w _ _ _) ?_) | (refine stpQ ?_))
   (refine z07 (by rfl) ?_ ?_ (by rfl)) <;> repeat' (first | (exact eqA) | (refine shE ?_) | (refine And.intro ?_ ?_))
   rw [z1l, z68 (fun j hj => hp j (by omega))]
end Go.Proofs.YtnhcfmmdaihneaaGreatDoor
namespace Go.Proofs.YtnhcfmmdaihneaaGreatDoor
set_option maxRecDepth 100000
set_option maxHeartbeats 1000000
set_option linter.unusedVariables false
set_option linter.unusedSimpArgs false
set_option linter.unusedSectionVars false
open Go.RowKit Pl
attribute [local irreducible] z0s z0t z0x AnsP LeP
def lvE (l : List Lf) : List (List T) := l.map fun x => [.str x.1, .str x.2]
theorem zcc {l : List Lf} {k : Nat} (h : k < l.length) : lfAt l k = l[k] := by simp [lfAt, List.getD, List.getElem?_eq_getElem h]
theorem z2M {l : List Lf} {k : Nat} (h : k < l.length) : (lvE l)[k]? = some [.str (lfAt l k).1, .str (lfAt l k).2] := by
 rw [zcc h]; simp [lvE, List.getElem?_eq_getElem h]
theorem z1I (l : List Lf) : (lvE l).length = l.length := by simp [lvE]
def Fit (l : List Lf) : Prop := ∀ i, ((lfAt l i).1.length : Int) ≤ 1000000000 ∧ ((lfAt l i).2.length : Int) ≤ 1000000000
theorem zb5 (k : Nat) : (k == 0) = !decide ((0 : Int) < (k : Int)) := by cases k <;> simp <;> omega
theorem z3x (l : List Lf) (hl : (l.length : Int) ≤ 1000000000) (hf : Fit l) : CT Tryz.prog 165 [] [.sl 2 (lvE l)] (.bool (leavesOk l)) [] := by
 have hlen := z1I l
 refine z0b z0E 1 rfl Tryz.func165 rfl rfl rfl ?_
 repeat ((try conv => whnf); first | (refine stpQ ?_))
 refine z0Y Nat (fun k => ⟨[(0, .sl 2 (lvE l)), (5, .sl 2 (lvE l)), (6, .int .i64 ((lvE l).length : Int)), (7, .int .i64 (k : Int))], [], 2⟩) (fun k => k ≤ l.length ∧ k ≤ 24 ∧ ∀ j, j < k → z1A l j = true) (fun k => l.length - k) 0 ⟨by omega, by omega, fun j hj => by omega⟩ ?_ ?_
 ·(refine z01 (by rfl) ?_ ?_) <;> repeat' (first | (exact eqA) | (refine shE ?_) | (refine And.intro ?_ ?_))
 ·rintro k ⟨hk, hk2, hp⟩
  have hz := zb5 k
  repeat ((try conv => whnf); first | (refine stpQ ?_))
  ((try conv => whnf); first | (refine cb_d (fun h => ?_) (fun h => ?_)) | (refine cb_n (fun h => ?_) (fun h => ?_)) | (refine cb (fun h => ?_) (fun h => ?_)))
  ·have hlt : k < l.length := by omega
   have next : z1A l k = true → ∀ j, j < k + 1 → z1A l j = true := fun hx j hj => by
    by_cases hjk : j = k
    ·subst hjk; exact hx
    ·exact hp j (by omega)
   repeat' (first | ((try conv => whnf); first | (refine i_at (z2M hlt) ?_) | (refine i_at (z2M (show k - 1 < l.length by omega)) ?_) | (refine ccA ([]) (z97 _ (hf k).1) ?_) | (refine ccA ([]) (zb4 _ (hf k).2) ?_) | (refine stpQ ?_)) | ((try conv => whnf); first | (refine cb_d (fun h => ?_) (fun h => ?_)) | (refine cb_n (fun h => ?_) (fun h => ?_)) | (refine cb (fun h => ?_) (fun h => ?_))))
   all_goals first
    | (refine ⟨k + 1, ⟨by omega, by omega, next (by simp_all [z1A, ltB])⟩, by omega, ?_⟩
       (refine z01 (by rfl) ?_ ?_) <;> repeat' (first | (exact eqA) | (refine shE ?_) | (refine And.intro ?_ ?_)))
    | (rw [z2c (by omega)]
       (refine z07 (by rfl) ?_ ?_ (by rfl)) <;> repeat' (first | (exact eqA) | (refine shE ?_) | (refine And.intro ?_ ?_)))
    | (rw [z3I hlt (by simp_all [z1A, ltB])]
       (refine z07 (by rfl) ?_ ?_ (by rfl)) <;> repeat' (first | (exact eqA) | (refine shE ?_) | (refine And.intro ?_ ?_)))
  ·repeat ((try conv => whnf); first | (refine stpQ ?_))
   rw [z2d (by omega) (fun j hj => hp j (by omega))]
   (refine z07 (by rfl) ?_ ?_ (by rfl)) <;> repeat' (first | (exact eqA) | (refine shE ?_) | (refine And.intro ?_ ?_))
theorem z30 (l : List Lf) (hl : (l.length : Int) ≤ 1000000000) (hf : Fit l) : CT Tryz.prog 159 [] [.sl 2 (lvE l)] (.bool (leavesOk l)) [] := by
 have hlen := z1I l
 refine z0b z0E 1 rfl Tryz.func159 rfl rfl rfl ?_
 repeat ((try conv => whnf); first | (refine stpQ ?_))
 refine z0Y Nat (fun k => ⟨[(0, .sl 2 (lvE l)), (3, .int .i64 (k : Int))], [], 2⟩) (fun k => k ≤ l.length ∧ ∀ j, j < k → z1A l j = true) (fun k => l.length - k) 0 ⟨by omega, fun j hj => by omega⟩ ?_ ?_
 ·(refine z01 (by rfl) ?_ ?_) <;> repeat' (first | (exact eqA) | (refine shE ?_) | (refine And.intro ?_ ?_))
 ·rintro k ⟨hk, hp⟩
  have hz := zb5 k
  repeat ((try conv => whnf); first | (refine stpQ ?_))
  ((try conv => whnf); first | (refine cb_d (fun h => ?_) (fun h => ?_)) | (refine cb_n (fun h => ?_) (fun h => ?_)) | (refine cb (fun h => ?_) (fun h => ?_)))
  ·have hlt : k < l.length := by omega
   have next : z1A l k = true → ∀ j, j < k + 1 → z1A l j = true := fun hx j hj => by
    by_cases hjk : j = k
    ·subst hjk; exact hx
    ·exact hp j (by omega)
   repeat' (first | ((try conv => whnf); first | (refine i_at (z2M hlt) ?_) | (refine i_at (z2M (show k - 1 < l.length by omega)) ?_) | (refine ccA ([]) (z79 _ (hf k).1) ?_) | (refine ccA ([]) (z9N _ (hf k).2) ?_) | (refine stpQ ?_)) | ((try conv => whnf); first | (refine cb_d (fun h => ?_) (fun h => ?_)) | (refine cb_n (fun h => ?_) (fun h => ?_)) | (refine cb (fun h => ?_) (fun h => ?_))))
   all_goals first
    | (refine ⟨k + 1, ⟨by omega, next (by simp_all [z1A, ltB])⟩, by omega, ?_⟩
       (refine z01 (by rfl) ?_ ?_) <;> repeat' (first | (exact eqA) | (refine shE ?_) | (refine And.intro ?_ ?_)))
    | (rw [z3I hlt (by simp_all [z1A, ltB])]
       (refine z07 (by rfl) ?_ ?_ (by rfl)) <;> repeat' (first | (exact eqA) | (refine shE ?_) | (refine And.intro ?_ ?_)))
  ·repeat ((try conv => whnf); first | (refine stpQ ?_))
   (refine z07 (by rfl) ?_ ?_ (by rfl)) <;> repeat' (first | (exact eqA) | (refine shE ?_) | (refine And.intro ?_ ?_))
   by_cases h24 : l.length ≤ 24
   ·rw [z2d (by omega) (fun j hj => hp j (by omega))]; simp; omega
   ·rw [z2c (by omega)]; simp; omega
end Go.Proofs.YtnhcfmmdaihneaaGreatDoor
namespace Go.Proofs.YtnhcfmmdaihneaaGreatDoor
set_option maxRecDepth 100000
set_option maxHeartbeats 400000
set_option linter.unusedVariables false
set_option linter.unusedSimpArgs false
set_option linter.unusedSectionVars false
open Go.RowKit Pl
attribute [local irreducible] z0s z0t z0x AnsP LeP
theorem w_quo {a n : Nat} {K : Int → Prop} (h : a ≤ 9223372036854775807) (hk : K ((a / n : Nat) : Int)) : ∃ r, r = IntKind.i64.wrap ((a : Int).tdiv (n : Int)) ∧ K r := by
 have e : (a : Int).tdiv (n : Int) = ((a / n : Nat) : Int) := Int.ofNat_tdiv a n
 have : a / n ≤ a := Nat.div_le_self _ _
 have h2 : ((a / n : Nat) : Int) ≤ 9223372036854775807 := by generalize a / n = x at *; omega
 have h3 : (0 : Int) ≤ ((a / n : Nat) : Int) := Int.natCast_nonneg _
 generalize a / n = x at *
 exact ⟨_, by rw [e, z1L (by omega) h2], hk⟩
theorem z2v {a n : Nat} {K : Int → Prop} (h : a ≤ 9223372036854775807) (hk : K ((a / OfNat.ofNat n : Nat) : Int)) : ∃ r, r = IntKind.i64.wrap ((a : Int).tdiv (OfNat.ofNat n : Int)) ∧ K r := w_quo (n := OfNat.ofNat n) h hk
theorem z14 {a n : Nat} {K : Int → Prop} (hk : K ((a % OfNat.ofNat n : Nat) : Int)) : ∃ r, r = (a : Int).tmod (OfNat.ofNat n : Int) ∧ K r :=
 ⟨_, (Int.ofNat_tmod a (OfNat.ofNat n)).symm, hk⟩
theorem wrap_u8 {n : Nat} : IntKind.u8.wrap (n : Int) = ((UInt8.ofNat n).toNat : Int) := by
 show (if (false && decide ((n : Int) % 2 ^ 8 ≥ 2 ^ (8 - 1))) = true then (n : Int) % 2 ^ 8 - 2 ^ 8 else (n : Int) % 2 ^ 8) = _
 simp
theorem w_u8 {n : Nat} {K : Int → Prop} (hk : K ((UInt8.ofNat n).toNat : Int)) : ∃ r, r = IntKind.u8.wrap (n : Int) ∧ K r := ⟨_, wrap_u8.symm, hk⟩
theorem z0B (l : Bs) : (z0n l).length = l.length := by simp [z0n]
theorem zcP {a n : Nat} {K : Int → Prop} (h : OfNat.ofNat n + a ≤ 9223372036854775807) (hk : K ((OfNat.ofNat n + a : Nat) : Int)) : ∃ r, r = IntKind.i64.wrap ((OfNat.ofNat n : Int) + (a : Int)) ∧ K r :=
 zdo (a := OfNat.ofNat n) h hk
theorem z2w (n : Nat) (hn : (n : Int) ≤ 2000000000) : CT Tryz.prog 119 [] [.int .i64 (n : Int)] (.str (z0f n)) [] := by
 have hvl := z1P hn
 refine z0b z0E 1 rfl Tryz.func119 rfl rfl rfl ?_
 repeat ((try conv => whnf); first | (refine stpQ ?_))
 refine z0Y (Nat × Bs) (fun ⟨m, out⟩ => ⟨[(0, .int .i64 (m : Int)), (3, .ref 1)], [(1, some (.row 1 (z0n out)))], 2⟩) (fun ⟨m, out⟩ => out ++ z0f m = z0f n ∧ m ≤ n) (fun ⟨m, out⟩ => m) (n, []) ⟨rfl, Nat.le_refl _⟩ ?_ ?_
 ·(refine z01 (by rfl) ?_ ?_) <;> (repeat' (first | (exact eqA) | (refine shE ?_) | (refine And.intro ?_ ?_))) <;> first | rfl | decide
 ·rintro ⟨m, out⟩ ⟨h1, h2⟩
  have hol : out.length + (z0f m).length ≤ 5 := by
   have := congrArg List.length h1
   rw [List.length_append] at this
   omega
  have hbl := z0B out
  repeat ((try conv => whnf); first | (refine stpQ ?_))
  ((try conv => whnf); first | (refine cb_d (fun h => ?_) (fun h => ?_)) | (refine cb_n (fun h => ?_) (fun h => ?_)) | (refine cb (fun h => ?_) (fun h => ?_)))
  ·repeat ((try conv => whnf); first | (refine z14 ?_) | (refine z2v (by omega) ?_) | (refine zcP (by omega) ?_) | (refine w_u8 ?_) | (refine And.intro (by simp [z0B]; omega) ?_) | (refine stpQ ?_))
   refine ⟨(m / 128, out ++ [UInt8.ofNat (128 + m % 128)]), ⟨?_, ?_⟩, ?_, ?_⟩
   ·rw [← h1, z1O (n := m) (by omega)]; simp
   ·exact Nat.le_trans (Nat.div_le_self _ _) h2
   ·exact Nat.div_lt_self (by omega) (by omega)
   ·(refine z01 (by rfl) ?_ ?_) <;> (repeat' (first | (exact eqA) | (refine shE ?_) | (refine And.intro ?_ ?_)))
    simp [z0n, z3O]
    rfl
  ·repeat ((try conv => whnf); first | (refine w_u8 ?_) | (refine And.intro (by simp [z0B]; omega) ?_) | (refine Exists.intro (out ++ [UInt8.ofNat m]) (And.intro (by simp [z0n, z3O]; first | done | fail) ?_)) | (refine stpQ ?_))
   rw [← h1, z0Q (n := m) (by omega)]
   (refine z07 (by rfl) ?_ ?_ (by rfl)) <;> repeat' (first | (exact eqA) | (refine shE ?_) | (refine And.intro ?_ ?_))
theorem z0R {n : Nat} (hn : (n : Int) ≤ 2000000000) : ((z0f n).length : Int) ≤ 5 := by have := z1P hn; omega
theorem z1T (s : Bs) (hs : (s.length : Int) ≤ 1000000000) : CT Tryz.prog 120 [] [.str s] (.str (z0c s)) [] := by
 have hvl := z0R (n := s.length) (by omega)
 refine z0b z0E 1 rfl Tryz.func120 rfl rfl rfl ?_
 repeat ((try conv => whnf); first | (refine ccA ([]) (z2w s.length (by omega)) ?_) | (refine stpQ ?_))
 (refine z07 (by rfl) ?_ ?_ (by rfl)) <;> repeat' (first | (exact eqA) | (refine shE ?_) | (refine And.intro ?_ ?_))
 rfl
theorem z2H {s : Bs} (hs : (s.length : Int) ≤ 1000000000) : ((z0c s).length : Int) ≤ (s.length : Int) + 5 := by have := z1J (l := s) (by omega); omega
def Sml (l : List Lf) : Prop := (l.length : Int) ≤ 1000 ∧ ∀ i, ((lfAt l i).1.length : Int) ≤ 1000000 ∧ ((lfAt l i).2.length : Int) ≤ 1000000
theorem z4C {l : List Lf} {k : Nat} (h : k < l.length) : (l.take (k + 1)).flatMap z19 = (l.take k).flatMap z19 ++ (z0c (lfAt l k).1 ++ z0c (lfAt l k).2) := by
 rw [z4A l k h, List.flatMap_append]; simp [z19]
theorem z69 {l : List Lf} (h : Sml l) : ∀ k, (((l.take k).flatMap z19).length : Int) ≤ 3000000 * k
 | 0 => by simp
 | k + 1 => by
   have ih := z69 h k
   by_cases hk : k < l.length
   ·rw [z4C hk]
    have h1 := z2H (s := (lfAt l k).1) (by have := (h.2 k).1; omega)
    have h2 := z2H (s := (lfAt l k).2) (by have := (h.2 k).2; omega)
    have := h.2 k
    simp only [List.length_append]
    omega
   ·rw [List.take_of_length_le (by omega)]
    rw [List.take_of_length_le (by omega)] at ih
    omega
theorem z7a (l : List Lf) (hl : Sml l) : CT Tryz.prog 121 [] [.sl 2 (lvE l)] (.str (z0h l)) [] := by
 have hlen := z1I l
 have hll := hl.1
 have hv := z0R (n := l.length) (by omega)
 refine z0b z0E 1 rfl Tryz.func121 rfl rfl rfl ?_
 repeat ((try conv => whnf); first | (refine Exists.intro l.length (And.intro hlen ?_)) | (refine ccA ([]) (z2w l.length (by omega)) ?_) | (refine stpQ ?_))
 refine z0Y Nat (fun k => ⟨[(3, .str (z0f l.length ++ (l.take k).flatMap z19)), (9, .sl 2 (lvE l)), (10, .int .i64 (l.length : Int)), (11, .int .i64 (k : Int))], [], 2⟩) (fun k => k ≤ l.length) (fun k => l.length - k) 0 (by omega) ?_ ?_
 ·(refine z01 (by rfl) ?_ ?_) <;> (repeat' (first | (exact eqA) | (refine shE ?_) | (refine And.intro ?_ ?_))) <;> simp
 ·intro k hk
  have hfl := z69 hl k
  repeat ((try conv => whnf); first | (refine stpQ ?_))
  ((try conv => whnf); first | (refine cb_d (fun h => ?_) (fun h => ?_)) | (refine cb_n (fun h => ?_) (fun h => ?_)) | (refine cb (fun h => ?_) (fun h => ?_)))
  ·have hk2 : k < l.length := by omega
   have hnx := z4C hk2
   have h1 := z2H (s := (lfAt l k).1) (by have := (hl.2 k).1; omega)
   have h2 := z2H (s := (lfAt l k).2) (by have := (hl.2 k).2; omega)
   have h3 := hl.2 k
   repeat ((try conv => whnf); first | (refine i_at (z2M hk2) ?_) | (refine ccA ([]) (z1T (lfAt l k).1 (by omega)) ?_) | (refine ccA ([]) (z1T (lfAt l k).2 (by omega)) ?_) | (refine And.intro (by simp only [List.length_append]; omega) ?_) | (refine stpQ ?_))
   refine ⟨k + 1, by omega, by omega, ?_⟩
   (refine z01 (by rfl) ?_ ?_) <;> (repeat' (first | (exact eqA) | (refine shE ?_) | (refine And.intro ?_ ?_)))
   rw [hnx]; simp
  ·obtain rfl : k = l.length := by omega
   repeat ((try conv => whnf); first | (refine stpQ ?_))
   (refine z07 (by rfl) ?_ ?_ (by rfl)) <;> repeat' (first | (exact eqA) | (refine shE ?_) | (refine And.intro ?_ ?_))
   rw [List.take_length]; rfl
end Go.Proofs.YtnhcfmmdaihneaaGreatDoor
