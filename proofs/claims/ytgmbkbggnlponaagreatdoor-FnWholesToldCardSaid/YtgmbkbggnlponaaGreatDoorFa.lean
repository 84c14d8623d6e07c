/- The types that the code names. Functions by content: names, values, lists of entries. Functions by content: lists of entries. Functions by content: numbers, strings and entries as bytes. -/
import Derived.Test.YtgmbkbggnlponaaGreatDoorVd
import Derived.Test.YtgmbkbggnlponaaGreatDoorWax
import Derived.Test.YtgmbkbggnlponaaGreatDoorPlainM
namespace Go.Proofs.YtgmbkbggnlponaaGreatDoor
set_option linter.unusedVariables false
set_option linter.unusedSimpArgs false
set_option linter.unusedSectionVars false
open Go.RowKit Pl
def zg8 : Ty := ⟨1, 8, [.int .i64 0], .int .i64, false⟩
def tySl (e : TypeId) : Ty := ⟨1, 24, [.val nilV], .slice e, false⟩
def ttL : List (Nat × Ty) := [
 (4, ⟨1, 1, [.bool false], .bool, false⟩),
 (9, ⟨1, 16, [.str []], .string, false⟩),
 (5, ⟨1, 1, [.int .u8 0], .int .u8, false⟩),
 (147, ⟨2, 32, [.str [], .str []], .struct [(0, 9), (1, 9)], true⟩),
 (27, tySl 147),
 (22, tySl 5),
 (24, tySl 9),
 (29, ⟨2, 48, [.val nilV, .val nilV], .struct [(0, 27), (1, 24)], false⟩),
 (67, ⟨3, 32, [.str [], .int .i64 0, .bool false], .struct [(0, 9), (1, 3), (2, 4)], false⟩),
 (81, ⟨3, 32, [.str [], .int .i64 0, .bool false], .struct [(0, 9), (1, 3), (2, 4)], false⟩),
 (100, ⟨3, 40, [.val nilV, .int .i64 0, .int .i64 0], .struct [(0, 22), (1, 3), (2, 3)], false⟩),
 (156, ⟨1, 4, [.int .u32 0], .int .u32, false⟩),
 (160, ⟨1, 8, [.int .u64 0], .int .u64, false⟩),
 (3, zg8)]
def tt : TT := lk ttL
set_option maxRecDepth 100000 in
set_option maxHeartbeats 4000000 in
theorem z9Q : ∀ p ∈ ttL, TyOk Tryz.prog p.1 p.2 := by
 simp only [ttL, List.forall_mem_cons]
 repeat' (refine And.intro ?_ ?_)
 all_goals first
  | exact (fun _ h => by cases h)
  | exact ⟨⟨_, _, rfl, rfl, rfl, rfl, rfl⟩, ⟨_, rfl, rfl⟩, rfl, rfl, fun h => (Bool.false_ne_true h).elim⟩
  | (refine ⟨⟨_, _, rfl, rfl, rfl, rfl, rfl⟩, ⟨_, rfl, rfl⟩, rfl, rfl, fun _ => ⟨by kernel_rfl, by kernel_rfl, _, rfl, z8m ?_⟩⟩
     repeat (first | exact rfl | (refine And.intro (by decide) (And.intro rfl (And.intro rfl ?_)))))
theorem z0m : TtOk Tryz.prog tt := fun t y h => z9Q (t, y) (z1P h)
end Go.Proofs.YtgmbkbggnlponaaGreatDoor
namespace Go.Proofs.YtgmbkbggnlponaaGreatDoor
set_option maxRecDepth 100000
set_option maxHeartbeats 1000000
set_option linter.unusedVariables false
set_option linter.unusedSimpArgs false
set_option linter.unusedSectionVars false
open Go.RowKit Pl
attribute [local irreducible] z0t z0u z0y AnsP LeP
theorem zco {f : Nat → Bool} {l : Bs} {k : Nat} (hk : k < l.length) (h : f (l.getD k 0).toNat = false) : allN f l = false := by
 have : l.all (fun b => f b.toNat) = false := by
  rw [List.all_eq_false]
  refine ⟨l[k], List.getElem_mem hk, ?_⟩
  have e : l.getD k 0 = l[k] := by simp [List.getD, List.getElem?_eq_getElem hk]
  rw [← e, h]; simp
 rw [allN, this, Bool.and_false]
theorem z8Q {f : Nat → Bool} {l : Bs} (h : ∀ k, k < l.length → f (l.getD k 0).toNat = true) : allN f l = inB l.length 1 12 := by
 have : l.all (fun b => f b.toNat) = true := by
  rw [List.all_eq_true]
  intro b hb
  obtain ⟨k, hk, rfl⟩ := List.getElem_of_mem hb
  have e : l.getD k 0 = l[k] := by simp [List.getD, List.getElem?_eq_getElem hk]
  rw [← e]; exact h k hk
 rw [allN, this, Bool.and_true, inB]
 congr 1 <;> exact decide_eq_decide.2 (by omega)
theorem zeO {f : Nat → Bool} {l : Bs} (h : 12 < l.length) : allN f l = false := by
 have : decide (l.length ≤ 12) = false := by simp; omega
 rw [allN, this]; simp
theorem z9V {n : Nat} (h : (97 ≤ n ∧ n ≤ 122) ∨ (48 ≤ n ∧ n ≤ 57) ∨ n = 64 ∨ n = 46) : z5a n = true := by simp [z5a]; omega
theorem zcp {n : Nat} (h : ¬ ((97 ≤ n ∧ n ≤ 122) ∨ (48 ≤ n ∧ n ≤ 57) ∨ n = 64 ∨ n = 46)) : z5a n = false := by simp [z5a]; omega
theorem zcq {n : Nat} (h : 33 ≤ n ∧ n ≤ 126) : valN n = true := by simp [valN]; omega
theorem zeP {n : Nat} (h : ¬ (33 ≤ n ∧ n ≤ 126)) : valN n = false := by simp [valN]; omega
theorem zcr {l : Bs} (h : 12 < l.length) : inB l.length 1 12 = false := by
 simp [inB]; omega
theorem c_in (a lo hi : Int) : CT Tryz.prog 22 [] [.int .i64 a, .int .i64 lo, .int .i64 hi] (.bool (inB a lo hi)) [] := by
 refine z01 z0m 1 rfl Tryz.func22 rfl rfl rfl ?_
 repeat' (first | ((try conv => whnf); first | (refine stpQ ?_)) | ((try conv => whnf); first | (refine cb_d (fun h => ?_) (fun h => ?_)) | (refine cb_n (fun h => ?_) (fun h => ?_)) | (refine cb (fun h => ?_) (fun h => ?_))))
 all_goals
  (refine z00 (by rfl) ?_ ?_ (by rfl)) <;> repeat' (first | (exact eqA) | (refine shE ?_) | (refine And.intro ?_ ?_)) <;> simp [inB] <;> omega
theorem z10 (a lo hi : Int) : CT Tryz.prog 30 [] [.int .i64 a, .int .i64 lo, .int .i64 hi] (.bool (inB a lo hi)) [] := by
 refine z01 z0m 1 rfl Tryz.func30 rfl rfl rfl ?_
 repeat' (first | ((try conv => whnf); first | (refine stpQ ?_)) | ((try conv => whnf); first | (refine cb_d (fun h => ?_) (fun h => ?_)) | (refine cb_n (fun h => ?_) (fun h => ?_)) | (refine cb (fun h => ?_) (fun h => ?_))))
 all_goals
  (refine z00 (by rfl) ?_ ?_ (by rfl)) <;> repeat' (first | (exact eqA) | (refine shE ?_) | (refine And.intro ?_ ?_)) <;> simp [inB] <;> omega
theorem zcs (s : Bs) (hs : (s.length : Int) ≤ 1000000000) : CT Tryz.prog 123 [] [.str s] (.bool (z1d s)) [] := by
 refine z01 z0m 1 rfl Tryz.func123 rfl rfl rfl ?_
 repeat ((try conv => whnf); first | (refine stpQ ?_))
 refine z0S Nat (fun k => ⟨[(0, .str s), (3, .int .i64 (k : Int))], [], 2⟩) (fun k => k ≤ s.length ∧ k ≤ 13 ∧ ∀ j, j < k → z5a (s.getD j 0).toNat = true) (fun k => s.length - k) 0 ⟨by omega, by omega, fun j hj => by omega⟩ ?_ ?_
 ·(refine z02 (by rfl) ?_ ?_) <;> repeat' (first | (exact eqA) | (refine shE ?_) | (refine And.intro ?_ ?_))
 ·rintro k ⟨hk, hk2, hp⟩
  repeat ((try conv => whnf); first | (refine stpQ ?_))
  ((try conv => whnf); first | (refine cb_d (fun h => ?_) (fun h => ?_)) | (refine cb_n (fun h => ?_) (fun h => ?_)) | (refine cb (fun h => ?_) (fun h => ?_)))
  ·repeat ((try conv => whnf); first | (refine stpQ ?_))
   ((try conv => whnf); first | (refine cb_d (fun h => ?_) (fun h => ?_)) | (refine cb_n (fun h => ?_) (fun h => ?_)) | (refine cb (fun h => ?_) (fun h => ?_)))
   ·have hlt : k < s.length := by omega
    have next : z5a (s.getD k 0).toNat = true → ∀ j, j < k + 1 → z5a (s.getD j 0).toNat = true := fun hx j hj => by
     by_cases hjk : j = k
     ·subst hjk; exact hx
     ·exact hp j (by omega)
    have bad : z5a (s.getD k 0).toNat = false → z1d s = false := fun hx => zco hlt hx
    repeat' (first | ((try conv => whnf); first | (refine stpQ ?_)) | ((try conv => whnf); first | (refine cb_d (fun h => ?_) (fun h => ?_)) | (refine cb_n (fun h => ?_) (fun h => ?_)) | (refine cb (fun h => ?_) (fun h => ?_))))
    all_goals first
     | (refine ⟨k + 1, ⟨by omega, by omega, next (z9V (by omega))⟩, by omega, ?_⟩
        (refine z02 (by rfl) ?_ ?_) <;> repeat' (first | (exact eqA) | (refine shE ?_) | (refine And.intro ?_ ?_)))
     | (rw [bad (zcp (by omega))]
        (refine z00 (by rfl) ?_ ?_ (by rfl)) <;> repeat' (first | (exact eqA) | (refine shE ?_) | (refine And.intro ?_ ?_)))
   ·repeat ((try conv => whnf); first | (refine ccA ([]) (c_in _ _ _) ?_) | (refine stpQ ?_))
    (refine z00 (by rfl) ?_ ?_ (by rfl)) <;> repeat' (first | (exact eqA) | (refine shE ?_) | (refine And.intro ?_ ?_))
    rw [z1d, zeO (by omega), zcr (by omega)]
  ·repeat ((try conv => whnf); first | (refine ccA ([]) (c_in _ _ _) ?_) | (refine stpQ ?_))
   (refine z00 (by rfl) ?_ ?_ (by rfl)) <;> repeat' (first | (exact eqA) | (refine shE ?_) | (refine And.intro ?_ ?_))
   rw [z1d, z8Q (fun j hj => hp j (by omega))]
theorem z6E (s : Bs) (hs : (s.length : Int) ≤ 1000000000) : CT Tryz.prog 136 [] [.str s] (.bool (z1d s)) [] := by
 refine z01 z0m 1 rfl Tryz.func136 rfl rfl rfl ?_
 repeat ((try conv => whnf); first | (refine stpQ ?_))
 refine z0S Nat (fun k => ⟨[(0, .str s), (3, .int .i64 (k : Int))], [], 2⟩) (fun k => k ≤ s.length ∧ ∀ j, j < k → z5a (s.getD j 0).toNat = true) (fun k => s.length - k) 0 ⟨by omega, fun j hj => by omega⟩ ?_ ?_
 ·(refine z02 (by rfl) ?_ ?_) <;> repeat' (first | (exact eqA) | (refine shE ?_) | (refine And.intro ?_ ?_))
 ·rintro k ⟨hk, hp⟩
  repeat ((try conv => whnf); first | (refine stpQ ?_))
  ((try conv => whnf); first | (refine cb_d (fun h => ?_) (fun h => ?_)) | (refine cb_n (fun h => ?_) (fun h => ?_)) | (refine cb (fun h => ?_) (fun h => ?_)))
  ·have hlt : k < s.length := by omega
   have next : z5a (s.getD k 0).toNat = true → ∀ j, j < k + 1 → z5a (s.getD j 0).toNat = true := fun hx j hj => by
    by_cases hjk : j = k
    ·subst hjk; exact hx
    ·exact hp j (by omega)
   have bad : z5a (s.getD k 0).toNat = false → z1d s = false := fun hx => zco hlt hx
   repeat' (first | ((try conv => whnf); first | (refine stpQ ?_)) | ((try conv => whnf); first | (refine cb_d (fun h => ?_) (fun h => ?_)) | (refine cb_n (fun h => ?_) (fun h => ?_)) | (refine cb (fun h => ?_) (fun h => ?_))))
   all_goals first
    | (refine ⟨k + 1, ⟨by omega, next (z9V (by omega))⟩, by omega, ?_⟩
       (refine z02 (by rfl) ?_ ?_) <;> repeat' (first | (exact eqA) | (refine shE ?_) | (refine And.intro ?_ ?_)))
    | (rw [bad (zcp (by omega))]
       (refine z00 (by rfl) ?_ ?_ (by rfl)) <;> repeat' (first | (exact eqA) | (refine shE ?_) | (refine And.intro ?_ ?_)))
  ·repeat ((try conv => whnf); first | (refine ccA ([]) (z10 _ _ _) ?_) | (refine stpQ ?_))
   (refine z00 (by rfl) ?_ ?_ (by rfl)) <;> repeat' (first | (exact eqA) | (refine shE ?_) | (refine And.intro ?_ ?_))
   rw [z1d, z8Q (fun j hj => hp j (by omega))]
theorem zeQ (s : Bs) (hs : (s.length : Int) ≤ 1000000000) : CT Tryz.prog 161 [] [.str s] (.bool (z1H s)) [] := by
 refine z01 z0m 1 rfl Tryz.func161 rfl rfl rfl ?_
 repeat ((try conv => whnf); first | (refine stpQ ?_))
 refine z0S Nat (fun k => ⟨[(0, .str s), (3, .int .i64 (k : Int))], [], 2⟩) (fun k => k ≤ s.length ∧ k ≤ 13 ∧ ∀ j, j < k → valN (s.getD j 0).toNat = true) (fun k => s.length - k) 0 ⟨by omega, by omega, fun j hj => by omega⟩ ?_ ?_
 ·(refine z02 (by rfl) ?_ ?_) <;> repeat' (first | (exact eqA) | (refine shE ?_) | (refine And.intro ?_ ?_))
 ·rintro k ⟨hk, hk2, hp⟩
  repeat ((try conv => whnf); first | (refine stpQ ?_))
  ((try conv => whnf); first | (refine cb_d (fun h => ?_) (fun h => ?_)) | (refine cb_n (fun h => ?_) (fun h => ?_)) | (refine cb (fun h => ?_) (fun h => ?_)))
  ·repeat ((try conv => whnf); first | (refine stpQ ?_))
   ((try conv => whnf); first | (refine cb_d (fun h => ?_) (fun h => ?_)) | (refine cb_n (fun h => ?_) (fun h => ?_)) | (refine cb (fun h => ?_) (fun h => ?_)))
   ·have hlt : k < s.length := by omega
    have next : valN (s.getD k 0).toNat = true → ∀ j, j < k + 1 → valN (s.getD j 0).toNat = true := fun hx j hj => by
     by_cases hjk : j = k
     ·subst hjk; exact hx
     ·exact hp j (by omega)
    have bad : valN (s.getD k 0).toNat = false → z1H s = false := fun hx => zco hlt hx
    have h8 := (s.getD k 0).toNat_lt
    repeat ((try conv => whnf); first | (refine ccA ([]) (c_in _ _ _) ?_) | (refine stpQ ?_))
    ((try conv => whnf); first | (refine cb_d (fun h => ?_) (fun h => ?_)) | (refine cb_n (fun h => ?_) (fun h => ?_)) | (refine cb (fun h => ?_) (fun h => ?_)))
    ·have hx : inB ((s.getD k 0).toNat : Int) 33 126 = false := by simpa using h
     rw [bad (zeP fun hc => by rw [z0r.2 (by omega)] at hx; cases hx)]
     repeat ((try conv => whnf); first | (refine stpQ ?_))
     (refine z00 (by rfl) ?_ ?_ (by rfl)) <;> repeat' (first | (exact eqA) | (refine shE ?_) | (refine And.intro ?_ ?_))
    ·have hx : inB ((s.getD k 0).toNat : Int) 33 126 = true := by simpa using h
     rw [z0r] at hx
     repeat ((try conv => whnf); first | (refine stpQ ?_))
     refine ⟨k + 1, ⟨by omega, by omega, next (zcq (by omega))⟩, by omega, ?_⟩
     (refine z02 (by rfl) ?_ ?_) <;> repeat' (first | (exact eqA) | (refine shE ?_) | (refine And.intro ?_ ?_))
   ·repeat ((try conv => whnf); first | (refine ccA ([]) (c_in _ _ _) ?_) | (refine stpQ ?_))
    (refine z00 (by rfl) ?_ ?_ (by rfl)) <;> repeat' (first | (exact eqA) | (refine shE ?_) | (refine And.intro ?_ ?_))
    rw [z1H, zeO (by omega), zcr (by omega)]
  ·repeat ((try conv => whnf); first | (refine ccA ([]) (c_in _ _ _) ?_) | (refine stpQ ?_))
   (refine z00 (by rfl) ?_ ?_ (by rfl)) <;> repeat' (first | (exact eqA) | (refine shE ?_) | (refine And.intro ?_ ?_))
   rw [z1H, z8Q (fun j hj => hp j (by omega))]
theorem zdi (s : Bs) (hs : (s.length : Int) ≤ 1000000000) : CT Tryz.prog 160 [] [.str s] (.bool (z1H s)) [] := by
 refine z01 z0m 1 rfl Tryz.func160 rfl rfl rfl ?_
 repeat ((try conv => whnf); first | (refine stpQ ?_))
 refine z0S Nat (fun k => ⟨[(0, .str s), (3, .int .i64 (k : Int))], [], 2⟩) (fun k => k ≤ s.length ∧ ∀ j, j < k → valN (s.getD j 0).toNat = true) (fun k => s.length - k) 0 ⟨by omega, fun j hj => by omega⟩ ?_ ?_
 ·(refine z02 (by rfl) ?_ ?_) <;> repeat' (first | (exact eqA) | (refine shE ?_) | (refine And.intro ?_ ?_))
 ·rintro k ⟨hk, hp⟩
  repeat ((try conv => whnf); first | (refine stpQ ?_))
  ((try conv => whnf); first | (refine cb_d (fun h => ?_) (fun h => ?_)) | (refine cb_n (fun h => ?_) (fun h => ?_)) | (refine cb (fun h => ?_) (fun h => ?_)))
  ·have hlt : k < s.length := by omega
   have next : valN (s.getD k 0).toNat = true → ∀ j, j < k + 1 → valN (s.getD j 0).toNat = true := fun hx j hj => by
    by_cases hjk : j = k
    ·subst hjk; exact hx
    ·exact hp j (by omega)
   have bad : valN (s.getD k 0).toNat = false → z1H s = false := fun hx => zco hlt hx
   repeat' (first | ((try conv => whnf); first | (refine stpQ ?_)) | ((try conv => whnf); first | (refine cb_d (fun h => ?_) (fun h => ?_)) | (refine cb_n (fun h => ?_) (fun h => ?_)) | (refine cb (fun h => ?_) (fun h => ?_))))
   all_goals first
    | (refine ⟨k + 1, ⟨by omega, next (zcq (by omega))⟩, by omega, ?_⟩
       (refine z02 (by rfl) ?_ ?_) <;> repeat' (first | (exact eqA) | (refine shE ?_) | (refine And.intro ?_ ?_)))
    | (rw [bad (zeP (by omega))]
       (refine z00 (by rfl) ?_ ?_ (by rfl)) <;> repeat' (first | (exact eqA) | (refine shE ?_) | (refine And.intro ?_ ?_)))
  ·repeat ((try conv => whnf); first | (refine ccA ([]) (z10 _ _ _) ?_) | (refine stpQ ?_))
   (refine z00 (by rfl) ?_ ?_ (by rfl)) <;> repeat' (first | (exact eqA) | (refine shE ?_) | (refine And.intro ?_ ?_))
   rw [z1H, z8Q (fun j hj => hp j (by omega))]
end Go.Proofs.YtgmbkbggnlponaaGreatDoor
namespace Go.Proofs.YtgmbkbggnlponaaGreatDoor
set_option maxRecDepth 100000
set_option maxHeartbeats 1000000
set_option linter.unusedVariables false
set_option linter.unusedSimpArgs false
set_option linter.unusedSectionVars false
open Go.RowKit Pl
attribute [local irreducible] z0t z0u z0y AnsP LeP
def lvE (l : List Lf) : List (List T) := l.map fun x => [.str x.1, .str x.2]
theorem zct {l : List Lf} {k : Nat} (h : k < l.length) : lfAt l k = l[k] := by simp [lfAt, List.getD, List.getElem?_eq_getElem h]
theorem z1K {l : List Lf} {k : Nat} (h : k < l.length) : (lvE l)[k]? = some [.str (lfAt l k).1, .str (lfAt l k).2] := by
 rw [zct h]; simp [lvE, List.getElem?_eq_getElem h]
theorem z0Q (l : List Lf) : (lvE l).length = l.length := by simp [lvE]
theorem z5k (a b : List Lf) : lvE (a ++ b) = lvE a ++ lvE b := by simp [lvE]
def Fit (l : List Lf) : Prop := ∀ i, ((lfAt l i).1.length : Int) ≤ 1000000000 ∧ ((lfAt l i).2.length : Int) ≤ 1000000000
theorem zeR (k : Nat) : (k == 0) = !decide ((0 : Int) < (k : Int)) := by cases k <;> simp <;> omega
theorem z7U (l : List Lf) (hl : (l.length : Int) ≤ 1000000000) (hf : Fit l) : CT Tryz.prog 124 [] [.sl 2 (lvE l)] (.bool (leavesOk l)) [] := by
 have hlen := z0Q l
 refine z01 z0m 1 rfl Tryz.func124 rfl rfl rfl ?_
 repeat ((try conv => whnf); first | (refine stpQ ?_))
 refine z0S Nat (fun k => ⟨[(0, .sl 2 (lvE l)), (5, .sl 2 (lvE l)), (6, .int .i64 ((lvE l).length : Int)), (7, .int .i64 (k : Int))], [], 2⟩) (fun k => k ≤ l.length ∧ k ≤ 24 ∧ ∀ j, j < k → z2g l j = true) (fun k => l.length - k) 0 ⟨by omega, by omega, fun j hj => by omega⟩ ?_ ?_
 ·(refine z02 (by rfl) ?_ ?_) <;> repeat' (first | (exact eqA) | (refine shE ?_) | (refine And.intro ?_ ?_))
 ·rintro k ⟨hk, hk2, hp⟩
  have hz := zeR k
  repeat ((try conv => whnf); first | (refine stpQ ?_))
  ((try conv => whnf); first | (refine cb_d (fun h => ?_) (fun h => ?_)) | (refine cb_n (fun h => ?_) (fun h => ?_)) | (refine cb (fun h => ?_) (fun h => ?_)))
  ·have hlt : k < l.length := by omega
   have next : z2g l k = true → ∀ j, j < k + 1 → z2g l j = true := fun hx j hj => by
    by_cases hjk : j = k
    ·subst hjk; exact hx
    ·exact hp j (by omega)
   repeat' (first | ((try conv => whnf); first | (refine i_at (z1K hlt) ?_) | (refine i_at (z1K (show k - 1 < l.length by omega)) ?_) | (refine ccA ([]) (zcs _ (hf k).1) ?_) | (refine ccA ([]) (zeQ _ (hf k).2) ?_) | (refine stpQ ?_)) | ((try conv => whnf); first | (refine cb_d (fun h => ?_) (fun h => ?_)) | (refine cb_n (fun h => ?_) (fun h => ?_)) | (refine cb (fun h => ?_) (fun h => ?_))))
   all_goals first
    | (refine ⟨k + 1, ⟨by omega, by omega, next (by simp_all [z2g, ltB])⟩, by omega, ?_⟩
       (refine z02 (by rfl) ?_ ?_) <;> repeat' (first | (exact eqA) | (refine shE ?_) | (refine And.intro ?_ ?_)))
    | (rw [z4N (by omega)]
       (refine z00 (by rfl) ?_ ?_ (by rfl)) <;> repeat' (first | (exact eqA) | (refine shE ?_) | (refine And.intro ?_ ?_)))
    | (rw [z5A hlt (by simp_all [z2g, ltB])]
       (refine z00 (by rfl) ?_ ?_ (by rfl)) <;> repeat' (first | (exact eqA) | (refine shE ?_) | (refine And.intro ?_ ?_)))
  ·repeat ((try conv => whnf); first | (refine stpQ ?_))
   rw [z3n (by omega) (fun j hj => hp j (by omega))]
   (refine z00 (by rfl) ?_ ?_ (by rfl)) <;> repeat' (first | (exact eqA) | (refine shE ?_) | (refine And.intro ?_ ?_))
theorem z1L (l : List Lf) (hl : (l.length : Int) ≤ 1000000000) (hf : Fit l) : CT Tryz.prog 122 [] [.sl 2 (lvE l)] (.bool (leavesOk l)) [] := by
 have hlen := z0Q l
 refine z01 z0m 1 rfl Tryz.func122 rfl rfl rfl ?_
 repeat ((try conv => whnf); first | (refine stpQ ?_))
 refine z0S Nat (fun k => ⟨[(0, .sl 2 (lvE l)), (3, .int .i64 (k : Int))], [], 2⟩) (fun k => k ≤ l.length ∧ ∀ j, j < k → z2g l j = true) (fun k => l.length - k) 0 ⟨by omega, fun j hj => by omega⟩ ?_ ?_
 ·(refine z02 (by rfl) ?_ ?_) <;> repeat' (first | (exact eqA) | (refine shE ?_) | (refine And.intro ?_ ?_))
 ·rintro k ⟨hk, hp⟩
  have hz := zeR k
  repeat ((try conv => whnf); first | (refine stpQ ?_))
  ((try conv => whnf); first | (refine cb_d (fun h => ?_) (fun h => ?_)) | (refine cb_n (fun h => ?_) (fun h => ?_)) | (refine cb (fun h => ?_) (fun h => ?_)))
  ·have hlt : k < l.length := by omega
   have next : z2g l k = true → ∀ j, j < k + 1 → z2g l j = true := fun hx j hj => by
    by_cases hjk : j = k
    ·subst hjk; exact hx
    ·exact hp j (by omega)
   repeat' (first | ((try conv => whnf); first | (refine i_at (z1K hlt) ?_) | (refine i_at (z1K (show k - 1 < l.length by omega)) ?_) | (refine ccA ([]) (z6E _ (hf k).1) ?_) | (refine ccA ([]) (zdi _ (hf k).2) ?_) | (refine stpQ ?_)) | ((try conv => whnf); first | (refine cb_d (fun h => ?_) (fun h => ?_)) | (refine cb_n (fun h => ?_) (fun h => ?_)) | (refine cb (fun h => ?_) (fun h => ?_))))
   all_goals first
    | (refine ⟨k + 1, ⟨by omega, next (by simp_all [z2g, ltB])⟩, by omega, ?_⟩
       (refine z02 (by rfl) ?_ ?_) <;> repeat' (first | (exact eqA) | (refine shE ?_) | (refine And.intro ?_ ?_)))
    | (rw [z5A hlt (by simp_all [z2g, ltB])]
       (refine z00 (by rfl) ?_ ?_ (by rfl)) <;> repeat' (first | (exact eqA) | (refine shE ?_) | (refine And.intro ?_ ?_)))
  ·repeat ((try conv => whnf); first | (refine stpQ ?_))
   (refine z00 (by rfl) ?_ ?_ (by rfl)) <;> repeat' (first | (exact eqA) | (refine shE ?_) | (refine And.intro ?_ ?_))
   by_cases h24 : l.length ≤ 24
   ·rw [z3n (by omega) (fun j hj => hp j (by omega))]; simp; omega
   ·rw [z4N (by omega)]; simp; omega
end Go.Proofs.YtgmbkbggnlponaaGreatDoor
namespace Go.Proofs.YtgmbkbggnlponaaGreatDoor
set_option maxRecDepth 100000
set_option maxHeartbeats 400000
set_option linter.unusedVariables false
set_option linter.unusedSimpArgs false
set_option linter.unusedSectionVars false
open Go.RowKit Pl
attribute [local irreducible] z0t z0u z0y AnsP LeP
theorem w_quo {a n : Nat} {K : Int → Prop} (h : a ≤ 9223372036854775807) (hk : K ((a / n : Nat) : Int)) : ∃ r, r = IntKind.i64.wrap ((a : Int).tdiv (n : Int)) ∧ K r := by
 have e : (a : Int).tdiv (n : Int) = ((a / n : Nat) : Int) := Int.ofNat_tdiv a n
 have : a / n ≤ a := Nat.div_le_self _ _
 have h2 : ((a / n : Nat) : Int) ≤ 9223372036854775807 := by generalize a / n = x at *; omega
 have h3 : (0 : Int) ≤ ((a / n : Nat) : Int) := Int.natCast_nonneg _
 generalize a / n = x at *
 exact ⟨_, by rw [e, wrap_i64 (by omega) h2], hk⟩
theorem zh5 {a n : Nat} {K : Int → Prop} (h : a ≤ 9223372036854775807) (hk : K ((a / OfNat.ofNat n : Nat) : Int)) : ∃ r, r = IntKind.i64.wrap ((a : Int).tdiv (OfNat.ofNat n : Int)) ∧ K r := w_quo (n := OfNat.ofNat n) h hk
theorem z2Y {a n : Nat} {K : Int → Prop} (hk : K ((a % OfNat.ofNat n : Nat) : Int)) : ∃ r, r = (a : Int).tmod (OfNat.ofNat n : Int) ∧ K r :=
 ⟨_, (Int.ofNat_tmod a (OfNat.ofNat n)).symm, hk⟩
theorem wrap_u8 {n : Nat} : IntKind.u8.wrap (n : Int) = ((UInt8.ofNat n).toNat : Int) := by
 show (if (false && decide ((n : Int) % 2 ^ 8 ≥ 2 ^ (8 - 1))) = true then (n : Int) % 2 ^ 8 - 2 ^ 8 else (n : Int) % 2 ^ 8) = _
 simp
theorem w_u8 {n : Nat} {K : Int → Prop} (hk : K ((UInt8.ofNat n).toNat : Int)) : ∃ r, r = IntKind.u8.wrap (n : Int) ∧ K r := ⟨_, wrap_u8.symm, hk⟩
theorem z0F (l : Bs) : (z0f l).length = l.length := by simp [z0f]
theorem c_big (l : Bs) : CT Tryz.prog 4 [] [.sl 1 (z0f l)] (.bool (decide ((1048576 : Int) < (l.length : Int)))) [] := by
 have hlen := z0F l
 refine z01 z0m 1 rfl Tryz.func4 rfl rfl rfl ?_
 repeat ((try conv => whnf); first | (refine stpQ ?_))
 rw [← hlen]
 (refine z00 (by rfl) ?_ ?_ (by rfl)) <;> repeat' (first | (exact eqA) | (refine shE ?_) | (refine And.intro ?_ ?_))
theorem zh6 {a n : Nat} {K : Int → Prop} (h : OfNat.ofNat n + a ≤ 9223372036854775807) (hk : K ((OfNat.ofNat n + a : Nat) : Int)) : ∃ r, r = IntKind.i64.wrap ((OfNat.ofNat n : Int) + (a : Int)) ∧ K r :=
 zhE (a := OfNat.ofNat n) h hk
theorem zeS (n : Nat) (hn : (n : Int) ≤ 2000000000) : CT Tryz.prog 173 [] [.int .i64 (n : Int)] (.str (z0g n)) [] := by
 have hvl := z2O hn
 refine z01 z0m 1 rfl Tryz.func173 rfl rfl rfl ?_
 repeat ((try conv => whnf); first | (refine stpQ ?_))
 refine z0S (Nat × Bs) (fun ⟨m, out⟩ => ⟨[(0, .int .i64 (m : Int)), (3, .ref 1)], [(1, some (.row 1 (z0f out)))], 2⟩) (fun ⟨m, out⟩ => out ++ z0g m = z0g n ∧ m ≤ n) (fun ⟨m, out⟩ => m) (n, []) ⟨rfl, Nat.le_refl _⟩ ?_ ?_
 ·(refine z02 (by rfl) ?_ ?_) <;> (repeat' (first | (exact eqA) | (refine shE ?_) | (refine And.intro ?_ ?_))) <;> first | rfl | decide
 ·rintro ⟨m, out⟩ ⟨h1, h2⟩
  have hol : out.length + (z0g m).length ≤ 5 := by
   have := congrArg List.length h1
   rw [List.length_append] at this
   omega
  have hbl := z0F out
  repeat ((try conv => whnf); first | (refine stpQ ?_))
  ((try conv => whnf); first | (refine cb_d (fun h => ?_) (fun h => ?_)) | (refine cb_n (fun h => ?_) (fun h => ?_)) | (refine cb (fun h => ?_) (fun h => ?_)))
  ·repeat ((try conv => whnf); first | (refine z2Y ?_) | (refine zh5 (by omega) ?_) | (refine zh6 (by omega) ?_) | (refine w_u8 ?_) | (refine And.intro (by simp [z0F]; omega) ?_) | (refine stpQ ?_))
   refine ⟨(m / 128, out ++ [UInt8.ofNat (128 + m % 128)]), ⟨?_, ?_⟩, ?_, ?_⟩
   ·rw [← h1, z2N (n := m) (by omega)]; simp
   ·exact Nat.le_trans (Nat.div_le_self _ _) h2
   ·exact Nat.div_lt_self (by omega) (by omega)
   ·(refine z02 (by rfl) ?_ ?_) <;> (repeat' (first | (exact eqA) | (refine shE ?_) | (refine And.intro ?_ ?_)))
    simp [z0f, z49]
    rfl
  ·repeat ((try conv => whnf); first | (refine w_u8 ?_) | (refine And.intro (by simp [z0F]; omega) ?_) | (refine Exists.intro (out ++ [UInt8.ofNat m]) (And.intro (by simp [z0f, z49]; first | done | fail) ?_)) | (refine stpQ ?_))
   rw [← h1, z1m (n := m) (by omega)]
   (refine z00 (by rfl) ?_ ?_ (by rfl)) <;> repeat' (first | (exact eqA) | (refine shE ?_) | (refine And.intro ?_ ?_))
theorem z0O {n : Nat} (hn : (n : Int) ≤ 2000000000) : ((z0g n).length : Int) ≤ 5 := by have := z2O hn; omega
theorem zbl (s : Bs) (hs : (s.length : Int) ≤ 1000000000) : CT Tryz.prog 165 [] [.str s] (.str (z0e s)) [] := by
 have hvl := z0O (n := s.length) (by omega)
 refine z01 z0m 1 rfl Tryz.func165 rfl rfl rfl ?_
 repeat ((try conv => whnf); first | (refine ccA ([]) (zeS s.length (by omega)) ?_) | (refine stpQ ?_))
 (refine z00 (by rfl) ?_ ?_ (by rfl)) <;> repeat' (first | (exact eqA) | (refine shE ?_) | (refine And.intro ?_ ?_))
 rfl
theorem z7V {s : Bs} (hs : (s.length : Int) ≤ 1000000000) : ((z0e s).length : Int) ≤ (s.length : Int) + 5 := by have := z2G (l := s) (by omega); omega
def Sml (l : List Lf) : Prop := (l.length : Int) ≤ 1000 ∧ ∀ i, ((lfAt l i).1.length : Int) ≤ 1000000 ∧ ((lfAt l i).2.length : Int) ≤ 1000000
theorem z9W {l : List Lf} {k : Nat} (h : k < l.length) : (l.take (k + 1)).flatMap z1T = (l.take k).flatMap z1T ++ (z0e (lfAt l k).1 ++ z0e (lfAt l k).2) := by
 rw [z2b l k h, List.flatMap_append]; simp [z1T]
theorem z8R {l : List Lf} (h : Sml l) : ∀ k, (((l.take k).flatMap z1T).length : Int) ≤ 3000000 * k
 | 0 => by simp
 | k + 1 => by
   have ih := z8R h k
   by_cases hk : k < l.length
   ·rw [z9W hk]
    have h1 := z7V (s := (lfAt l k).1) (by have := (h.2 k).1; omega)
    have h2 := z7V (s := (lfAt l k).2) (by have := (h.2 k).2; omega)
    have := h.2 k
    simp only [List.length_append]
    omega
   ·rw [List.take_of_length_le (by omega)]
    rw [List.take_of_length_le (by omega)] at ih
    omega
end Go.Proofs.YtgmbkbggnlponaaGreatDoor
