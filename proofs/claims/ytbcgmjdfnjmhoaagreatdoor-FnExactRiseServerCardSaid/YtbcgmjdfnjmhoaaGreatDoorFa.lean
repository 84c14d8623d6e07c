/- The types that the code names. Functions by content: names, values, lists of entries. Functions by content: lists of entries. Functions by content: numbers, strings and entries as bytes. -/
import Derived.Test.YtbcgmjdfnjmhoaaGreatDoorVd
import Derived.Test.YtbcgmjdfnjmhoaaGreatDoorWa
import Derived.Test.YtbcgmjdfnjmhoaaGreatDoorPlainM
namespace Go.Proofs.YtbcgmjdfnjmhoaaGreatDoor
set_option linter.unusedVariables false
set_option linter.unusedSimpArgs false
set_option linter.unusedSectionVars false
open Go.RowKit Pl
def tyInt : Ty := ⟨1, 8, [.int .i64 0], .int .i64, false⟩
def tySl (e : TypeId) : Ty := ⟨1, 24, [.val nilV], .slice e, false⟩
def ttL : List (Nat × Ty) := [
 (4, ⟨1, 1, [.bool false], .bool, false⟩),
 (9, ⟨1, 16, [.str []], .string, false⟩),
 (5, ⟨1, 1, [.int .u8 0], .int .u8, false⟩),
 (209, ⟨2, 32, [.str [], .str []], .struct [(0, 9), (1, 9)], true⟩),
 (83, tySl 209),
 (210, tySl 5),
 (43, tySl 9),
 (30, tySl 3),
 (146, ⟨3, 40, [.int .i64 0, .str [], .str []], .struct [(0, 3), (1, 9), (2, 9)], true⟩),
 (31, tySl 146),
 (111, ⟨3, 32, [.str [], .int .i64 0, .bool false], .struct [(0, 9), (1, 3), (2, 4)], false⟩),
 (101, ⟨3, 32, [.str [], .int .i64 0, .bool false], .struct [(0, 9), (1, 3), (2, 4)], false⟩),
 (204, ⟨1, 4, [.int .u32 0], .int .u32, false⟩),
 (196, ⟨1, 8, [.int .u64 0], .int .u64, false⟩),
 (3, tyInt)]
def tt : TT := lk ttL
set_option maxRecDepth 100000 in
set_option maxHeartbeats 4000000 in
theorem zb8 : ∀ p ∈ ttL, TyOk Tryz.prog p.1 p.2 := by
 simp only [ttL, List.forall_mem_cons]
 repeat' (refine And.intro ?_ ?_)
 all_goals first
  | exact (fun _ h => by cases h)
  | exact ⟨⟨_, _, rfl, rfl, rfl, rfl, rfl⟩, ⟨_, rfl, rfl⟩, rfl, rfl, fun h => (Bool.false_ne_true h).elim⟩
  | (refine ⟨⟨_, _, rfl, rfl, rfl, rfl, rfl⟩, ⟨_, rfl, rfl⟩, rfl, rfl, fun _ => ⟨by kernel_rfl, by kernel_rfl, _, rfl, z8s ?_⟩⟩
     repeat (first | exact rfl | (refine And.intro (by decide) (And.intro rfl (And.intro rfl ?_)))))
theorem z1e : TtOk Tryz.prog tt := fun t y h => zb8 (t, y) (z1g h)
end Go.Proofs.YtbcgmjdfnjmhoaaGreatDoor
namespace Go.Proofs.YtbcgmjdfnjmhoaaGreatDoor
set_option maxRecDepth 100000
set_option maxHeartbeats 1000000
set_option linter.unusedVariables false
set_option linter.unusedSimpArgs false
set_option linter.unusedSectionVars false
open Go.RowKit Pl
attribute [local irreducible] z0F z0I z0T AnsP LeP
theorem z98 {f : Nat → Bool} {l : Bs} {k : Nat} (hk : k < l.length) (h : f (l.getD k 0).toNat = false) : allN f l = false := by
 have : l.all (fun b => f b.toNat) = false := by
  rw [List.all_eq_false]
  refine ⟨l[k], List.getElem_mem hk, ?_⟩
  have e : l.getD k 0 = l[k] := by simp [List.getD, List.getElem?_eq_getElem hk]
  rw [← e, h]; simp
 rw [allN, this, Bool.and_false]
theorem z6h {f : Nat → Bool} {l : Bs} (h : ∀ k, k < l.length → f (l.getD k 0).toNat = true) : allN f l = inB l.length 1 12 := by
 have : l.all (fun b => f b.toNat) = true := by
  rw [List.all_eq_true]
  intro b hb
  obtain ⟨k, hk, rfl⟩ := List.getElem_of_mem hb
  have e : l.getD k 0 = l[k] := by simp [List.getD, List.getElem?_eq_getElem hk]
  rw [← e]; exact h k hk
 rw [allN, this, Bool.and_true, inB]
 congr 1 <;> exact decide_eq_decide.2 (by omega)
theorem zbi {f : Nat → Bool} {l : Bs} (h : 12 < l.length) : allN f l = false := by
 have : decide (l.length ≤ 12) = false := by simp; omega
 rw [allN, this]; simp
theorem z75 {n : Nat} (h : (97 ≤ n ∧ n ≤ 122) ∨ (48 ≤ n ∧ n ≤ 57) ∨ n = 64 ∨ n = 46) : z1P n = true := by simp [z1P]; omega
theorem z99 {n : Nat} (h : ¬ ((97 ≤ n ∧ n ≤ 122) ∨ (48 ≤ n ∧ n ≤ 57) ∨ n = 64 ∨ n = 46)) : z1P n = false := by simp [z1P]; omega
theorem z9a {n : Nat} (h : 33 ≤ n ∧ n ≤ 126) : valN n = true := by simp [valN]; omega
theorem zbj {n : Nat} (h : ¬ (33 ≤ n ∧ n ≤ 126)) : valN n = false := by simp [valN]; omega
theorem z9b {l : Bs} (h : 12 < l.length) : inB l.length 1 12 = false := by
 simp [inB]; omega
theorem c_in (a lo hi : Int) : CT Tryz.prog 129 [] [.int .i64 a, .int .i64 lo, .int .i64 hi] (.bool (inB a lo hi)) [] := by
 refine z01 z1e 1 rfl Tryz.func129 rfl rfl rfl ?_
 repeat' (first | ((try conv => whnf); first | (refine stpQ ?_)) | ((try conv => whnf); first | (refine cb_d (fun h => ?_) (fun h => ?_)) | (refine cb_n (fun h => ?_) (fun h => ?_)) | (refine cb (fun h => ?_) (fun h => ?_))))
 all_goals
  (refine z00 (by rfl) ?_ ?_ (by rfl)) <;> repeat' (first | (exact eqA) | (refine shE ?_) | (refine And.intro ?_ ?_)) <;> simp [inB] <;> omega
theorem z37 (a lo hi : Int) : CT Tryz.prog 105 [] [.int .i64 a, .int .i64 lo, .int .i64 hi] (.bool (inB a lo hi)) [] := by
 refine z01 z1e 1 rfl Tryz.func105 rfl rfl rfl ?_
 repeat' (first | ((try conv => whnf); first | (refine stpQ ?_)) | ((try conv => whnf); first | (refine cb_d (fun h => ?_) (fun h => ?_)) | (refine cb_n (fun h => ?_) (fun h => ?_)) | (refine cb (fun h => ?_) (fun h => ?_))))
 all_goals
  (refine z00 (by rfl) ?_ ?_ (by rfl)) <;> repeat' (first | (exact eqA) | (refine shE ?_) | (refine And.intro ?_ ?_)) <;> simp [inB] <;> omega
theorem zcL (s : Bs) (hs : (s.length : Int) ≤ 1000000000) : CT Tryz.prog 229 [] [.str s] (.bool (z13 s)) [] := by
 refine z01 z1e 1 rfl Tryz.func229 rfl rfl rfl ?_
 repeat ((try conv => whnf); first | (refine stpQ ?_))
 refine z0y Nat (fun k => ⟨[(0, .str s), (3, .int .i64 (k : Int))], [], 2⟩) (fun k => k ≤ s.length ∧ k ≤ 13 ∧ ∀ j, j < k → z1P (s.getD j 0).toNat = true) (fun k => s.length - k) 0 ⟨by omega, by omega, fun j hj => by omega⟩ ?_ ?_
 ·(refine z02 (by rfl) ?_ ?_) <;> repeat' (first | (exact eqA) | (refine shE ?_) | (refine And.intro ?_ ?_))
 ·rintro k ⟨hk, hk2, hp⟩
  repeat ((try conv => whnf); first | (refine stpQ ?_))
  ((try conv => whnf); first | (refine cb_d (fun h => ?_) (fun h => ?_)) | (refine cb_n (fun h => ?_) (fun h => ?_)) | (refine cb (fun h => ?_) (fun h => ?_)))
  ·repeat ((try conv => whnf); first | (refine stpQ ?_))
   ((try conv => whnf); first | (refine cb_d (fun h => ?_) (fun h => ?_)) | (refine cb_n (fun h => ?_) (fun h => ?_)) | (refine cb (fun h => ?_) (fun h => ?_)))
   ·have hlt : k < s.length := by omega
    have next : z1P (s.getD k 0).toNat = true → ∀ j, j < k + 1 → z1P (s.getD j 0).toNat = true := fun hx j hj => by
     by_cases hjk : j = k
     ·subst hjk; exact hx
     ·exact hp j (by omega)
    have bad : z1P (s.getD k 0).toNat = false → z13 s = false := fun hx => z98 hlt hx
    repeat' (first | ((try conv => whnf); first | (refine stpQ ?_)) | ((try conv => whnf); first | (refine cb_d (fun h => ?_) (fun h => ?_)) | (refine cb_n (fun h => ?_) (fun h => ?_)) | (refine cb (fun h => ?_) (fun h => ?_))))
    all_goals first
     | (refine ⟨k + 1, ⟨by omega, by omega, next (z75 (by omega))⟩, by omega, ?_⟩
        (refine z02 (by rfl) ?_ ?_) <;> repeat' (first | (exact eqA) | (refine shE ?_) | (refine And.intro ?_ ?_)))
     | (rw [bad (z99 (by omega))]
        (refine z00 (by rfl) ?_ ?_ (by rfl)) <;> repeat' (first | (exact eqA) | (refine shE ?_) | (refine And.intro ?_ ?_)))
   ·repeat ((try conv => whnf); first | (refine ccA ([]) (c_in _ _ _) ?_) | (refine stpQ ?_))
    (refine z00 (by rfl) ?_ ?_ (by rfl)) <;> repeat' (first | (exact eqA) | (refine shE ?_) | (refine And.intro ?_ ?_))
    rw [z13, zbi (by omega), z9b (by omega)]
  ·repeat ((try conv => whnf); first | (refine ccA ([]) (c_in _ _ _) ?_) | (refine stpQ ?_))
   (refine z00 (by rfl) ?_ ?_ (by rfl)) <;> repeat' (first | (exact eqA) | (refine shE ?_) | (refine And.intro ?_ ?_))
   rw [z13, z6h (fun j hj => hp j (by omega))]
theorem zbk (s : Bs) (hs : (s.length : Int) ≤ 1000000000) : CT Tryz.prog 233 [] [.str s] (.bool (z13 s)) [] := by
 refine z01 z1e 1 rfl Tryz.func233 rfl rfl rfl ?_
 repeat ((try conv => whnf); first | (refine stpQ ?_))
 refine z0y Nat (fun k => ⟨[(0, .str s), (3, .int .i64 (k : Int))], [], 2⟩) (fun k => k ≤ s.length ∧ ∀ j, j < k → z1P (s.getD j 0).toNat = true) (fun k => s.length - k) 0 ⟨by omega, fun j hj => by omega⟩ ?_ ?_
 ·(refine z02 (by rfl) ?_ ?_) <;> repeat' (first | (exact eqA) | (refine shE ?_) | (refine And.intro ?_ ?_))
 ·rintro k ⟨hk, hp⟩
  repeat ((try conv => whnf); first | (refine stpQ ?_))
  ((try conv => whnf); first | (refine cb_d (fun h => ?_) (fun h => ?_)) | (refine cb_n (fun h => ?_) (fun h => ?_)) | (refine cb (fun h => ?_) (fun h => ?_)))
  ·have hlt : k < s.length := by omega
   have next : z1P (s.getD k 0).toNat = true → ∀ j, j < k + 1 → z1P (s.getD j 0).toNat = true := fun hx j hj => by
    by_cases hjk : j = k
    ·subst hjk; exact hx
    ·exact hp j (by omega)
   have bad : z1P (s.getD k 0).toNat = false → z13 s = false := fun hx => z98 hlt hx
   repeat' (first | ((try conv => whnf); first | (refine stpQ ?_)) | ((try conv => whnf); first | (refine cb_d (fun h => ?_) (fun h => ?_)) | (refine cb_n (fun h => ?_) (fun h => ?_)) | (refine cb (fun h => ?_) (fun h => ?_))))
   all_goals first
    | (refine ⟨k + 1, ⟨by omega, next (z75 (by omega))⟩, by omega, ?_⟩
       (refine z02 (by rfl) ?_ ?_) <;> repeat' (first | (exact eqA) | (refine shE ?_) | (refine And.intro ?_ ?_)))
    | (rw [bad (z99 (by omega))]
       (refine z00 (by rfl) ?_ ?_ (by rfl)) <;> repeat' (first | (exact eqA) | (refine shE ?_) | (refine And.intro ?_ ?_)))
  ·repeat ((try conv => whnf); first | (refine ccA ([]) (z37 _ _ _) ?_) | (refine stpQ ?_))
   (refine z00 (by rfl) ?_ ?_ (by rfl)) <;> repeat' (first | (exact eqA) | (refine shE ?_) | (refine And.intro ?_ ?_))
   rw [z13, z6h (fun j hj => hp j (by omega))]
theorem zbl (s : Bs) (hs : (s.length : Int) ≤ 1000000000) : CT Tryz.prog 230 [] [.str s] (.bool (z0M s)) [] := by
 refine z01 z1e 1 rfl Tryz.func230 rfl rfl rfl ?_
 repeat ((try conv => whnf); first | (refine stpQ ?_))
 refine z0y Nat (fun k => ⟨[(0, .str s), (3, .int .i64 (k : Int))], [], 2⟩) (fun k => k ≤ s.length ∧ k ≤ 13 ∧ ∀ j, j < k → valN (s.getD j 0).toNat = true) (fun k => s.length - k) 0 ⟨by omega, by omega, fun j hj => by omega⟩ ?_ ?_
 ·(refine z02 (by rfl) ?_ ?_) <;> repeat' (first | (exact eqA) | (refine shE ?_) | (refine And.intro ?_ ?_))
 ·rintro k ⟨hk, hk2, hp⟩
  repeat ((try conv => whnf); first | (refine stpQ ?_))
  ((try conv => whnf); first | (refine cb_d (fun h => ?_) (fun h => ?_)) | (refine cb_n (fun h => ?_) (fun h => ?_)) | (refine cb (fun h => ?_) (fun h => ?_)))
  ·repeat ((try conv => whnf); first | (refine stpQ ?_))
   ((try conv => whnf); first | (refine cb_d (fun h => ?_) (fun h => ?_)) | (refine cb_n (fun h => ?_) (fun h => ?_)) | (refine cb (fun h => ?_) (fun h => ?_)))
   ·have hlt : k < s.length := by omega
    have next : valN (s.getD k 0).toNat = true → ∀ j, j < k + 1 → valN (s.getD j 0).toNat = true := fun hx j hj => by
     by_cases hjk : j = k
     ·subst hjk; exact hx
     ·exact hp j (by omega)
    have bad : valN (s.getD k 0).toNat = false → z0M s = false := fun hx => z98 hlt hx
    have h8 := (s.getD k 0).toNat_lt
    repeat ((try conv => whnf); first | (refine ccA ([]) (c_in _ _ _) ?_) | (refine stpQ ?_))
    ((try conv => whnf); first | (refine cb_d (fun h => ?_) (fun h => ?_)) | (refine cb_n (fun h => ?_) (fun h => ?_)) | (refine cb (fun h => ?_) (fun h => ?_)))
    ·have hx : inB ((s.getD k 0).toNat : Int) 33 126 = false := by simpa using h
     rw [bad (zbj fun hc => by rw [z2v.2 (by omega)] at hx; cases hx)]
     repeat ((try conv => whnf); first | (refine stpQ ?_))
     (refine z00 (by rfl) ?_ ?_ (by rfl)) <;> repeat' (first | (exact eqA) | (refine shE ?_) | (refine And.intro ?_ ?_))
    ·have hx : inB ((s.getD k 0).toNat : Int) 33 126 = true := by simpa using h
     rw [z2v] at hx
     repeat ((try conv => whnf); first | (refine stpQ ?_))
     refine ⟨k + 1, ⟨by omega, by omega, next (z9a (by omega))⟩, by omega, ?_⟩
     (refine z02 (by rfl) ?_ ?_) <;> repeat' (first | (exact eqA) | (refine shE ?_) | (refine And.intro ?_ ?_))
   ·repeat ((try conv => whnf); first | (refine ccA ([]) (c_in _ _ _) ?_) | (refine stpQ ?_))
    (refine z00 (by rfl) ?_ ?_ (by rfl)) <;> repeat' (first | (exact eqA) | (refine shE ?_) | (refine And.intro ?_ ?_))
    rw [z0M, zbi (by omega), z9b (by omega)]
  ·repeat ((try conv => whnf); first | (refine ccA ([]) (c_in _ _ _) ?_) | (refine stpQ ?_))
   (refine z00 (by rfl) ?_ ?_ (by rfl)) <;> repeat' (first | (exact eqA) | (refine shE ?_) | (refine And.intro ?_ ?_))
   rw [z0M, z6h (fun j hj => hp j (by omega))]
theorem z9W (s : Bs) (hs : (s.length : Int) ≤ 1000000000) : CT Tryz.prog 234 [] [.str s] (.bool (z0M s)) [] := by
 refine z01 z1e 1 rfl Tryz.func234 rfl rfl rfl ?_
 repeat ((try conv => whnf); first | (refine stpQ ?_))
 refine z0y Nat (fun k => ⟨[(0, .str s), (3, .int .i64 (k : Int))], [], 2⟩) (fun k => k ≤ s.length ∧ ∀ j, j < k → valN (s.getD j 0).toNat = true) (fun k => s.length - k) 0 ⟨by omega, fun j hj => by omega⟩ ?_ ?_
 ·(refine z02 (by rfl) ?_ ?_) <;> repeat' (first | (exact eqA) | (refine shE ?_) | (refine And.intro ?_ ?_))
 ·rintro k ⟨hk, hp⟩
  repeat ((try conv => whnf); first | (refine stpQ ?_))
  ((try conv => whnf); first | (refine cb_d (fun h => ?_) (fun h => ?_)) | (refine cb_n (fun h => ?_) (fun h => ?_)) | (refine cb (fun h => ?_) (fun h => ?_)))
  ·have hlt : k < s.length := by omega
   have next : valN (s.getD k 0).toNat = true → ∀ j, j < k + 1 → valN (s.getD j 0).toNat = true := fun hx j hj => by
    by_cases hjk : j = k
    ·subst hjk; exact hx
    ·exact hp j (by omega)
   have bad : valN (s.getD k 0).toNat = false → z0M s = false := fun hx => z98 hlt hx
   repeat' (first | ((try conv => whnf); first | (refine stpQ ?_)) | ((try conv => whnf); first | (refine cb_d (fun h => ?_) (fun h => ?_)) | (refine cb_n (fun h => ?_) (fun h => ?_)) | (refine cb (fun h => ?_) (fun h => ?_))))
   all_goals first
    | (refine ⟨k + 1, ⟨by omega, next (z9a (by omega))⟩, by omega, ?_⟩
       (refine z02 (by rfl) ?_ ?_) <;> repeat' (first | (exact eqA) | (refine shE ?_) | (refine And.intro ?_ ?_)))
    | (rw [bad (zbj (by omega))]
       (refine z00 (by rfl) ?_ ?_ (by rfl)) <;> repeat' (first | (exact eqA) | (refine shE ?_) | (refine And.intro ?_ ?_)))
  ·repeat ((try conv => whnf); first | (refine ccA ([]) (z37 _ _ _) ?_) | (refine stpQ ?_))
   (refine z00 (by rfl) ?_ ?_ (by rfl)) <;> repeat' (first | (exact eqA) | (refine shE ?_) | (refine And.intro ?_ ?_))
   rw [z0M, z6h (fun j hj => hp j (by omega))]
end Go.Proofs.YtbcgmjdfnjmhoaaGreatDoor
namespace Go.Proofs.YtbcgmjdfnjmhoaaGreatDoor
set_option maxRecDepth 100000
set_option maxHeartbeats 1000000
set_option linter.unusedVariables false
set_option linter.unusedSimpArgs false
set_option linter.unusedSectionVars false
open Go.RowKit Pl
attribute [local irreducible] z0F z0I z0T AnsP LeP
def lvE (l : List Lf) : List (List T) := l.map fun x => [.str x.1, .str x.2]
theorem zcM {l : List Lf} {k : Nat} (h : k < l.length) : lfAt l k = l[k] := by simp [lfAt, List.getD, List.getElem?_eq_getElem h]
theorem z1R {l : List Lf} {k : Nat} (h : k < l.length) : (lvE l)[k]? = some [.str (lfAt l k).1, .str (lfAt l k).2] := by
 rw [zcM h]; simp [lvE, List.getElem?_eq_getElem h]
theorem z0Y (l : List Lf) : (lvE l).length = l.length := by simp [lvE]
theorem z3N (a b : List Lf) : lvE (a ++ b) = lvE a ++ lvE b := by simp [lvE]
def Fit (l : List Lf) : Prop := ∀ i, ((lfAt l i).1.length : Int) ≤ 1000000000 ∧ ((lfAt l i).2.length : Int) ≤ 1000000000
theorem zbm (k : Nat) : (k == 0) = !decide ((0 : Int) < (k : Int)) := by cases k <;> simp <;> omega
theorem z2F (l : List Lf) (hl : (l.length : Int) ≤ 1000000000) (hf : Fit l) : CT Tryz.prog 192 [] [.sl 2 (lvE l)] (.bool (z04 l)) [] := by
 have hlen := z0Y l
 refine z01 z1e 1 rfl Tryz.func192 rfl rfl rfl ?_
 repeat ((try conv => whnf); first | (refine stpQ ?_))
 refine z0y Nat (fun k => ⟨[(0, .sl 2 (lvE l)), (5, .sl 2 (lvE l)), (6, .int .i64 ((lvE l).length : Int)), (7, .int .i64 (k : Int))], [], 2⟩) (fun k => k ≤ l.length ∧ k ≤ 24 ∧ ∀ j, j < k → z1q l j = true) (fun k => l.length - k) 0 ⟨by omega, by omega, fun j hj => by omega⟩ ?_ ?_
 ·(refine z02 (by rfl) ?_ ?_) <;> repeat' (first | (exact eqA) | (refine shE ?_) | (refine And.intro ?_ ?_))
 ·rintro k ⟨hk, hk2, hp⟩
  have hz := zbm k
  repeat ((try conv => whnf); first | (refine stpQ ?_))
  ((try conv => whnf); first | (refine cb_d (fun h => ?_) (fun h => ?_)) | (refine cb_n (fun h => ?_) (fun h => ?_)) | (refine cb (fun h => ?_) (fun h => ?_)))
  ·have hlt : k < l.length := by omega
   have next : z1q l k = true → ∀ j, j < k + 1 → z1q l j = true := fun hx j hj => by
    by_cases hjk : j = k
    ·subst hjk; exact hx
    ·exact hp j (by omega)
   repeat' (first | ((try conv => whnf); first | (refine i_at (z1R hlt) ?_) | (refine i_at (z1R (show k - 1 < l.length by omega)) ?_) | (refine ccA ([]) (zcL _ (hf k).1) ?_) | (refine ccA ([]) (zbl _ (hf k).2) ?_) | (refine stpQ ?_)) | ((try conv => whnf); first | (refine cb_d (fun h => ?_) (fun h => ?_)) | (refine cb_n (fun h => ?_) (fun h => ?_)) | (refine cb (fun h => ?_) (fun h => ?_))))
   all_goals first
    | (refine ⟨k + 1, ⟨by omega, by omega, next (by simp_all [z1q, ltB])⟩, by omega, ?_⟩
       (refine z02 (by rfl) ?_ ?_) <;> repeat' (first | (exact eqA) | (refine shE ?_) | (refine And.intro ?_ ?_)))
    | (rw [z3r (by omega)]
       (refine z00 (by rfl) ?_ ?_ (by rfl)) <;> repeat' (first | (exact eqA) | (refine shE ?_) | (refine And.intro ?_ ?_)))
    | (rw [z3X hlt (by simp_all [z1q, ltB])]
       (refine z00 (by rfl) ?_ ?_ (by rfl)) <;> repeat' (first | (exact eqA) | (refine shE ?_) | (refine And.intro ?_ ?_)))
  ·repeat ((try conv => whnf); first | (refine stpQ ?_))
   rw [z2f (by omega) (fun j hj => hp j (by omega))]
   (refine z00 (by rfl) ?_ ?_ (by rfl)) <;> repeat' (first | (exact eqA) | (refine shE ?_) | (refine And.intro ?_ ?_))
theorem z38 (l : List Lf) (hl : (l.length : Int) ≤ 1000000000) (hf : Fit l) : CT Tryz.prog 186 [] [.sl 2 (lvE l)] (.bool (z04 l)) [] := by
 have hlen := z0Y l
 refine z01 z1e 1 rfl Tryz.func186 rfl rfl rfl ?_
 repeat ((try conv => whnf); first | (refine stpQ ?_))
 refine z0y Nat (fun k => ⟨[(0, .sl 2 (lvE l)), (3, .int .i64 (k : Int))], [], 2⟩) (fun k => k ≤ l.length ∧ ∀ j, j < k → z1q l j = true) (fun k => l.length - k) 0 ⟨by omega, fun j hj => by omega⟩ ?_ ?_
 ·(refine z02 (by rfl) ?_ ?_) <;> repeat' (first | (exact eqA) | (refine shE ?_) | (refine And.intro ?_ ?_))
 ·rintro k ⟨hk, hp⟩
  have hz := zbm k
  repeat ((try conv => whnf); first | (refine stpQ ?_))
  ((try conv => whnf); first | (refine cb_d (fun h => ?_) (fun h => ?_)) | (refine cb_n (fun h => ?_) (fun h => ?_)) | (refine cb (fun h => ?_) (fun h => ?_)))
  ·have hlt : k < l.length := by omega
   have next : z1q l k = true → ∀ j, j < k + 1 → z1q l j = true := fun hx j hj => by
    by_cases hjk : j = k
    ·subst hjk; exact hx
    ·exact hp j (by omega)
   repeat' (first | ((try conv => whnf); first | (refine i_at (z1R hlt) ?_) | (refine i_at (z1R (show k - 1 < l.length by omega)) ?_) | (refine ccA ([]) (zbk _ (hf k).1) ?_) | (refine ccA ([]) (z9W _ (hf k).2) ?_) | (refine stpQ ?_)) | ((try conv => whnf); first | (refine cb_d (fun h => ?_) (fun h => ?_)) | (refine cb_n (fun h => ?_) (fun h => ?_)) | (refine cb (fun h => ?_) (fun h => ?_))))
   all_goals first
    | (refine ⟨k + 1, ⟨by omega, next (by simp_all [z1q, ltB])⟩, by omega, ?_⟩
       (refine z02 (by rfl) ?_ ?_) <;> repeat' (first | (exact eqA) | (refine shE ?_) | (refine And.intro ?_ ?_)))
    | (rw [z3X hlt (by simp_all [z1q, ltB])]
       (refine z00 (by rfl) ?_ ?_ (by rfl)) <;> repeat' (first | (exact eqA) | (refine shE ?_) | (refine And.intro ?_ ?_)))
  ·repeat ((try conv => whnf); first | (refine stpQ ?_))
   (refine z00 (by rfl) ?_ ?_ (by rfl)) <;> repeat' (first | (exact eqA) | (refine shE ?_) | (refine And.intro ?_ ?_))
   by_cases h24 : l.length ≤ 24
   ·rw [z2f (by omega) (fun j hj => hp j (by omega))]; simp; omega
   ·rw [z3r (by omega)]; simp; omega
end Go.Proofs.YtbcgmjdfnjmhoaaGreatDoor
namespace Go.Proofs.YtbcgmjdfnjmhoaaGreatDoor
set_option linter.unusedVariables false
set_option linter.unusedSimpArgs false
set_option linter.unusedSectionVars false
open Go.RowKit Pl
attribute [local irreducible] z0F z0I z0T AnsP LeP
theorem w_quo {a n : Nat} {K : Int → Prop} (h : a ≤ 9223372036854775807) (hk : K ((a / n : Nat) : Int)) : ∃ r, r = IntKind.i64.wrap ((a : Int).tdiv (n : Int)) ∧ K r := by
 have e : (a : Int).tdiv (n : Int) = ((a / n : Nat) : Int) := Int.ofNat_tdiv a n
 have : a / n ≤ a := Nat.div_le_self _ _
 have h2 : ((a / n : Nat) : Int) ≤ 9223372036854775807 := by generalize a / n = x at *; omega
 have h3 : (0 : Int) ≤ ((a / n : Nat) : Int) := Int.natCast_nonneg _
 generalize a / n = x at *
 exact ⟨_, by rw [e, z0K (by omega) h2], hk⟩
theorem w_quon {a n : Nat} {K : Int → Prop} (h : a ≤ 9223372036854775807) (hk : K ((a / OfNat.ofNat n : Nat) : Int)) : ∃ r, r = IntKind.i64.wrap ((a : Int).tdiv (OfNat.ofNat n : Int)) ∧ K r := w_quo (n := OfNat.ofNat n) h hk
theorem z9c {a n : Nat} {K : Int → Prop} (hk : K ((a % OfNat.ofNat n : Nat) : Int)) : ∃ r, r = (a : Int).tmod (OfNat.ofNat n : Int) ∧ K r :=
 ⟨_, (Int.ofNat_tmod a (OfNat.ofNat n)).symm, hk⟩
theorem wrap_u8 {n : Nat} : IntKind.u8.wrap (n : Int) = ((UInt8.ofNat n).toNat : Int) := by
 show (if (false && decide ((n : Int) % 2 ^ 8 ≥ 2 ^ (8 - 1))) = true then (n : Int) % 2 ^ 8 - 2 ^ 8 else (n : Int) % 2 ^ 8) = _
 simp
theorem w_u8 {n : Nat} {K : Int → Prop} (hk : K ((UInt8.ofNat n).toNat : Int)) : ∃ r, r = IntKind.u8.wrap (n : Int) ∧ K r := ⟨_, wrap_u8.symm, hk⟩
theorem z17 (l : Bs) : (z0r l).length = l.length := by simp [z0r]
theorem w_addl {a n : Nat} {K : Int → Prop} (h : OfNat.ofNat n + a ≤ 9223372036854775807) (hk : K ((OfNat.ofNat n + a : Nat) : Int)) : ∃ r, r = IntKind.i64.wrap ((OfNat.ofNat n : Int) + (a : Int)) ∧ K r :=
 zea (a := OfNat.ofNat n) h hk
end Go.Proofs.YtbcgmjdfnjmhoaaGreatDoor
