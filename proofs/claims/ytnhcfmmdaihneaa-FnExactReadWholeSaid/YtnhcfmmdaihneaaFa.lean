/- The types that the code names. Functions by content: names, values, lists of entries. Functions by content: lists of entries. Functions by content: numbers, strings and entries as bytes. -/
import Derived.Test.YtnhcfmmdaihneaaVd
import Derived.Test.YtnhcfmmdaihneaaWa
import Derived.Test.YtnhcfmmdaihneaaPlainM
namespace Go.Proofs.Ytnhcfmmdaihneaa
set_option linter.unusedVariables false
set_option linter.unusedSimpArgs false
set_option linter.unusedSectionVars false
open Go.RowKit Pl
def zcM : Ty := ⟨1, 8, [.int .i64 0], .int .i64, false⟩
def tySl (e : TypeId) : Ty := ⟨1, 24, [.val nilV], .slice e, false⟩
def ttL : List (Nat × Ty) := [
 (4, ⟨1, 1, [.bool false], .bool, false⟩),
 (9, ⟨1, 16, [.str []], .string, false⟩),
 (5, ⟨1, 1, [.int .u8 0], .int .u8, false⟩),
 (99, ⟨2, 32, [.str [], .str []], .struct [(0, 9), (1, 9)], true⟩),
 (22, tySl 99),
 (87, tySl 5),
 (23, tySl 9),
 (25, ⟨2, 48, [.val nilV, .val nilV], .struct [(0, 22), (1, 23)], false⟩),
 (57, ⟨3, 32, [.str [], .int .i64 0, .bool false], .struct [(0, 9), (1, 3), (2, 4)], false⟩),
 (42, ⟨3, 32, [.str [], .int .i64 0, .bool false], .struct [(0, 9), (1, 3), (2, 4)], false⟩),
 (112, ⟨1, 4, [.int .u32 0], .int .u32, false⟩),
 (3, zcM)]
def tt : TT := lk ttL
set_option maxRecDepth 100000 in
set_option maxHeartbeats 4000000 in
theorem zap : ∀ p ∈ ttL, TyOk Try.prog p.1 p.2 := by
 simp only [ttL, List.forall_mem_cons]
 repeat' (refine And.intro ?_ ?_)
 all_goals first
  | exact (fun _ h => by cases h)
  | exact ⟨⟨_, _, rfl, rfl, rfl, rfl, rfl⟩, ⟨_, rfl, rfl⟩, rfl, rfl, fun h => (Bool.false_ne_true h).elim⟩
  | (refine ⟨⟨_, _, rfl, rfl, rfl, rfl, rfl⟩, ⟨_, rfl, rfl⟩, rfl, rfl, fun _ => ⟨by kernel_rfl, by kernel_rfl, _, rfl, z5z ?_⟩⟩
     repeat (first | exact rfl | (refine And.intro (by decide) (And.intro rfl (And.intro rfl ?_)))))
theorem z1o : TtOk Try.prog tt := fun t y h => zap (t, y) (z1n h)
end Go.Proofs.Ytnhcfmmdaihneaa
namespace Go.Proofs.Ytnhcfmmdaihneaa
set_option maxRecDepth 100000
set_option maxHeartbeats 1000000
set_option linter.unusedVariables false
set_option linter.unusedSimpArgs false
set_option linter.unusedSectionVars false
open Go.RowKit Pl
attribute [local irreducible] z0m z0o z0s AnsP LeP
theorem z8N {f : Nat → Bool} {l : Bs} {k : Nat} (hk : k < l.length) (h : f (l.getD k 0).toNat = false) : allN f l = false := by
 have : l.all (fun b => f b.toNat) = false := by
  rw [List.all_eq_false]
  refine ⟨l[k], List.getElem_mem hk, ?_⟩
  have e : l.getD k 0 = l[k] := by simp [List.getD, List.getElem?_eq_getElem hk]
  rw [← e, h]; simp
 rw [allN, this, Bool.and_false]
theorem z62 {f : Nat → Bool} {l : Bs} (h : ∀ k, k < l.length → f (l.getD k 0).toNat = true) : allN f l = inB l.length 1 12 := by
 have : l.all (fun b => f b.toNat) = true := by
  rw [List.all_eq_true]
  intro b hb
  obtain ⟨k, hk, rfl⟩ := List.getElem_of_mem hb
  have e : l.getD k 0 = l[k] := by simp [List.getD, List.getElem?_eq_getElem hk]
  rw [← e]; exact h k hk
 rw [allN, this, Bool.and_true, inB]
 congr 1 <;> exact decide_eq_decide.2 (by omega)
theorem zaw {f : Nat → Bool} {l : Bs} (h : 12 < l.length) : allN f l = false := by
 have : decide (l.length ≤ 12) = false := by simp; omega
 rw [allN, this]; simp
theorem z6U {n : Nat} (h : (97 ≤ n ∧ n ≤ 122) ∨ (48 ≤ n ∧ n ≤ 57) ∨ n = 64 ∨ n = 46) : z3A n = true := by simp [z3A]; omega
theorem z8O {n : Nat} (h : ¬ ((97 ≤ n ∧ n ≤ 122) ∨ (48 ≤ n ∧ n ≤ 57) ∨ n = 64 ∨ n = 46)) : z3A n = false := by simp [z3A]; omega
theorem z8P {n : Nat} (h : 33 ≤ n ∧ n ≤ 126) : valN n = true := by simp [valN]; omega
theorem zax {n : Nat} (h : ¬ (33 ≤ n ∧ n ≤ 126)) : valN n = false := by simp [valN]; omega
theorem z8Q {l : Bs} (h : 12 < l.length) : inB l.length 1 12 = false := by
 simp [inB]; omega
theorem c_in (a lo hi : Int) : CT Try.prog 56 [] [.int .i64 a, .int .i64 lo, .int .i64 hi] (.bool (inB a lo hi)) [] := by
 refine z01 z1o 1 rfl Try.func56 rfl rfl rfl ?_
 repeat' (first | ((try conv => whnf); first | (refine stpQ ?_)) | ((try conv => whnf); first | (refine cb_d (fun h => ?_) (fun h => ?_)) | (refine cb_n (fun h => ?_) (fun h => ?_)) | (refine cb (fun h => ?_) (fun h => ?_))))
 all_goals
  (refine z00 (by rfl) ?_ ?_ (by rfl)) <;> repeat' (first | (exact eqA) | (refine shE ?_) | (refine And.intro ?_ ?_)) <;> simp [inB] <;> omega
theorem z2D (a lo hi : Int) : CT Try.prog 49 [] [.int .i64 a, .int .i64 lo, .int .i64 hi] (.bool (inB a lo hi)) [] := by
 refine z01 z1o 1 rfl Try.func49 rfl rfl rfl ?_
 repeat' (first | ((try conv => whnf); first | (refine stpQ ?_)) | ((try conv => whnf); first | (refine cb_d (fun h => ?_) (fun h => ?_)) | (refine cb_n (fun h => ?_) (fun h => ?_)) | (refine cb (fun h => ?_) (fun h => ?_))))
 all_goals
  (refine z00 (by rfl) ?_ ?_ (by rfl)) <;> repeat' (first | (exact eqA) | (refine shE ?_) | (refine And.intro ?_ ?_)) <;> simp [inB] <;> omega
theorem zbv (s : Bs) (hs : (s.length : Int) ≤ 1000000000) : CT Try.prog 81 [] [.str s] (.bool (z1N s)) [] := by
 refine z01 z1o 1 rfl Try.func81 rfl rfl rfl ?_
 repeat ((try conv => whnf); first | (refine stpQ ?_))
 refine z18 Nat (fun k => ⟨[(0, .str s), (3, .int .i64 (k : Int))], [], 2⟩) (fun k => k ≤ s.length ∧ k ≤ 13 ∧ ∀ j, j < k → z3A (s.getD j 0).toNat = true) (fun k => s.length - k) 0 ⟨by omega, by omega, fun j hj => by omega⟩ ?_ ?_
 ·(refine z08 (by rfl) ?_ ?_) <;> repeat' (first | (exact eqA) | (refine shE ?_) | (refine And.intro ?_ ?_))
 ·rintro k ⟨hk, hk2, hp⟩
  repeat ((try conv => whnf); first | (refine stpQ ?_))
  ((try conv => whnf); first | (refine cb_d (fun h => ?_) (fun h => ?_)) | (refine cb_n (fun h => ?_) (fun h => ?_)) | (refine cb (fun h => ?_) (fun h => ?_)))
  ·repeat ((try conv => whnf); first | (refine stpQ ?_))
   ((try conv => whnf); first | (refine cb_d (fun h => ?_) (fun h => ?_)) | (refine cb_n (fun h => ?_) (fun h => ?_)) | (refine cb (fun h => ?_) (fun h => ?_)))
   ·have hlt : k < s.length := by omega
    have next : z3A (s.getD k 0).toNat = true → ∀ j, j < k + 1 → z3A (s.getD j 0).toNat = true := fun hx j hj => by
     by_cases hjk : j = k
     ·subst hjk; exact hx
     ·exact hp j (by omega)
    have bad : z3A (s.getD k 0).toNat = false → z1N s = false := fun hx => z8N hlt hx
    repeat' (first | ((try conv => whnf); first | (refine stpQ ?_)) | ((try conv => whnf); first | (refine cb_d (fun h => ?_) (fun h => ?_)) | (refine cb_n (fun h => ?_) (fun h => ?_)) | (refine cb (fun h => ?_) (fun h => ?_))))
    all_goals first
     | (refine ⟨k + 1, ⟨by omega, by omega, next (z6U (by omega))⟩, by omega, ?_⟩
        (refine z08 (by rfl) ?_ ?_) <;> repeat' (first | (exact eqA) | (refine shE ?_) | (refine And.intro ?_ ?_)))
     | (rw [bad (z8O (by omega))]
        (refine z00 (by rfl) ?_ ?_ (by rfl)) <;> repeat' (first | (exact eqA) | (refine shE ?_) | (refine And.intro ?_ ?_)))
   ·repeat ((try conv => whnf); first | (refine ccA ([]) (c_in _ _ _) ?_) | (refine stpQ ?_))
    (refine z00 (by rfl) ?_ ?_ (by rfl)) <;> repeat' (first | (exact eqA) | (refine shE ?_) | (refine And.intro ?_ ?_))
    rw [z1N, zaw (by omega), z8Q (by omega)]
  ·repeat ((try conv => whnf); first | (refine ccA ([]) (c_in _ _ _) ?_) | (refine stpQ ?_))
   (refine z00 (by rfl) ?_ ?_ (by rfl)) <;> repeat' (first | (exact eqA) | (refine shE ?_) | (refine And.intro ?_ ?_))
   rw [z1N, z62 (fun j hj => hp j (by omega))]
theorem zay (s : Bs) (hs : (s.length : Int) ≤ 1000000000) : CT Try.prog 79 [] [.str s] (.bool (z1N s)) [] := by
 refine z01 z1o 1 rfl Try.func79 rfl rfl rfl ?_
 repeat ((try conv => whnf); first | (refine stpQ ?_))
 refine z18 Nat (fun k => ⟨[(0, .str s), (3, .int .i64 (k : Int))], [], 2⟩) (fun k => k ≤ s.length ∧ ∀ j, j < k → z3A (s.getD j 0).toNat = true) (fun k => s.length - k) 0 ⟨by omega, fun j hj => by omega⟩ ?_ ?_
 ·(refine z08 (by rfl) ?_ ?_) <;> repeat' (first | (exact eqA) | (refine shE ?_) | (refine And.intro ?_ ?_))
 ·rintro k ⟨hk, hp⟩
  repeat ((try conv => whnf); first | (refine stpQ ?_))
  ((try conv => whnf); first | (refine cb_d (fun h => ?_) (fun h => ?_)) | (refine cb_n (fun h => ?_) (fun h => ?_)) | (refine cb (fun h => ?_) (fun h => ?_)))
  ·have hlt : k < s.length := by omega
   have next : z3A (s.getD k 0).toNat = true → ∀ j, j < k + 1 → z3A (s.getD j 0).toNat = true := fun hx j hj => by
    by_cases hjk : j = k
    ·subst hjk; exact hx
    ·exact hp j (by omega)
   have bad : z3A (s.getD k 0).toNat = false → z1N s = false := fun hx => z8N hlt hx
   repeat' (first | ((try conv => whnf); first | (refine stpQ ?_)) | ((try conv => whnf); first | (refine cb_d (fun h => ?_) (fun h => ?_)) | (refine cb_n (fun h => ?_) (fun h => ?_)) | (refine cb (fun h => ?_) (fun h => ?_))))
   all_goals first
    | (refine ⟨k + 1, ⟨by omega, next (z6U (by omega))⟩, by omega, ?_⟩
       (refine z08 (by rfl) ?_ ?_) <;> repeat' (first | (exact eqA) | (refine shE ?_) | (refine And.intro ?_ ?_)))
    | (rw [bad (z8O (by omega))]
       (refine z00 (by rfl) ?_ ?_ (by rfl)) <;> repeat' (first | (exact eqA) | (refine shE ?_) | (refine And.intro ?_ ?_)))
  ·repeat ((try conv => whnf); first | (refine ccA ([]) (z2D _ _ _) ?_) | (refine stpQ ?_))
   (refine z00 (by rfl) ?_ ?_ (by rfl)) <;> repeat' (first | (exact eqA) | (refine shE ?_) | (refine And.intro ?_ ?_))
   rw [z1N, z62 (fun j hj => hp j (by omega))]
theorem zaz (s : Bs) (hs : (s.length : Int) ≤ 1000000000) : CT Try.prog 82 [] [.str s] (.bool (z1u s)) [] := by
 refine z01 z1o 1 rfl Try.func82 rfl rfl rfl ?_
 repeat ((try conv => whnf); first | (refine stpQ ?_))
 refine z18 Nat (fun k => ⟨[(0, .str s), (3, .int .i64 (k : Int))], [], 2⟩) (fun k => k ≤ s.length ∧ k ≤ 13 ∧ ∀ j, j < k → valN (s.getD j 0).toNat = true) (fun k => s.length - k) 0 ⟨by omega, by omega, fun j hj => by omega⟩ ?_ ?_
 ·(refine z08 (by rfl) ?_ ?_) <;> repeat' (first | (exact eqA) | (refine shE ?_) | (refine And.intro ?_ ?_))
 ·rintro k ⟨hk, hk2, hp⟩
  repeat ((try conv => whnf); first | (refine stpQ ?_))
  ((try conv => whnf); first | (refine cb_d (fun h => ?_) (fun h => ?_)) | (refine cb_n (fun h => ?_) (fun h => ?_)) | (refine cb (fun h => ?_) (fun h => ?_)))
  ·repeat ((try conv => whnf); first | (refine stpQ ?_))
   ((try conv => whnf); first | (refine cb_d (fun h => ?_) (fun h => ?_)) | (refine cb_n (fun h => ?_) (fun h => ?_)) | (refine cb (fun h => ?_) (fun h => ?_)))
   ·have hlt : k < s.length := by omega
    have next : valN (s.getD k 0).toNat = true → ∀ j, j < k + 1 → valN (s.getD j 0).toNat = true := fun hx j hj => by
     by_cases hjk : j = k
     ·subst hjk; exact hx
     ·exact hp j (by omega)
    have bad : valN (s.getD k 0).toNat = false → z1u s = false := fun hx => z8N hlt hx
    have h8 := (s.getD k 0).toNat_lt
    repeat ((try conv => whnf); first | (refine ccA ([]) (c_in _ _ _) ?_) | (refine stpQ ?_))
    ((try conv => whnf); first | (refine cb_d (fun h => ?_) (fun h => ?_)) | (refine cb_n (fun h => ?_) (fun h => ?_)) | (refine cb (fun h => ?_) (fun h => ?_)))
    ·have hx : inB ((s.getD k 0).toNat : Int) 33 126 = false := by simpa using h
     rw [bad (zax fun hc => by rw [z12.2 (by omega)] at hx; cases hx)]
     repeat ((try conv => whnf); first | (refine stpQ ?_))
     (refine z00 (by rfl) ?_ ?_ (by rfl)) <;> repeat' (first | (exact eqA) | (refine shE ?_) | (refine And.intro ?_ ?_))
    ·have hx : inB ((s.getD k 0).toNat : Int) 33 126 = true := by simpa using h
     rw [z12] at hx
     repeat ((try conv => whnf); first | (refine stpQ ?_))
     refine ⟨k + 1, ⟨by omega, by omega, next (z8P (by omega))⟩, by omega, ?_⟩
     (refine z08 (by rfl) ?_ ?_) <;> repeat' (first | (exact eqA) | (refine shE ?_) | (refine And.intro ?_ ?_))
   ·repeat ((try conv => whnf); first | (refine ccA ([]) (c_in _ _ _) ?_) | (refine stpQ ?_))
    (refine z00 (by rfl) ?_ ?_ (by rfl)) <;> repeat' (first | (exact eqA) | (refine shE ?_) | (refine And.intro ?_ ?_))
    rw [z1u, zaw (by omega), z8Q (by omega)]
  ·repeat ((try conv => whnf); first | (refine ccA ([]) (c_in _ _ _) ?_) | (refine stpQ ?_))
   (refine z00 (by rfl) ?_ ?_ (by rfl)) <;> repeat' (first | (exact eqA) | (refine shE ?_) | (refine And.intro ?_ ?_))
   rw [z1u, z62 (fun j hj => hp j (by omega))]
theorem z9o (s : Bs) (hs : (s.length : Int) ≤ 1000000000) : CT Try.prog 80 [] [.str s] (.bool (z1u s)) [] := by
 refine z01 z1o 1 rfl Try.func80 rfl rfl rfl ?_
 repeat ((try conv => whnf); first | (refine stpQ ?_))
 refine z18 Nat (fun k => ⟨[(0, .str s), (3, .int .i64 (k : Int))], [], 2⟩) (fun k => k ≤ s.length ∧ ∀ j, j < k → valN (s.getD j 0).toNat = true) (fun k => s.length - k) 0 ⟨by omega, fun j hj => by omega⟩ ?_ ?_
 ·(refine z08 (by rfl) ?_ ?_) <;> repeat' (first | (exact eqA) | (refine shE ?_) | (refine And.intro ?_ ?_))
 ·rintro k ⟨hk, hp⟩
  repeat ((try conv => whnf); first | (refine stpQ ?_))
  ((try conv => whnf); first | (refine cb_d (fun h => ?_) (fun h => ?_)) | (refine cb_n (fun h => ?_) (fun h => ?_)) | (refine cb (fun h => ?_) (fun h => ?_)))
  ·have hlt : k < s.length := by omega
   have next : valN (s.getD k 0).toNat = true → ∀ j, j < k + 1 → valN (s.getD j 0).toNat = true := fun hx j hj => by
    by_cases hjk : j = k
    ·subst hjk; exact hx
    ·exact hp j (by omega)
   have bad : valN (s.getD k 0).toNat = false → z1u s = false := fun hx => z8N hlt hx
   repeat' (first | ((try conv => whnf); first | (refine stpQ ?_)) | ((try conv => whnf); first | (refine cb_d (fun h => ?_) (fun h => ?_)) | (refine cb_n (fun h => ?_) (fun h => ?_)) | (refine cb (fun h => ?_) (fun h => ?_))))
   all_goals first
    | (refine ⟨k + 1, ⟨by omega, next (z8P (by omega))⟩, by omega, ?_⟩
       (refine z08 (by rfl) ?_ ?_) <;> repeat' (first | (exact eqA) | (refine shE ?_) | (refine And.intro ?_ ?_)))
    | (rw [bad (zax (by omega))]
       (refine z00 (by rfl) ?_ ?_ (by rfl)) <;> repeat' (first | (exact eqA) | (refine shE ?_) | (refine And.intro ?_ ?_)))
  ·repeat ((try conv => whnf); first | (refine ccA ([]) (z2D _ _ _) ?_) | (refine stpQ ?_))
   (refine z00 (by rfl) ?_ ?_ (by rfl)) <;> repeat' (first | (exact eqA) | (refine shE ?_) | (refine And.intro ?_ ?_))
   rw [z1u, z62 (fun j hj => hp j (by omega))]
end Go.Proofs.Ytnhcfmmdaihneaa
namespace Go.Proofs.Ytnhcfmmdaihneaa
set_option maxRecDepth 100000
set_option maxHeartbeats 1000000
set_option linter.unusedVariables false
set_option linter.unusedSimpArgs false
set_option linter.unusedSectionVars false
open Go.RowKit Pl
attribute [local irreducible] z0m z0o z0s AnsP LeP
def lvE (l : List Lf) : List (List T) := l.map fun x => [.str x.1, .str x.2]
theorem zbw {l : List Lf} {k : Nat} (h : k < l.length) : lfAt l k = l[k] := by simp [lfAt, List.getD, List.getElem?_eq_getElem h]
theorem z6V {l : List Lf} {k : Nat} (h : k < l.length) : (lvE l)[k]? = some [.str (lfAt l k).1, .str (lfAt l k).2] := by
 rw [zbw h]; simp [lvE, List.getElem?_eq_getElem h]
theorem z4G (l : List Lf) : (lvE l).length = l.length := by simp [lvE]
def Fit (l : List Lf) : Prop := ∀ i, ((lfAt l i).1.length : Int) ≤ 1000000000 ∧ ((lfAt l i).2.length : Int) ≤ 1000000000
theorem zaA (k : Nat) : (k == 0) = !decide ((0 : Int) < (k : Int)) := by cases k <;> simp <;> omega
theorem z9p (l : List Lf) (hl : (l.length : Int) ≤ 1000000000) (hf : Fit l) : CT Try.prog 77 [] [.sl 2 (lvE l)] (.bool (leavesOk l)) [] := by
 have hlen := z4G l
 refine z01 z1o 1 rfl Try.func77 rfl rfl rfl ?_
 repeat ((try conv => whnf); first | (refine stpQ ?_))
 refine z18 Nat (fun k => ⟨[(0, .sl 2 (lvE l)), (5, .sl 2 (lvE l)), (6, .int .i64 ((lvE l).length : Int)), (7, .int .i64 (k : Int))], [], 2⟩) (fun k => k ≤ l.length ∧ k ≤ 24 ∧ ∀ j, j < k → z1L l j = true) (fun k => l.length - k) 0 ⟨by omega, by omega, fun j hj => by omega⟩ ?_ ?_
 ·(refine z08 (by rfl) ?_ ?_) <;> repeat' (first | (exact eqA) | (refine shE ?_) | (refine And.intro ?_ ?_))
 ·rintro k ⟨hk, hk2, hp⟩
  have hz := zaA k
  repeat ((try conv => whnf); first | (refine stpQ ?_))
  ((try conv => whnf); first | (refine cb_d (fun h => ?_) (fun h => ?_)) | (refine cb_n (fun h => ?_) (fun h => ?_)) | (refine cb (fun h => ?_) (fun h => ?_)))
  ·have hlt : k < l.length := by omega
   have next : z1L l k = true → ∀ j, j < k + 1 → z1L l j = true := fun hx j hj => by
    by_cases hjk : j = k
    ·subst hjk; exact hx
    ·exact hp j (by omega)
   repeat' (first | ((try conv => whnf); first | (refine i_at (z6V hlt) ?_) | (refine i_at (z6V (show k - 1 < l.length by omega)) ?_) | (refine ccA ([]) (zbv _ (hf k).1) ?_) | (refine ccA ([]) (zaz _ (hf k).2) ?_) | (refine stpQ ?_)) | ((try conv => whnf); first | (refine cb_d (fun h => ?_) (fun h => ?_)) | (refine cb_n (fun h => ?_) (fun h => ?_)) | (refine cb (fun h => ?_) (fun h => ?_))))
   all_goals first
    | (refine ⟨k + 1, ⟨by omega, by omega, next (by simp_all [z1L, ltB])⟩, by omega, ?_⟩
       (refine z08 (by rfl) ?_ ?_) <;> repeat' (first | (exact eqA) | (refine shE ?_) | (refine And.intro ?_ ?_)))
    | (rw [z3p (by omega)]
       (refine z00 (by rfl) ?_ ?_ (by rfl)) <;> repeat' (first | (exact eqA) | (refine shE ?_) | (refine And.intro ?_ ?_)))
    | (rw [z3S hlt (by simp_all [z1L, ltB])]
       (refine z00 (by rfl) ?_ ?_ (by rfl)) <;> repeat' (first | (exact eqA) | (refine shE ?_) | (refine And.intro ?_ ?_)))
  ·repeat ((try conv => whnf); first | (refine stpQ ?_))
   rw [z2m (by omega) (fun j hj => hp j (by omega))]
   (refine z00 (by rfl) ?_ ?_ (by rfl)) <;> repeat' (first | (exact eqA) | (refine shE ?_) | (refine And.intro ?_ ?_))
theorem z7R (l : List Lf) (hl : (l.length : Int) ≤ 1000000000) (hf : Fit l) : CT Try.prog 74 [] [.sl 2 (lvE l)] (.bool (leavesOk l)) [] := by
 have hlen := z4G l
 refine z01 z1o 1 rfl Try.func74 rfl rfl rfl ?_
 repeat ((try conv => whnf); first | (refine stpQ ?_))
 refine z18 Nat (fun k => ⟨[(0, .sl 2 (lvE l)), (3, .int .i64 (k : Int))], [], 2⟩) (fun k => k ≤ l.length ∧ ∀ j, j < k → z1L l j = true) (fun k => l.length - k) 0 ⟨by omega, fun j hj => by omega⟩ ?_ ?_
 ·(refine z08 (by rfl) ?_ ?_) <;> repeat' (first | (exact eqA) | (refine shE ?_) | (refine And.intro ?_ ?_))
 ·rintro k ⟨hk, hp⟩
  have hz := zaA k
  repeat ((try conv => whnf); first | (refine stpQ ?_))
  ((try conv => whnf); first | (refine cb_d (fun h => ?_) (fun h => ?_)) | (refine cb_n (fun h => ?_) (fun h => ?_)) | (refine cb (fun h => ?_) (fun h => ?_)))
  ·have hlt : k < l.length := by omega
   have next : z1L l k = true → ∀ j, j < k + 1 → z1L l j = true := fun hx j hj => by
    by_cases hjk : j = k
    ·subst hjk; exact hx
    ·exact hp j (by omega)
   repeat' (first | ((try conv => whnf); first | (refine i_at (z6V hlt) ?_) | (refine i_at (z6V (show k - 1 < l.length by omega)) ?_) | (refine ccA ([]) (zay _ (hf k).1) ?_) | (refine ccA ([]) (z9o _ (hf k).2) ?_) | (refine stpQ ?_)) | ((try conv => whnf); first | (refine cb_d (fun h => ?_) (fun h => ?_)) | (refine cb_n (fun h => ?_) (fun h => ?_)) | (refine cb (fun h => ?_) (fun h => ?_))))
   all_goals first
    | (refine ⟨k + 1, ⟨by omega, next (by simp_all [z1L, ltB])⟩, by omega, ?_⟩
       (refine z08 (by rfl) ?_ ?_) <;> repeat' (first | (exact eqA) | (refine shE ?_) | (refine And.intro ?_ ?_)))
    | (rw [z3S hlt (by simp_all [z1L, ltB])]
       (refine z00 (by rfl) ?_ ?_ (by rfl)) <;> repeat' (first | (exact eqA) | (refine shE ?_) | (refine And.intro ?_ ?_)))
  ·repeat ((try conv => whnf); first | (refine stpQ ?_))
   (refine z00 (by rfl) ?_ ?_ (by rfl)) <;> repeat' (first | (exact eqA) | (refine shE ?_) | (refine And.intro ?_ ?_))
   by_cases h24 : l.length ≤ 24
   ·rw [z2m (by omega) (fun j hj => hp j (by omega))]; simp; omega
   ·rw [z3p (by omega)]; simp; omega
end Go.Proofs.Ytnhcfmmdaihneaa
namespace Go.Proofs.Ytnhcfmmdaihneaa
set_option linter.unusedVariables false
set_option linter.unusedSimpArgs false
set_option linter.unusedSectionVars false
open Go.RowKit Pl
attribute [local irreducible] z0m z0o z0s AnsP LeP
theorem w_quo {a n : Nat} {K : Int → Prop} (h : a ≤ 9223372036854775807) (hk : K ((a / n : Nat) : Int)) : ∃ r, r = IntKind.i64.wrap ((a : Int).tdiv (n : Int)) ∧ K r := by
 have e : (a : Int).tdiv (n : Int) = ((a / n : Nat) : Int) := Int.ofNat_tdiv a n
 have : a / n ≤ a := Nat.div_le_self _ _
 have h2 : ((a / n : Nat) : Int) ≤ 9223372036854775807 := by generalize a / n = x at *; omega
 have h3 : (0 : Int) ≤ ((a / n : Nat) : Int) := Int.natCast_nonneg _
 generalize a / n = x at *
 exact ⟨_, by rw [e, z1i (by omega) h2], hk⟩
theorem w_quon {a n : Nat} {K : Int → Prop} (h : a ≤ 9223372036854775807) (hk : K ((a / OfNat.ofNat n : Nat) : Int)) : ∃ r, r = IntKind.i64.wrap ((a : Int).tdiv (OfNat.ofNat n : Int)) ∧ K r := w_quo (n := OfNat.ofNat n) h hk
theorem r_remn {a n : Nat} {K : Int → Prop} (hk : K ((a % OfNat.ofNat n : Nat) : Int)) : ∃ r, r = (a : Int).tmod (OfNat.ofNat n : Int) ∧ K r :=
 ⟨_, (Int.ofNat_tmod a (OfNat.ofNat n)).symm, hk⟩
theorem wrap_u8 {n : Nat} : IntKind.u8.wrap (n : Int) = ((UInt8.ofNat n).toNat : Int) := by
 show (if (false && decide ((n : Int) % 2 ^ 8 ≥ 2 ^ (8 - 1))) = true then (n : Int) % 2 ^ 8 - 2 ^ 8 else (n : Int) % 2 ^ 8) = _
 simp
theorem w_u8 {n : Nat} {K : Int → Prop} (hk : K ((UInt8.ofNat n).toNat : Int)) : ∃ r, r = IntKind.u8.wrap (n : Int) ∧ K r := ⟨_, wrap_u8.symm, hk⟩
theorem w_addl {a n : Nat} {K : Int → Prop} (h : OfNat.ofNat n + a ≤ 9223372036854775807) (hk : K ((OfNat.ofNat n + a : Nat) : Int)) : ∃ r, r = IntKind.i64.wrap ((OfNat.ofNat n : Int) + (a : Int)) ∧ K r :=
 zcG (a := OfNat.ofNat n) h hk
theorem z0D {n : Nat} (hn : (n : Int) ≤ 2000000000) : ((z0d n).length : Int) ≤ 5 := by have := z2h hn; omega
theorem z5l {s : Bs} (hs : (s.length : Int) ≤ 1000000000) : ((z09 s).length : Int) ≤ (s.length : Int) + 5 := by have := z39 (l := s) (by omega); omega
def Sml (l : List Lf) : Prop := (l.length : Int) ≤ 1000 ∧ ∀ i, ((lfAt l i).1.length : Int) ≤ 1000000 ∧ ((lfAt l i).2.length : Int) ≤ 1000000
theorem z6W {l : List Lf} {k : Nat} (h : k < l.length) : (l.take (k + 1)).flatMap z1f = (l.take k).flatMap z1f ++ (z09 (lfAt l k).1 ++ z09 (lfAt l k).2) := by
 rw [zas l k h, List.flatMap_append]; simp [z1f]
theorem z63 {l : List Lf} (h : Sml l) : ∀ k, (((l.take k).flatMap z1f).length : Int) ≤ 3000000 * k
 | 0 => by simp
 | k + 1 => by
   have ih := z63 h k
   by_cases hk : k < l.length
   ·rw [z6W hk]
    have h1 := z5l (s := (lfAt l k).1) (by have := (h.2 k).1; omega)
    have h2 := z5l (s := (lfAt l k).2) (by have := (h.2 k).2; omega)
    have := h.2 k
    simp only [List.length_append]
    omega
   ·rw [List.take_of_length_le (by omega)]
    rw [List.take_of_length_le (by omega)] at ih
    omega
end Go.Proofs.Ytnhcfmmdaihneaa
