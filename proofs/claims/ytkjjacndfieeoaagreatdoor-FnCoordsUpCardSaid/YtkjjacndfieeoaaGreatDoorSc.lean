/- Functions by content: the hash of a shard. Functions by content: the common root of shards. -/
import Derived.Test.YtkjjacndfieeoaaGreatDoorVd
import Derived.Test.YtkjjacndfieeoaaGreatDoorCsy
import Derived.Test.YtkjjacndfieeoaaGreatDoorSvz
namespace Go.Proofs.YtkjjacndfieeoaaGreatDoor
set_option linter.unusedVariables false
set_option linter.unusedSimpArgs false
set_option linter.unusedSectionVars false
open Go.RowKit Pl
section
attribute [local irreducible] z0m z0n z0q AnsP LeP
end
end Go.Proofs.YtkjjacndfieeoaaGreatDoor
namespace Go.Proofs.YtkjjacndfieeoaaGreatDoor
set_option maxRecDepth 100000
set_option maxHeartbeats 4000000
set_option linter.unusedVariables false
set_option linter.unusedSimpArgs false
set_option linter.unusedSectionVars false
open Go.RowKit Pl
section
attribute [local irreducible] z0m z0n z0q AnsP LeP
theorem z6H {l : List Bs} {d : Nat} (h : l.length = 2 ^ d) : ∀ j, j ≤ d → (lvlA l j).length = 2 ^ (d - j)
 | 0, _ => h
 | j + 1, hj => by
   rw [show lvlA l (j + 1) = upA (lvlA l j) ((lvlA l j).length / 2) from rfl, zb6, z6H h j (by omega), show d - j = (d - (j + 1)) + 1 by omega, Nat.pow_succ]
   exact Nat.mul_div_cancel _ (by decide)
def zb9 (n : Nat) : Nat := if n = 4 then 2 else if n = 2 then 1 else 0
def z2o (l : List Bs) : Bs := pAt (lvlA l (zb9 l.length)) 0
def z4w (l : List Bs) : Bool := decide (l.length = 1 ∨ l.length = 2 ∨ l.length = 4)
def zba (l : List Bs) : T := bif z4w l then .tup [.str (z2o l), .bool true] else .tup [.str [], .bool false]
theorem za6 {l : List Bs} (h : z4w l = true) : l.length = 2 ^ zb9 l.length ∧ zb9 l.length ≤ 2 := by
 have h := of_decide_eq_true h
 rcases h with h | h | h <;> rw [h] <;> decide
theorem zfN (l : List Bs) (hl : l.length ≤ 10) (hw : ∀ x ∈ l, x.length = 16) : CT Tryz.prog 109 [] [.sl 1 (strE l), .int .i64 16] (.bool (z4w l)) [] := by
 have hlen := z0d l
 have hall : (l.all fun x => decide ((x.length : Int) = 16)) = true := List.all_eq_true.2 fun x hx => decide_eq_true (by have := hw x hx; omega)
 have c1 : CT Tryz.prog 148 [] [.int .i64 16] (.bool true) [] := c_isW 16 (by omega)
 have c2 := zfm l 16 (by omega)
 rw [hall] at c2
 unfold z4w
 refine z01 z0f 1 rfl Tryz.func109 rfl rfl rfl ?_
 by_cases q1 : l.length = 1
 ·rw [decide_eq_true (.inl q1)]
  have p1 : (l.length : Int) = 1 := by omega
  repeat ((try conv => whnf); first | (refine Exists.intro l.length (And.intro hlen ?_)) | (refine z0k p1 ?_) | (refine ccA ([]) (c1) ?_) | (refine ccA ([]) (c2) ?_) | (refine And.intro (by kernel_rfl) ?_) | (refine stpQ ?_))
  (refine z00 (by rfl) ?_ ?_ (by rfl)) <;> (repeat' (first | (exact eqA) | (refine shE ?_) | (refine And.intro ?_ ?_))) <;> simp [p1]
 ·have p1 : ¬ (l.length : Int) = 1 := by omega
  by_cases q2 : l.length = 2
  ·rw [decide_eq_true (.inr (.inl q2))]
   have p2 : (l.length : Int) = 2 := by omega
   repeat ((try conv => whnf); first | (refine Exists.intro l.length (And.intro hlen ?_)) | (refine z0o p1 ?_) | (refine z0k p2 ?_) | (refine ccA ([]) (c1) ?_) | (refine ccA ([]) (c2) ?_) | (refine And.intro (by kernel_rfl) ?_) | (refine stpQ ?_))
   (refine z00 (by rfl) ?_ ?_ (by rfl)) <;> (repeat' (first | (exact eqA) | (refine shE ?_) | (refine And.intro ?_ ?_))) <;> simp [p2]
  ·have p2 : ¬ (l.length : Int) = 2 := by omega
   by_cases q4 : l.length = 4
   ·rw [decide_eq_true (.inr (.inr q4))]
    have p4 : (l.length : Int) = 4 := by omega
    repeat ((try conv => whnf); first | (refine Exists.intro l.length (And.intro hlen ?_)) | (refine z0o p1 ?_) | (refine z0o p2 ?_) | (refine z0k p4 ?_) | (refine ccA ([]) (c1) ?_) | (refine ccA ([]) (c2) ?_) | (refine And.intro (by kernel_rfl) ?_) | (refine stpQ ?_))
    (refine z00 (by rfl) ?_ ?_ (by rfl)) <;> (repeat' (first | (exact eqA) | (refine shE ?_) | (refine And.intro ?_ ?_))) <;> simp [p4]
   ·rw [decide_eq_false (by omega)]
    have p4 : ¬ (l.length : Int) = 4 := by omega
    repeat ((try conv => whnf); first | (refine Exists.intro l.length (And.intro hlen ?_)) | (refine z0o p1 ?_) | (refine z0o p2 ?_) | (refine z0o p4 ?_) | (refine ccA ([]) (c1) ?_) | (refine ccA ([]) (c2) ?_) | (refine And.intro (by kernel_rfl) ?_) | (refine stpQ ?_))
    (refine z00 (by rfl) ?_ ?_ (by rfl)) <;> (repeat' (first | (exact eqA) | (refine shE ?_) | (refine And.intro ?_ ?_))) <;> simp [p1, p2, p4]
theorem zdE (l : List Bs) (hl : l.length ≤ 10) (hw : ∀ x ∈ l, x.length = 16) : CT Tryz.prog 48 [] [.sl 1 (strE l), .int .i64 16] (.bool (z4w l)) [] := by
 have hlen := z0d l
 have c2 := c_wide l 16 (by omega)
 have hall : Pl.wideB l 16 = true := by
  unfold Pl.wideB
  rw [Bool.and_eq_true]
  exact ⟨List.all_eq_true.2 fun x hx => decide_eq_true (by have := hw x hx; omega), rfl⟩
 rw [hall] at c2
 unfold z4w
 refine z01 z0f 1 rfl Tryz.func48 rfl rfl rfl ?_
 by_cases q1 : l.length = 1
 ·rw [decide_eq_true (.inl q1)]
  have p1 : (l.length : Int) = 1 := by omega
  repeat ((try conv => whnf); first | (refine Exists.intro l.length (And.intro hlen ?_)) | (refine z0k p1 ?_) | (refine ccA ([]) (c2) ?_) | (refine And.intro (by kernel_rfl) ?_) | (refine stpQ ?_))
  (refine z00 (by rfl) ?_ ?_ (by rfl)) <;> (repeat' (first | (exact eqA) | (refine shE ?_) | (refine And.intro ?_ ?_))) <;> simp [p1]
 ·have p1 : ¬ (l.length : Int) = 1 := by omega
  by_cases q2 : l.length = 2
  ·rw [decide_eq_true (.inr (.inl q2))]
   have p2 : (l.length : Int) = 2 := by omega
   repeat ((try conv => whnf); first | (refine Exists.intro l.length (And.intro hlen ?_)) | (refine z0o p1 ?_) | (refine z0k p2 ?_) | (refine ccA ([]) (c2) ?_) | (refine And.intro (by kernel_rfl) ?_) | (refine stpQ ?_))
   (refine z00 (by rfl) ?_ ?_ (by rfl)) <;> (repeat' (first | (exact eqA) | (refine shE ?_) | (refine And.intro ?_ ?_))) <;> simp [p2]
  ·have p2 : ¬ (l.length : Int) = 2 := by omega
   by_cases q4 : l.length = 4
   ·rw [decide_eq_true (.inr (.inr q4))]
    have p4 : (l.length : Int) = 4 := by omega
    repeat ((try conv => whnf); first | (refine Exists.intro l.length (And.intro hlen ?_)) | (refine z0o p1 ?_) | (refine z0o p2 ?_) | (refine z0k p4 ?_) | (refine ccA ([]) (c2) ?_) | (refine And.intro (by kernel_rfl) ?_) | (refine stpQ ?_))
    (refine z00 (by rfl) ?_ ?_ (by rfl)) <;> (repeat' (first | (exact eqA) | (refine shE ?_) | (refine And.intro ?_ ?_))) <;> simp [p4]
   ·rw [decide_eq_false (by omega)]
    have p4 : ¬ (l.length : Int) = 4 := by omega
    repeat ((try conv => whnf); first | (refine Exists.intro l.length (And.intro hlen ?_)) | (refine z0o p1 ?_) | (refine z0o p2 ?_) | (refine z0o p4 ?_) | (refine ccA ([]) (c2) ?_) | (refine And.intro (by kernel_rfl) ?_) | (refine stpQ ?_))
    (refine z00 (by rfl) ?_ ?_ (by rfl)) <;> (repeat' (first | (exact eqA) | (refine shE ?_) | (refine And.intro ?_ ?_))) <;> simp [p1, p2, p4]
theorem ziY (l : List Bs) (hl : l.length ≤ 60) : CT Tryz.prog 49 [] [.sl 1 (strE l), .int .i64 16] (.sl 1 (strE (upA l (l.length / 2)))) [] := by
 have hlen := z0d l
 refine z01 z0A 1 rfl Tryz.func49 rfl rfl rfl ?_
 repeat ((try conv => whnf); first | (refine stpQ ?_))
 refine z0i 0 ⟨[(5, .ref 1)], [(1, some (.row 1 (strE (upA l (l.length / 2)))))], 2⟩ Nat (fun k => ⟨[(0, .sl 1 (strE l)), (1, .int .i64 16), (5, .ref 1), (6, .int .i64 ((2 * k : Nat) : Int))], [(1, some (.row 1 (strE (upA l k))))], 2⟩) (fun k => k ≤ l.length / 2) (fun k => l.length / 2 - k) 0 (by omega) ?_ ?_ ?_
 ·(refine z02 (by rfl) ?_ ?_) <;> (repeat' (first | (exact eqA) | (refine shE ?_) | (refine And.intro ?_ ?_))) <;> first | rfl | decide
 ·intro k hk
  by_cases hlt : k < l.length / 2
  ·have h0 : 2 * k < l.length := by omega
   have h1 : 2 * k + 1 < l.length := by omega
   have g0 := z0v h0
   have g1 := z0v h1
   have cs := zb8 3 [pAt l (2 * k), pAt l (2 * k + 1)] 16 (by omega) (by simp) (by omega)
   have hnx := zcy l k
   have hll := zb6 l k
   generalize upA l k = o at hnx hll ⊢
   generalize z3A 3 [pAt l (2 * k), pAt l (2 * k + 1)] 16 = r at cs hnx
   generalize pAt l (2 * k) = u0 at g0 cs
   generalize pAt l (2 * k + 1) = u1 at g1 cs
   have hol := z0d o
   have e1 : IntKind.i64.wrap (((2 * k : Nat) : Int) + 1) = ((2 * k + 1 : Nat) : Int) := by rw [wrap_i64 (by omega) (by omega)]; omega
   have e2 : IntKind.i64.wrap (((2 * k : Nat) : Int) + 2) = ((2 * (k + 1) : Nat) : Int) := by rw [wrap_i64 (by omega) (by omega)]; omega
   have h2 : ((2 * k + 1 : Nat) : Int) < (l.length : Int) := by omega
   repeat ((try conv => whnf); first | (refine Exists.intro _ (And.intro e1.symm ?_)) | (refine Exists.intro l.length (And.intro hlen ?_)) | (refine i_at g0 ?_) | (refine i_at g1 ?_) | (refine ccA ([]) (cs) ?_) | (refine And.intro (by simp [z0d]; omega) ?_) | (refine Exists.intro _ (And.intro e2.symm ?_)) | (refine And.intro (by kernel_rfl) ?_) | (refine stpQ ?_))
   refine ⟨k + 1, by omega, by omega, ?_⟩
   rw [hnx]
   (refine z02 (by rfl) ?_ ?_) <;> (repeat' (first | (exact eqA) | (refine shE ?_) | (refine And.intro ?_ ?_)))
   rw [z1m]; rfl
  ·obtain rfl : k = l.length / 2 := by omega
   have e1 : IntKind.i64.wrap (((2 * (l.length / 2) : Nat) : Int) + 1) = ((2 * (l.length / 2) + 1 : Nat) : Int) := by rw [wrap_i64 (by omega) (by omega)]; omega
   have h2 : ¬ ((2 * (l.length / 2) + 1 : Nat) : Int) < (l.length : Int) := by omega
   repeat ((try conv => whnf); first | (refine Exists.intro _ (And.intro e1.symm ?_)) | (refine Exists.intro l.length (And.intro hlen ?_)) | (refine stpQ ?_))
   (refine z02 (by rfl) ?_ ?_) <;> (repeat' (first | (exact eqA) | (refine shE ?_) | (refine And.intro ?_ ?_)))
 ·repeat ((try conv => whnf); first | (refine stpQ ?_))
  (refine z00 (by rfl) ?_ ?_ (by rfl)) <;> (repeat' (first | (exact eqA) | (refine shE ?_) | (refine And.intro ?_ ?_)))
theorem z71 (l : List Bs) (hl : l.length ≤ 10) (hw : ∀ x ∈ l, x.length = 16) : CT Tryz.prog 73 [] [.sl 1 (strE l), .int .i64 16] (zba l) [] := by
 have c1 := zfN l hl hw
 unfold zba
 cases hc : z4w l with
 | false =>
   rw [hc] at c1
   rw [show (bif false then T.tup [.str (z2o l), .bool true] else T.tup [.str [], .bool false]) = .tup [.str [], .bool false] from rfl]
   refine z01 z0f 1 rfl Tryz.func73 rfl rfl rfl ?_
   repeat ((try conv => whnf); first | (refine ccA ([]) (c1) ?_) | (refine And.intro (by kernel_rfl) ?_) | (refine stpQ ?_))
   (refine z00 (by rfl) ?_ ?_ (by rfl)) <;> (repeat' (first | (exact eqA) | (refine shE ?_) | (refine And.intro ?_ ?_)))
 | true =>
   rw [hc] at c1
   rw [show (bif true then T.tup [.str (z2o l), .bool true] else T.tup [.str [], .bool false]) = .tup [.str (z2o l), .bool true] from rfl]
   obtain ⟨hp, hd⟩ := za6 hc
   have hL := z6H hp
   unfold z2o
   generalize zb9 l.length = d at hp hd hL ⊢
   refine z01 z0f 1 rfl Tryz.func73 rfl rfl rfl ?_
   repeat ((try conv => whnf); first | (refine ccA ([]) (c1) ?_) | (refine And.intro (by kernel_rfl) ?_) | (refine stpQ ?_))
   refine z0i 0 ⟨[(6, .sl 1 (strE (lvlA l d)))], [], 1⟩ Nat (fun j => ⟨[(1, .int .i64 16), (6, .sl 1 (strE (lvlA l j)))], [], 1⟩) (fun j => j ≤ d) (fun j => d - j) 0 (by omega) ?_ ?_ ?_
   ·(refine z02 (by rfl) ?_ ?_) <;> (repeat' (first | (exact eqA) | (refine shE ?_) | (refine And.intro ?_ ?_))) <;> first | rfl | decide
   ·intro j hj
    have hj2 := hL j hj
    by_cases hlt : j < d
    ·have h2 : 2 ≤ 2 ^ (d - j) ∧ 2 ^ (d - j) ≤ 4 := by
      rcases (by omega : d - j = 1 ∨ d - j = 2) with e | e <;> rw [e] <;> decide
     have hnx : lvlA l (j + 1) = upA (lvlA l j) ((lvlA l j).length / 2) := rfl
     have cu := zcA (lvlA l j) (by omega)
     generalize 2 ^ (d - j) = pw at h2 hj2
     generalize lvlA l j = o at hj2 cu hnx ⊢
     have ho := z0d o
     have h3 : (o.length : Int) > 1 := by omega
     repeat ((try conv => whnf); first | (refine Exists.intro o.length (And.intro ho ?_)) | (refine ccA ([]) (cu) ?_) | (refine stpQ ?_))
     refine ⟨j + 1, by omega, by omega, ?_⟩
     rw [hnx]
     (refine z02 (by rfl) ?_ ?_) <;> (repeat' (first | (exact eqA) | (refine shE ?_) | (refine And.intro ?_ ?_)))
    ·obtain rfl : j = d := by omega
     rw [Nat.sub_self] at hj2
     generalize lvlA l j = o at hj2 ⊢
     have ho := z0d o
     repeat ((try conv => whnf); first | (refine Exists.intro 1 (And.intro (ho.trans hj2) ?_)) | (refine stpQ ?_))
     (refine z02 (by rfl) ?_ ?_) <;> (repeat' (first | (exact eqA) | (refine shE ?_) | (refine And.intro ?_ ?_)))
   ·have hj2 := hL d (Nat.le_refl d)
    rw [Nat.sub_self] at hj2
    generalize lvlA l d = o at hj2 ⊢
    have g := z0v (ps := o) (k := 0) (by omega)
    repeat ((try conv => whnf); first | (refine i_at g ?_) | (refine Exists.intro 0 (Exists.intro _ (And.intro rfl (And.intro g ?_)))) | (refine stpQ ?_))
    (refine z00 (by rfl) ?_ ?_ (by rfl)) <;> (repeat' (first | (exact eqA) | (refine shE ?_) | (refine And.intro ?_ ?_)))
theorem z3n (l : List Bs) (hl : l.length ≤ 10) (hw : ∀ x ∈ l, x.length = 16) : CT Tryz.prog 18 [] [.sl 1 (strE l), .int .i64 16] (zba l) [] := by
 have c1 := zdE l hl hw
 have hlen := z0d l
 unfold zba
 cases hc : z4w l with
 | false =>
   rw [hc] at c1
   rw [show (bif false then T.tup [.str (z2o l), .bool true] else T.tup [.str [], .bool false]) = .tup [.str [], .bool false] from rfl]
   refine z01 z0f 1 rfl Tryz.func18 rfl rfl rfl ?_
   repeat ((try conv => whnf); first | (refine ccA ([]) (c1) ?_) | (refine And.intro (by kernel_rfl) ?_) | (refine stpQ ?_))
   (refine z00 (by rfl) ?_ ?_ (by rfl)) <;> (repeat' (first | (exact eqA) | (refine shE ?_) | (refine And.intro ?_ ?_)))
 | true =>
   rw [hc] at c1
   rw [show (bif true then T.tup [.str (z2o l), .bool true] else T.tup [.str [], .bool false]) = .tup [.str (z2o l), .bool true] from rfl]
   obtain ⟨hp, hd⟩ := za6 hc
   have hL := z6H hp
   unfold z2o
   generalize zb9 l.length = d at hp hd hL ⊢
   refine z01 z0f 1 rfl Tryz.func18 rfl rfl rfl ?_
   repeat ((try conv => whnf); first | (refine ccA ([]) (c1) ?_) | (refine And.intro (by rw [List.length_append, hlen]; simp; omega) ?_) | (refine And.intro (by kernel_rfl) ?_) | (refine stpQ ?_))
   refine z0i 0 ⟨[(6, .sl 1 (strE (lvlA l d)))], [], 1⟩ Nat (fun j => ⟨[(1, .int .i64 16), (6, .sl 1 (strE (lvlA l j)))], [], 1⟩) (fun j => j ≤ d) (fun j => d - j) 0 (by omega) ?_ ?_ ?_
   ·(refine z02 (by rfl) ?_ ?_) <;> (repeat' (first | (exact eqA) | (refine shE ?_) | (refine And.intro ?_ ?_))) <;> first | rfl | decide
   ·intro j hj
    have hj2 := hL j hj
    by_cases hlt : j < d
    ·have h2 : 2 ≤ 2 ^ (d - j) ∧ 2 ^ (d - j) ≤ 4 := by
      rcases (by omega : d - j = 1 ∨ d - j = 2) with e | e <;> rw [e] <;> decide
     have hnx : lvlA l (j + 1) = upA (lvlA l j) ((lvlA l j).length / 2) := rfl
     have cu := ziY (lvlA l j) (by omega)
     generalize 2 ^ (d - j) = pw at h2 hj2
     generalize lvlA l j = o at hj2 cu hnx ⊢
     have ho := z0d o
     have h3 : (o.length : Int) > 1 := by omega
     repeat ((try conv => whnf); first | (refine Exists.intro o.length (And.intro ho ?_)) | (refine ccA ([]) (cu) ?_) | (refine stpQ ?_))
     refine ⟨j + 1, by omega, by omega, ?_⟩
     rw [hnx]
     (refine z02 (by rfl) ?_ ?_) <;> (repeat' (first | (exact eqA) | (refine shE ?_) | (refine And.intro ?_ ?_)))
    ·obtain rfl : j = d := by omega
     rw [Nat.sub_self] at hj2
     generalize lvlA l j = o at hj2 ⊢
     have ho := z0d o
     repeat ((try conv => whnf); first | (refine Exists.intro 1 (And.intro (ho.trans hj2) ?_)) | (refine stpQ ?_))
     (refine z02 (by rfl) ?_ ?_) <;> (repeat' (first | (exact eqA) | (refine shE ?_) | (refine And.intro ?_ ?_)))
   ·have hj2 := hL d (Nat.le_refl d)
    rw [Nat.sub_self] at hj2
    generalize lvlA l d = o at hj2 ⊢
    have g := z0v (ps := o) (k := 0) (by omega)
    repeat ((try conv => whnf); first | (refine i_at g ?_) | (refine Exists.intro 0 (Exists.intro _ (And.intro rfl (And.intro g ?_)))) | (refine stpQ ?_))
    (refine z00 (by rfl) ?_ ?_ (by rfl)) <;> (repeat' (first | (exact eqA) | (refine shE ?_) | (refine And.intro ?_ ?_)))
end
end Go.Proofs.YtkjjacndfieeoaaGreatDoor
