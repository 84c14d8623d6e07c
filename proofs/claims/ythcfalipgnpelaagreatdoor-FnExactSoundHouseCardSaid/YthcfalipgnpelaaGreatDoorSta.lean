/- Functions by content: hashes of parts of any length; the root of a pool of any content. -/
import Derived.Test.YthcfalipgnpelaaGreatDoorCsa
namespace Go.Proofs.YthcfalipgnpelaaGreatDoor
set_option maxRecDepth 100000
set_option maxHeartbeats 4000000
set_option linter.unusedVariables false
set_option linter.unusedSimpArgs false
set_option linter.unusedSectionVars false
open Go.RowKit Pl
attribute [local irreducible] z0o z0p z0z AnsP LeP
instance partsDec (ps : List Bs) : Decidable (z0Z ps) := by unfold z0Z; exact inferInstance
def z8y (k : Nat) (ps : List Bs) (w : Nat) : Bs := if z0Z ps then z1m k ps w else []
def upA (l : List Bs) (n : Nat) : List Bs := (List.range n).map fun i => z8y 3 [pAt l (2 * i), pAt l (2 * i + 1)] 16
theorem z8a (l : List Bs) (n : Nat) : (upA l n).length = n := by simp [upA]
theorem zae (l : List Bs) (n : Nat) : upA l (n + 1) = upA l n ++ [z8y 3 [pAt l (2 * n), pAt l (2 * n + 1)] 16] := by simp [upA, List.range_succ]
def lvlA (l : List Bs) : Nat → List Bs
 | 0 => l
 | j + 1 => upA (lvlA l j) ((lvlA l j).length / 2)
theorem z5P {l : List Bs} (h : l.length = 16) : ∀ j, (lvlA l j).length = 16 / 2 ^ j
 | 0 => by simp [lvlA, h]
 | j + 1 => by rw [lvlA, z8a, z5P h j, Nat.div_div_eq_div_mul, ← Nat.pow_succ]
def z6g (l : List Bs) : Bs := if l.length = 16 then pAt (lvlA l 4) 0 else []
theorem zaf : ∀ (ps : List Bs), (¬ ∀ p ∈ ps, p.length ≤ 200) → ∃ j, j < ps.length ∧ 200 < (pAt ps j).length ∧ ∀ p ∈ ps.take j, p.length ≤ 200
 | [], h => absurd (fun p hp => by cases hp) h
 | p :: ps, h => by
   by_cases hp : p.length ≤ 200
   ·obtain ⟨j, h1, h2, h3⟩ := zaf ps (fun hx => h (fun q hq => by
     rcases List.mem_cons.1 hq with rfl | hq
     ·exact hp
     ·exact hx q hq))
    refine ⟨j + 1, by simp; omega, by simpa [pAt] using h2, fun q hq => ?_⟩
    rw [List.take_succ_cons, List.mem_cons] at hq
    rcases hq with rfl | hq
    ·exact hp
    ·exact h3 q hq
   ·exact ⟨0, by simp, by simp [pAt]; omega, fun q hq => by simp at hq⟩
theorem zeE {ps : List Bs} {i j : Nat} (h : i < j) : pAt (ps.take j) i = pAt ps i := by
 simp only [pAt, List.getD, List.getElem?_take, if_pos h]
theorem zg3 (k : Nat) (ps : List Bs) (hk : 1 ≤ k ∧ k ≤ 8) (hl60 : ps.length ≤ 60) (hn : ¬ z0Z ps) : CT Tryz.prog 266 [] [.int .i64 (k : Int), .sl 1 (strE ps)] (.tup [.str [], .bool false]) [] := by
 have hlen := z05 ps
 obtain ⟨j, hj, hj2, hj3⟩ := zaf ps (fun h => hn ⟨hl60, h⟩)
 have c1 : CT Tryz.prog 90 [] [.int .i64 (k : Int), .int .i64 1, .int .i64 8] (.bool true) [] := by
  have := c_in (k : Int) 1 8
  rwa [z0x.2 (by omega)] at this
 have hqo : z0Z (ps.take j) := ⟨by rw [List.length_take]; omega, hj3⟩
 have hql : (ps.take j).length = j := by rw [List.length_take]; omega
 have hqp : ∀ i, i < j → pAt (ps.take j) i = pAt ps i := fun i h => zeE h
 generalize ps.take j = qs at hqo hql hqp
 refine z01 z0q 1 rfl Tryz.func266 rfl rfl rfl ?_
 repeat ((try conv => whnf); first | (refine ccA ([]) (c1) ?_) | (refine Exists.intro ps.length (And.intro hlen ?_)) | (refine w_u8 ?_) | (refine stpQ ?_))
 refine z0K Nat (fun i => ⟨[(6, .ref 1), (20, .sl 1 (strE ps)), (21, .int .i64 (ps.length : Int)), (22, .int .i64 (i : Int))], [(1, some (.row 1 (z0u (z38 k qs i))))], 2⟩) (fun i => i ≤ j) (fun i => j - i) 0 (by omega) ?_ ?_
 ·(refine z02 (by rfl) ?_ ?_) <;> (repeat' (first | (exact eqA) | (refine shE ?_) | (refine And.intro ?_ ?_))) <;> first | rfl | decide
 ·intro Q1 hQ1 i hi
  have hlt0 : i < ps.length := by omega
  have hlt1 : (i : Int) < (ps.length : Int) := by omega
  have g := z0j hlt0
  by_cases hlt : i < j
  ·have hnx := z3D (k := k) (ps := qs) (i := i) (by omega)
   have hw := z33 (k := k) hqo i
   have hpl := zbm hqo i
   rw [hqp i hlt] at hnx hpl
   have cs := z7s (pAt ps i) (by omega)
   have hsl := z3H (l := pAt ps i) (by omega)
   generalize z38 k qs i = o at hnx hw ⊢
   generalize pAt ps i = v at g cs hsl hnx hpl
   have hbl := z0S o
   have hb2 := z0S (z0h v)
   repeat ((try conv => whnf); first | (refine i_at g ?_) | (refine ccA ([]) (cs) ?_) | (refine And.intro (by rw [List.length_append, hbl, hb2]; omega) ?_) | (refine stpQ ?_))
   refine ⟨i + 1, by omega, by omega, ?_⟩
   rw [hnx]
   (refine z02 (by rfl) ?_ ?_) <;> (repeat' (first | (exact eqA) | (refine shE ?_) | (refine And.intro ?_ ?_)))
   simp [z0u]
  ·have hie : i = j := by omega
   subst hie
   generalize pAt ps i = v at g hj2
   have hv : (v.length : Int) > 200 := by omega
   repeat ((try conv => whnf); first | (refine i_at g ?_) | (refine stpQ ?_))
   refine hQ1 _ _ ?_
   (try conv => whnf)
   (refine z00 (by rfl) ?_ ?_ (by rfl)) <;> (repeat' (first | (exact eqA) | (refine shE ?_) | (refine And.intro ?_ ?_)))
theorem zg4 (k : Nat) (ps : List Bs) (w : Nat) (hk : 1 ≤ k ∧ k ≤ 8) (hl60 : ps.length ≤ 60) (hw : 1 ≤ w ∧ w ≤ 32) : CT Tryz.prog 236 [] [.int .i64 (k : Int), .sl 1 (strE ps), .int .i64 (w : Int)] (.str (z8y k ps w)) [] := by
 unfold z8y
 by_cases hp : z0Z ps
 ·rw [if_pos hp]; exact z7Q k ps w hk hp hw
 ·rw [if_neg hp]
  have c1 := zg3 k ps hk hl60 hp
  refine z01 z0q 1 rfl Tryz.func236 rfl rfl rfl ?_
  repeat ((try conv => whnf); first | (refine ccA ([]) (c1) ?_) | (refine stpQ ?_))
  (refine z00 (by rfl) ?_ ?_ (by rfl)) <;> (repeat' (first | (exact eqA) | (refine shE ?_) | (refine And.intro ?_ ?_)))
theorem ziP (k : Nat) (ps : List Bs) (w : Nat) (hk : 1 ≤ k ∧ k ≤ 8) (hl60 : ps.length ≤ 60) (hw : 1 ≤ w ∧ w ≤ 32) : CT Tryz.prog 212 [] [.int .i64 (k : Int), .int .i64 (w : Int), .sl 1 (strE ps)] (.str (z8y k ps w)) [] := by
 have c1 := zg4 k ps w hk hl60 hw
 refine z01 z0q 1 rfl Tryz.func212 rfl rfl rfl ?_
 repeat ((try conv => whnf); first | (refine ccA ([]) (c1) ?_) | (refine stpQ ?_))
 (refine z00 (by rfl) ?_ ?_ (by rfl)) <;> (repeat' (first | (exact eqA) | (refine shE ?_) | (refine And.intro ?_ ?_)))
theorem zdk (k : Nat) (ps : List Bs) (hk : 1 ≤ k ∧ k ≤ 8) (hl60 : ps.length ≤ 60) (hn : ¬ z0Z ps) : CT Tryz.prog 209 [] [.int .i64 (k : Int), .sl 1 (strE ps)] (.tup [.str [], .bool false]) [] := by
 have hlen := z05 ps
 obtain ⟨j, hj, hj2, hj3⟩ := zaf ps (fun h => hn ⟨hl60, h⟩)
 have c1 : CT Tryz.prog 31 [] [.int .i64 (k : Int), .int .i64 1, .int .i64 8] (.bool true) [] := by
  have := z1f (k : Int) 1 8
  rwa [z0x.2 (by omega)] at this
 have hqo : z0Z (ps.take j) := ⟨by rw [List.length_take]; omega, hj3⟩
 have hql : (ps.take j).length = j := by rw [List.length_take]; omega
 have hqp : ∀ i, i < j → pAt (ps.take j) i = pAt ps i := fun i h => zeE h
 generalize ps.take j = qs at hqo hql hqp
 refine z01 z0q 1 rfl Tryz.func209 rfl rfl rfl ?_
 repeat ((try conv => whnf); first | (refine ccA ([]) (c1) ?_) | (refine Exists.intro ps.length (And.intro hlen ?_)) | (refine w_u8 ?_) | (refine Exists.intro [UInt8.ofNat k] (And.intro rfl ?_)) | (refine stpQ ?_))
 refine z0K Nat (fun i => ⟨[(1, .sl 1 (strE ps)), (6, .str (z38 k qs i)), (7, .int .i64 (i : Int))], [], 1⟩) (fun i => i ≤ j) (fun i => j - i) 0 (by omega) ?_ ?_
 ·(refine z02 (by rfl) ?_ ?_) <;> (repeat' (first | (exact eqA) | (refine shE ?_) | (refine And.intro ?_ ?_))) <;> first | rfl | decide
 ·intro Q1 hQ1 i hi
  have hlt0 : i < ps.length := by omega
  have hlt1 : (i : Int) < (ps.length : Int) := by omega
  have g := z0j hlt0
  by_cases hlt : i < j
  ·have hnx := z3D (k := k) (ps := qs) (i := i) (by omega)
   have hw := z33 (k := k) hqo i
   have hpl := zbm hqo i
   rw [hqp i hlt] at hnx hpl
   have cs := zef (pAt ps i).length (by omega)
   have hvl := z6N (n := (pAt ps i).length) (by omega)
   have hsh : z0h (pAt ps i) = z0d (pAt ps i).length ++ pAt ps i := rfl
   rw [hsh] at hnx
   generalize z38 k qs i = o at hnx hw ⊢
   generalize pAt ps i = x at g cs hvl hnx hpl
   generalize z0d x.length = v at cs hvl hnx
   repeat ((try conv => whnf); first | (refine Exists.intro ps.length (And.intro hlen ?_)) | (refine i_at g ?_) | (refine ccA ([]) (cs) ?_) | (refine And.intro (by rw [List.length_append]; omega) ?_) | (refine And.intro (by kernel_rfl) ?_) | (refine stpQ ?_))
   refine ⟨i + 1, by omega, by omega, ?_⟩
   rw [hnx]
   (refine z02 (by rfl) ?_ ?_) <;> (repeat' (first | (exact eqA) | (refine shE ?_) | (refine And.intro ?_ ?_)))
   rw [List.append_assoc]
  ·have hie : i = j := by omega
   subst hie
   generalize pAt ps i = v at g hj2
   have hv : (v.length : Int) > 200 := by omega
   repeat ((try conv => whnf); first | (refine Exists.intro ps.length (And.intro hlen ?_)) | (refine i_at g ?_) | (refine stpQ ?_))
   refine hQ1 _ _ ?_
   (try conv => whnf)
   (refine z00 (by rfl) ?_ ?_ (by rfl)) <;> (repeat' (first | (exact eqA) | (refine shE ?_) | (refine And.intro ?_ ?_)))
theorem z8b (k : Nat) (ps : List Bs) (w : Nat) (hk : 1 ≤ k ∧ k ≤ 8) (hl60 : ps.length ≤ 60) (hw : 1 ≤ w ∧ w ≤ 32) : CT Tryz.prog 145 [] [.int .i64 (k : Int), .sl 1 (strE ps), .int .i64 (w : Int)] (.str (z8y k ps w)) [] := by
 unfold z8y
 by_cases hp : z0Z ps
 ·rw [if_pos hp]; exact z1i k ps w hk hp hw
 ·rw [if_neg hp]
  have c1 := zdk k ps hk hl60 hp
  refine z01 z0q 1 rfl Tryz.func145 rfl rfl rfl ?_
  repeat ((try conv => whnf); first | (refine ccA ([]) (c1) ?_) | (refine stpQ ?_))
  (refine z00 (by rfl) ?_ ?_ (by rfl)) <;> (repeat' (first | (exact eqA) | (refine shE ?_) | (refine And.intro ?_ ?_)))
theorem zeF (l : List Bs) (hl : l.length ≤ 60) : CT Tryz.prog 149 [] [.sl 1 (strE l), .int .i64 16] (.sl 1 (strE (upA l (l.length / 2)))) [] := by
 have hlen := z05 l
 refine z01 z0q 1 rfl Tryz.func149 rfl rfl rfl ?_
 repeat ((try conv => whnf); first | (refine stpQ ?_))
 refine z07 0 ⟨[(5, .ref 1)], [(1, some (.row 1 (strE (upA l (l.length / 2)))))], 2⟩ Nat (fun k => ⟨[(0, .sl 1 (strE l)), (1, .int .i64 16), (5, .ref 1), (6, .int .i64 ((2 * k : Nat) : Int))], [(1, some (.row 1 (strE (upA l k))))], 2⟩) (fun k => k ≤ l.length / 2) (fun k => l.length / 2 - k) 0 (by omega) ?_ ?_ ?_
 ·(refine z02 (by rfl) ?_ ?_) <;> (repeat' (first | (exact eqA) | (refine shE ?_) | (refine And.intro ?_ ?_))) <;> first | rfl | decide
 ·intro k hk
  by_cases hlt : k < l.length / 2
  ·have h0 : 2 * k < l.length := by omega
   have h1 : 2 * k + 1 < l.length := by omega
   have g0 := z0j h0
   have g1 := z0j h1
   have cs := ziP 3 [pAt l (2 * k), pAt l (2 * k + 1)] 16 (by omega) (by simp) (by omega)
   have hnx := zae l k
   have hll := z8a l k
   generalize upA l k = o at hnx hll ⊢
   generalize z8y 3 [pAt l (2 * k), pAt l (2 * k + 1)] 16 = r at cs hnx
   generalize pAt l (2 * k) = u0 at g0 cs
   generalize pAt l (2 * k + 1) = u1 at g1 cs
   have hol := z05 o
   have e1 : IntKind.i64.wrap (((2 * k : Nat) : Int) + 1) = ((2 * k + 1 : Nat) : Int) := by rw [z08 (by omega) (by omega)]; omega
   have e2 : IntKind.i64.wrap (((2 * k : Nat) : Int) + 2) = ((2 * (k + 1) : Nat) : Int) := by rw [z08 (by omega) (by omega)]; omega
   have h2 : ((2 * k + 1 : Nat) : Int) < (l.length : Int) := by omega
   repeat ((try conv => whnf); first | (refine Exists.intro _ (And.intro e1.symm ?_)) | (refine Exists.intro l.length (And.intro hlen ?_)) | (refine i_at g0 ?_) | (refine i_at g1 ?_) | (refine ccA ([]) (cs) ?_) | (refine And.intro (by simp [z05]; omega) ?_) | (refine Exists.intro _ (And.intro e2.symm ?_)) | (refine And.intro (by kernel_rfl) ?_) | (refine stpQ ?_))
   refine ⟨k + 1, by omega, by omega, ?_⟩
   rw [hnx]
   (refine z02 (by rfl) ?_ ?_) <;> (repeat' (first | (exact eqA) | (refine shE ?_) | (refine And.intro ?_ ?_)))
   rw [z1k]; rfl
  ·obtain rfl : k = l.length / 2 := by omega
   have e1 : IntKind.i64.wrap (((2 * (l.length / 2) : Nat) : Int) + 1) = ((2 * (l.length / 2) + 1 : Nat) : Int) := by rw [z08 (by omega) (by omega)]; omega
   have h2 : ¬ ((2 * (l.length / 2) + 1 : Nat) : Int) < (l.length : Int) := by omega
   repeat ((try conv => whnf); first | (refine Exists.intro _ (And.intro e1.symm ?_)) | (refine Exists.intro l.length (And.intro hlen ?_)) | (refine stpQ ?_))
   (refine z02 (by rfl) ?_ ?_) <;> (repeat' (first | (exact eqA) | (refine shE ?_) | (refine And.intro ?_ ?_)))
 ·repeat ((try conv => whnf); first | (refine stpQ ?_))
  (refine z00 (by rfl) ?_ ?_ (by rfl)) <;> (repeat' (first | (exact eqA) | (refine shE ?_) | (refine And.intro ?_ ?_)))
theorem c_sUpA (l : List Bs) (hl : l.length ≤ 60) : CT Tryz.prog 140 [] [.sl 1 (strE l)] (.sl 1 (strE (upA l (l.length / 2)))) [] := by
 have hlen := z05 l
 refine z01 z0q 1 rfl Tryz.func140 rfl rfl rfl ?_
 repeat ((try conv => whnf); first | (refine stpQ ?_))
 refine z07 0 ⟨[(3, .ref 1)], [(1, some (.row 1 (strE (upA l (l.length / 2)))))], 2⟩ Nat (fun k => ⟨[(0, .sl 1 (strE l)), (3, .ref 1), (4, .int .i64 ((2 * k : Nat) : Int))], [(1, some (.row 1 (strE (upA l k))))], 2⟩) (fun k => k ≤ l.length / 2) (fun k => l.length / 2 - k) 0 (by omega) ?_ ?_ ?_
 ·(refine z02 (by rfl) ?_ ?_) <;> (repeat' (first | (exact eqA) | (refine shE ?_) | (refine And.intro ?_ ?_))) <;> first | rfl | decide
 ·intro k hk
  by_cases hlt : k < l.length / 2
  ·have h0 : 2 * k < l.length := by omega
   have h1 : 2 * k + 1 < l.length := by omega
   have g0 := z0j h0
   have g1 := z0j h1
   have cs := z8b 3 [pAt l (2 * k), pAt l (2 * k + 1)] 16 (by omega) (by simp) (by omega)
   have hnx := zae l k
   have hll := z8a l k
   generalize upA l k = o at hnx hll ⊢
   generalize z8y 3 [pAt l (2 * k), pAt l (2 * k + 1)] 16 = r at cs hnx
   generalize pAt l (2 * k) = u0 at g0 cs
   generalize pAt l (2 * k + 1) = u1 at g1 cs
   have hol := z05 o
   have e1 : IntKind.i64.wrap (((2 * k : Nat) : Int) + 1) = ((2 * k + 1 : Nat) : Int) := by rw [z08 (by omega) (by omega)]; omega
   have e2 : IntKind.i64.wrap (((2 * k : Nat) : Int) + 2) = ((2 * (k + 1) : Nat) : Int) := by rw [z08 (by omega) (by omega)]; omega
   have h2 : ((2 * k + 1 : Nat) : Int) < (l.length : Int) := by omega
   repeat ((try conv => whnf); first | (refine Exists.intro _ (And.intro e1.symm ?_)) | (refine Exists.intro l.length (And.intro hlen ?_)) | (refine i_at g0 ?_) | (refine i_at g1 ?_) | (refine ccA ([]) (cs) ?_) | (refine And.intro (by simp [z05]; omega) ?_) | (refine Exists.intro _ (And.intro e2.symm ?_)) | (refine And.intro (by kernel_rfl) ?_) | (refine stpQ ?_))
   refine ⟨k + 1, by omega, by omega, ?_⟩
   rw [hnx]
   (refine z02 (by rfl) ?_ ?_) <;> (repeat' (first | (exact eqA) | (refine shE ?_) | (refine And.intro ?_ ?_)))
   rw [z1k]; rfl
  ·obtain rfl : k = l.length / 2 := by omega
   have e1 : IntKind.i64.wrap (((2 * (l.length / 2) : Nat) : Int) + 1) = ((2 * (l.length / 2) + 1 : Nat) : Int) := by rw [z08 (by omega) (by omega)]; omega
   have h2 : ¬ ((2 * (l.length / 2) + 1 : Nat) : Int) < (l.length : Int) := by omega
   repeat ((try conv => whnf); first | (refine Exists.intro _ (And.intro e1.symm ?_)) | (refine Exists.intro l.length (And.intro hlen ?_)) | (refine stpQ ?_))
   (refine z02 (by rfl) ?_ ?_) <;> (repeat' (first | (exact eqA) | (refine shE ?_) | (refine And.intro ?_ ?_)))
 ·repeat ((try conv => whnf); first | (refine stpQ ?_))
  (refine z00 (by rfl) ?_ ?_ (by rfl)) <;> (repeat' (first | (exact eqA) | (refine shE ?_) | (refine And.intro ?_ ?_)))
theorem z8c (l : List Bs) (hl0 : (l.length : Int) ≤ 100000000) : CT Tryz.prog 89 [] [.sl 1 (strE l)] (.str (z6g l)) [] := by
 have hlen := z05 l
 unfold z6g
 by_cases hl : l.length = 16
 ·rw [if_pos hl]
  refine z01 z0q 1 rfl Tryz.func89 rfl rfl rfl ?_
  repeat ((try conv => whnf); first | (refine Exists.intro 16 (And.intro (hlen.trans hl) ?_)) | (refine stpQ ?_))
  refine z07 0 ⟨[(3, .sl 1 (strE (lvlA l 4)))], [], 1⟩ Nat (fun j => ⟨[(3, .sl 1 (strE (lvlA l j)))], [], 1⟩) (fun j => j ≤ 4) (fun j => 4 - j) 0 (by omega) ?_ ?_ ?_
  ·(refine z02 (by rfl) ?_ ?_) <;> (repeat' (first | (exact eqA) | (refine shE ?_) | (refine And.intro ?_ ?_))) <;> first | rfl | decide
  ·intro j hj
   have hL := z5P hl j
   by_cases hlt : j < 4
   ·have h2 : 2 ≤ 16 / 2 ^ j := by
     rcases (by omega : j = 0 ∨ j = 1 ∨ j = 2 ∨ j = 3) with rfl | rfl | rfl | rfl <;> decide
    have h16 : 16 / 2 ^ j ≤ 16 := Nat.div_le_self _ _
    have hnx : lvlA l (j + 1) = upA (lvlA l j) ((lvlA l j).length / 2) := rfl
    have cu := zeF (lvlA l j) (by omega)
    generalize lvlA l j = o at hL cu hnx ⊢
    have ho := z05 o
    have h3 : (o.length : Int) > 1 := by omega
    repeat ((try conv => whnf); first | (refine Exists.intro o.length (And.intro ho ?_)) | (refine ccA ([]) (cu) ?_) | (refine stpQ ?_))
    refine ⟨j + 1, by omega, by omega, ?_⟩
    rw [hnx]
    (refine z02 (by rfl) ?_ ?_) <;> (repeat' (first | (exact eqA) | (refine shE ?_) | (refine And.intro ?_ ?_)))
   ·obtain rfl : j = 4 := by omega
    generalize lvlA l 4 = o at hL ⊢
    have ho := z05 o
    repeat ((try conv => whnf); first | (refine Exists.intro 1 (And.intro (ho.trans hL) ?_)) | (refine stpQ ?_))
    (refine z02 (by rfl) ?_ ?_) <;> (repeat' (first | (exact eqA) | (refine shE ?_) | (refine And.intro ?_ ?_)))
  ·have hL := z5P hl 4
   generalize lvlA l 4 = o at hL ⊢
   have g := z0j (ps := o) (k := 0) (by omega)
   repeat ((try conv => whnf); first | (refine i_at g ?_) | (refine Exists.intro 0 (Exists.intro _ (And.intro rfl (And.intro g ?_)))) | (refine stpQ ?_))
   (refine z00 (by rfl) ?_ ?_ (by rfl)) <;> (repeat' (first | (exact eqA) | (refine shE ?_) | (refine And.intro ?_ ?_)))
 ·rw [if_neg hl]
  have hl2 : ¬ (l.length : Int) = 16 := by omega
  refine z01 z0q 1 rfl Tryz.func89 rfl rfl rfl ?_
  repeat ((try conv => whnf); first | (refine Exists.intro l.length (And.intro hlen ?_)) | (refine z1w hl2 ?_) | (refine stpQ ?_))
  (refine z00 (by rfl) ?_ ?_ (by rfl)) <;> (repeat' (first | (exact eqA) | (refine shE ?_) | (refine And.intro ?_ ?_)))
theorem z6w (l : List Bs) (hl0 : (l.length : Int) ≤ 100000000) : CT Tryz.prog 81 [] [.sl 1 (strE l)] (.str (z6g l)) [] := by
 have hlen := z05 l
 unfold z6g
 by_cases hl : l.length = 16
 ·rw [if_pos hl]
  refine z01 z0q 1 rfl Tryz.func81 rfl rfl rfl ?_
  repeat ((try conv => whnf); first | (refine Exists.intro 16 (And.intro (hlen.trans hl) ?_)) | (refine And.intro (by rw [List.length_append, hlen, hl]; simp) ?_) | (refine stpQ ?_))
  refine z07 0 ⟨[(3, .sl 1 (strE (lvlA l 4)))], [], 1⟩ Nat (fun j => ⟨[(3, .sl 1 (strE (lvlA l j)))], [], 1⟩) (fun j => j ≤ 4) (fun j => 4 - j) 0 (by omega) ?_ ?_ ?_
  ·(refine z02 (by rfl) ?_ ?_) <;> (repeat' (first | (exact eqA) | (refine shE ?_) | (refine And.intro ?_ ?_))) <;> first | rfl | decide
  ·intro j hj
   have hL := z5P hl j
   by_cases hlt : j < 4
   ·have h2 : 2 ≤ 16 / 2 ^ j := by
     rcases (by omega : j = 0 ∨ j = 1 ∨ j = 2 ∨ j = 3) with rfl | rfl | rfl | rfl <;> decide
    have h16 : 16 / 2 ^ j ≤ 16 := Nat.div_le_self _ _
    have hnx : lvlA l (j + 1) = upA (lvlA l j) ((lvlA l j).length / 2) := rfl
    have cu := c_sUpA (lvlA l j) (by omega)
    generalize lvlA l j = o at hL cu hnx ⊢
    have ho := z05 o
    have h3 : (o.length : Int) > 1 := by omega
    repeat ((try conv => whnf); first | (refine Exists.intro o.length (And.intro ho ?_)) | (refine ccA ([]) (cu) ?_) | (refine stpQ ?_))
    refine ⟨j + 1, by omega, by omega, ?_⟩
    rw [hnx]
    (refine z02 (by rfl) ?_ ?_) <;> (repeat' (first | (exact eqA) | (refine shE ?_) | (refine And.intro ?_ ?_)))
   ·obtain rfl : j = 4 := by omega
    generalize lvlA l 4 = o at hL ⊢
    have ho := z05 o
    repeat ((try conv => whnf); first | (refine Exists.intro 1 (And.intro (ho.trans hL) ?_)) | (refine stpQ ?_))
    (refine z02 (by rfl) ?_ ?_) <;> (repeat' (first | (exact eqA) | (refine shE ?_) | (refine And.intro ?_ ?_)))
  ·have hL := z5P hl 4
   generalize lvlA l 4 = o at hL ⊢
   have g := z0j (ps := o) (k := 0) (by omega)
   repeat ((try conv => whnf); first | (refine i_at g ?_) | (refine Exists.intro 0 (Exists.intro _ (And.intro rfl (And.intro g ?_)))) | (refine stpQ ?_))
   (refine z00 (by rfl) ?_ ?_ (by rfl)) <;> (repeat' (first | (exact eqA) | (refine shE ?_) | (refine And.intro ?_ ?_)))
 ·rw [if_neg hl]
  have hl2 : ¬ (l.length : Int) = 16 := by omega
  refine z01 z0q 1 rfl Tryz.func81 rfl rfl rfl ?_
  repeat ((try conv => whnf); first | (refine Exists.intro l.length (And.intro hlen ?_)) | (refine z1w hl2 ?_) | (refine stpQ ?_))
  (refine z00 (by rfl) ?_ ?_ (by rfl)) <;> (repeat' (first | (exact eqA) | (refine shE ?_) | (refine And.intro ?_ ?_)))
end Go.Proofs.YthcfalipgnpelaaGreatDoor
