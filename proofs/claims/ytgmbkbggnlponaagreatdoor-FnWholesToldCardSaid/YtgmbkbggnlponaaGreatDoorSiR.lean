/- Functions by content: the reference's one-time keys, pools, and signatures. Functions by content: the reference signs; heads, seals and stamps. -/
import Derived.Test.YtgmbkbggnlponaaGreatDoorPs
namespace Go.Proofs.YtgmbkbggnlponaaGreatDoor
set_option maxRecDepth 100000
set_option maxHeartbeats 8000000
set_option linter.unusedVariables false
set_option linter.unusedSimpArgs false
set_option linter.unusedSectionVars false
open Go.RowKit Pl
attribute [local irreducible] z0t z0u z0y AnsP LeP
theorem z4v {l : Bs} (h : l.length = 16) : ∃ x xs, l = x :: xs := by
 cases l with
 | nil => cases h
 | cons x xs => exact ⟨x, xs, rfl⟩
theorem z56 {a : Bs} (ha : a.length ≤ 200) : z1q [a] := ⟨by simp, fun p h => by rw [List.mem_singleton.1 h]; exact ha⟩
theorem z89 {l : List Bs} (hn : l.length ≤ 60) (h : ∀ x ∈ l, x.length = 16) : z1q l := ⟨hn, fun p hp => by have := h p hp; omega⟩
theorem z7y {x lo hi : Int} (h : lo ≤ x ∧ x ≤ hi) : CT Tryz.prog 30 [] [.int .i64 x, .int .i64 lo, .int .i64 hi] (.bool true) [] := by
 have := z10 x lo hi
 rwa [z0r.2 h] at this
theorem z7a (seed : Bs) (a b v : Nat) (hs : seed.length ≤ 100) (ha : a < 16) (hb : b < 8) (hv : v < 2) : CT Tryz.prog 171 [] [.str seed, .int .i64 (a : Int), .int .i64 (b : Int), .int .i64 (v : Int)] (.str (secB seed a b v)) [] := by
 have c1 := z7y (x := (a : Int)) (lo := 0) (hi := 15) (by omega)
 have c2 := z7y (x := (b : Int)) (lo := 0) (hi := 7) (by omega)
 have c3 := z7y (x := (v : Int)) (lo := 0) (hi := 1) (by omega)
 have c4 := z0U 5 [seed, [UInt8.ofNat a, UInt8.ofNat b, UInt8.ofNat v]] 16 (by omega) (z1U (by omega) (by simp)) (by omega)
 unfold secB
 generalize z14 5 [seed, [UInt8.ofNat a, UInt8.ofNat b, UInt8.ofNat v]] 16 = R at c4 ⊢
 refine z01 z0m 1 rfl Tryz.func171 rfl rfl rfl ?_
 repeat ((try conv => whnf); first | (refine ccA ([]) (c1) ?_) | (refine ccA ([]) (c2) ?_) | (refine ccA ([]) (c3) ?_) | (refine w_u8 ?_) | (refine Exists.intro [UInt8.ofNat a, UInt8.ofNat b, UInt8.ofNat v] (And.intro rfl ?_)) | (refine ccA ([]) (c4) ?_) | (refine stpQ ?_))
 (refine z00 (by rfl) ?_ ?_ (by rfl)) <;> (repeat' (first | (exact eqA) | (refine shE ?_) | (refine And.intro ?_ ?_)))
theorem zbI (s : Bs) (hs : s.length ≤ 200) : CT Tryz.prog 139 [] [.str s] (.str (z3z s)) [] := by
 have c4 := z0U 6 [s] 16 (by omega) (z56 hs) (by omega)
 unfold z3z
 generalize z14 6 [s] 16 = R at c4 ⊢
 refine z01 z0m 1 rfl Tryz.func139 rfl rfl rfl ?_
 repeat ((try conv => whnf); first | (refine ccA ([]) (c4) ?_) | (refine stpQ ?_))
 (refine z00 (by rfl) ?_ ?_ (by rfl)) <;> (repeat' (first | (exact eqA) | (refine shE ?_) | (refine And.intro ?_ ?_)))
theorem zas (seed : Bs) (a : Nat) (hs : seed.length ≤ 100) (ha : a < 16) : CT Tryz.prog 150 [] [.str seed, .int .i64 (a : Int)] (.str (pubB seed a)) [] := by
 have cT := z0U 6 (z2F seed a 16) 16 (by omega) (z89 (by rw [z85]; omega) zbB) (by omega)
 unfold pubB
 generalize z14 6 (z2F seed a 16) 16 = R at cT ⊢
 refine z01 z0m 1 rfl Tryz.func150 rfl rfl rfl ?_
 repeat ((try conv => whnf); first | (refine stpQ ?_))
 refine z0h 0 ⟨[(5, .ref 1)], [(1, some (.row 1 (strE (z2F seed a 16))))], 2⟩ Nat (fun b => ⟨[(0, .str seed), (1, .int .i64 (a : Int)), (5, .ref 1), (6, .int .i64 (b : Int))], [(1, some (.row 1 (strE (z2F seed a (2 * b)))))], 2⟩) (fun b => b ≤ 8) (fun b => 8 - b) 0 (by omega) ?_ ?_ ?_
 ·(refine z02 (by rfl) ?_ ?_) <;> (repeat' (first | (exact eqA) | (refine shE ?_) | (refine And.intro ?_ ?_))) <;> first | rfl | decide
 ·intro b hb
  by_cases hlt : b < 8
  ·have hb8 : (b : Int) < 8 := by omega
   repeat ((try conv => whnf); first | (refine stpQ ?_))
   refine z0h 2 ⟨[(0, .str seed), (1, .int .i64 (a : Int)), (5, .ref 1), (6, .int .i64 (b : Int))], [(1, some (.row 1 (strE (z2F seed a (2 * (b + 1))))))], 2⟩ Nat (fun v => ⟨[(0, .str seed), (1, .int .i64 (a : Int)), (5, .ref 1), (6, .int .i64 (b : Int)), (7, .int .i64 (v : Int))], [(1, some (.row 1 (strE (z2F seed a (2 * b + v)))))], 2⟩) (fun v => v ≤ 2) (fun v => 2 - v) 0 (by omega) ?_ ?_ ?_
   ·(refine z02 (by rfl) ?_ ?_) <;> (repeat' (first | (exact eqA) | (refine shE ?_) | (refine And.intro ?_ ?_))) <;> first | rfl | decide
   ·intro v hv
    by_cases hv2 : v < 2
    ·have hv3 : (v : Int) < 2 := by omega
     have cs := z7a seed a b v hs ha hlt hv2
     have hsl := z94 seed a b v
     have cl := zbI (secB seed a b v) (by omega)
     have hnx := z4q seed a (2 * b + v)
     have e1 : (2 * b + v) / 2 = b := by omega
     have e2 : (2 * b + v) % 2 = v := by omega
     rw [e1, e2] at hnx
     have hll := z85 seed a (2 * b + v)
     generalize z2F seed a (2 * b + v) = o at hnx hll ⊢
     generalize z3z (secB seed a b v) = k at cl hnx
     obtain ⟨x, xs, hx⟩ := z4v hsl
     rw [hx] at cs cl
     clear hsl hx
     have hol := z0c o
     have hne : ¬ ((x :: xs : Bs) = []) := fun h => by cases h
     repeat ((try conv => whnf); first | (refine ccA ([]) (cs) ?_) | (refine z0k hne ?_) | (refine ccA ([]) (cl) ?_) | (refine And.intro (by simp [z0c]; omega) ?_) | (refine stpQ ?_))
     refine ⟨v + 1, by omega, by omega, ?_⟩
     rw [show 2 * b + (v + 1) = 2 * b + v + 1 by omega, hnx]
     (refine z02 (by rfl) ?_ ?_) <;> (repeat' (first | (exact eqA) | (refine shE ?_) | (refine And.intro ?_ ?_)))
     rw [z0R]; rfl
    ·obtain rfl : v = 2 := by omega
     repeat ((try conv => whnf); first | (refine stpQ ?_))
     (refine z02 (by rfl) ?_ ?_) <;> (repeat' (first | (exact eqA) | (refine shE ?_) | (refine And.intro ?_ ?_)))
     all_goals rfl
   ·repeat ((try conv => whnf); first | (refine stpQ ?_))
    refine ⟨b + 1, by omega, by omega, ?_⟩
    (refine z02 (by rfl) ?_ ?_) <;> (repeat' (first | (exact eqA) | (refine shE ?_) | (refine And.intro ?_ ?_)))
  ·obtain rfl : b = 8 := by omega
   repeat ((try conv => whnf); first | (refine stpQ ?_))
   (refine z02 (by rfl) ?_ ?_) <;> (repeat' (first | (exact eqA) | (refine shE ?_) | (refine And.intro ?_ ?_)))
 ·repeat ((try conv => whnf); first | (refine ccA ([]) (cT) ?_) | (refine stpQ ?_))
  (refine z00 (by rfl) ?_ ?_ (by rfl)) <;> (repeat' (first | (exact eqA) | (refine shE ?_) | (refine And.intro ?_ ?_)))
theorem zfr (seed : Bs) (hs : seed.length ≤ 100) : CT Tryz.prog 107 [] [.str seed] (.ref 1) [.row 1 (strE (z22 seed 16))] := by
 refine z01 z0m 1 rfl Tryz.func107 rfl rfl rfl ?_
 repeat ((try conv => whnf); first | (refine stpQ ?_))
 refine z0h 0 ⟨[(3, .ref 1)], [(1, some (.row 1 (strE (z22 seed 16))))], 2⟩ Nat (fun b => ⟨[(0, .str seed), (3, .ref 1), (4, .int .i64 (b : Int))], [(1, some (.row 1 (strE (z22 seed b))))], 2⟩) (fun b => b ≤ 16) (fun b => 16 - b) 0 (by omega) ?_ ?_ ?_
 ·(refine z02 (by rfl) ?_ ?_) <;> (repeat' (first | (exact eqA) | (refine shE ?_) | (refine And.intro ?_ ?_))) <;> first | rfl | decide
 ·intro b hb
  by_cases hlt : b < 16
  ·have hb8 : (b : Int) < 16 := by omega
   have cs := zas seed b hs hlt
   have hnx := zdz seed b
   have hll := z3R seed b
   generalize z22 seed b = o at hnx hll ⊢
   generalize pubB seed b = k at cs hnx
   have hol := z0c o
   repeat ((try conv => whnf); first | (refine ccA ([]) (cs) ?_) | (refine And.intro (by simp [z0c]; omega) ?_) | (refine stpQ ?_))
   refine ⟨b + 1, by omega, by omega, ?_⟩
   rw [hnx]
   (refine z02 (by rfl) ?_ ?_) <;> (repeat' (first | (exact eqA) | (refine shE ?_) | (refine And.intro ?_ ?_)))
   rw [z0R]; rfl
  ·obtain rfl : b = 16 := by omega
   repeat ((try conv => whnf); first | (refine stpQ ?_))
   (refine z02 (by rfl) ?_ ?_) <;> (repeat' (first | (exact eqA) | (refine shE ?_) | (refine And.intro ?_ ?_)))
 ·repeat ((try conv => whnf); first | (refine stpQ ?_))
  (refine z00 (by rfl) ?_ ?_ (by rfl)) <;> (repeat' (first | (exact eqA) | (refine shE ?_) | (refine And.intro ?_ ?_)))
theorem c_sUp (l : List Bs) (hl : l.length ≤ 60) (hw : ∀ x ∈ l, x.length = 16) : CT Tryz.prog 151 [] [.sl 1 (strE l)] (.ref 1) [.row 1 (strE (upN l (l.length / 2)))] := by
 have hlen := z0c l
 refine z01 z0m 1 rfl Tryz.func151 rfl rfl rfl ?_
 repeat ((try conv => whnf); first | (refine stpQ ?_))
 refine z0h 0 ⟨[(3, .ref 1)], [(1, some (.row 1 (strE (upN l (l.length / 2)))))], 2⟩ Nat (fun k => ⟨[(0, .sl 1 (strE l)), (3, .ref 1), (4, .int .i64 ((2 * k : Nat) : Int))], [(1, some (.row 1 (strE (upN l k))))], 2⟩) (fun k => k ≤ l.length / 2) (fun k => l.length / 2 - k) 0 (by omega) ?_ ?_ ?_
 ·(refine z02 (by rfl) ?_ ?_) <;> (repeat' (first | (exact eqA) | (refine shE ?_) | (refine And.intro ?_ ?_))) <;> first | rfl | decide
 ·intro k hk
  by_cases hlt : k < l.length / 2
  ·have h0 : 2 * k < l.length := by omega
   have h1 : 2 * k + 1 < l.length := by omega
   have g0 := z0n h0
   have g1 := z0n h1
   have w0 := z1X hw h0
   have w1 := z1X hw h1
   have cs := z0U 3 [pAt l (2 * k), pAt l (2 * k + 1)] 16 (by omega) (z1U (by omega) (by omega)) (by omega)
   have hnx := zgq l k
   have hll := zff l k
   generalize upN l k = o at hnx hll ⊢
   generalize z14 3 [pAt l (2 * k), pAt l (2 * k + 1)] 16 = r at cs hnx
   generalize pAt l (2 * k) = u0 at g0 cs
   generalize pAt l (2 * k + 1) = u1 at g1 cs
   have hol := z0c o
   have e1 : IntKind.i64.wrap (((2 * k : Nat) : Int) + 1) = ((2 * k + 1 : Nat) : Int) := by rw [wrap_i64 (by omega) (by omega)]; omega
   have e2 : IntKind.i64.wrap (((2 * k : Nat) : Int) + 2) = ((2 * (k + 1) : Nat) : Int) := by rw [wrap_i64 (by omega) (by omega)]; omega
   have h2 : ((2 * k + 1 : Nat) : Int) < (l.length : Int) := by omega
   repeat ((try conv => whnf); first | (refine Exists.intro _ (And.intro e1.symm ?_)) | (refine Exists.intro l.length (And.intro hlen ?_)) | (refine i_at g0 ?_) | (refine i_at g1 ?_) | (refine ccA ([]) (cs) ?_) | (refine And.intro (by simp [z0c]; omega) ?_) | (refine Exists.intro _ (And.intro e2.symm ?_)) | (refine And.intro (by kernel_rfl) ?_) | (refine stpQ ?_))
   refine ⟨k + 1, by omega, by omega, ?_⟩
   rw [hnx]
   (refine z02 (by rfl) ?_ ?_) <;> (repeat' (first | (exact eqA) | (refine shE ?_) | (refine And.intro ?_ ?_)))
   rw [z0R]; rfl
  ·obtain rfl : k = l.length / 2 := by omega
   have e1 : IntKind.i64.wrap (((2 * (l.length / 2) : Nat) : Int) + 1) = ((2 * (l.length / 2) + 1 : Nat) : Int) := by rw [wrap_i64 (by omega) (by omega)]; omega
   have h2 : ¬ ((2 * (l.length / 2) + 1 : Nat) : Int) < (l.length : Int) := by omega
   repeat ((try conv => whnf); first | (refine Exists.intro _ (And.intro e1.symm ?_)) | (refine Exists.intro l.length (And.intro hlen ?_)) | (refine stpQ ?_))
   (refine z02 (by rfl) ?_ ?_) <;> (repeat' (first | (exact eqA) | (refine shE ?_) | (refine And.intro ?_ ?_)))
 ·repeat ((try conv => whnf); first | (refine stpQ ?_))
  (refine z00 (by rfl) ?_ ?_ (by rfl)) <;> (repeat' (first | (exact eqA) | (refine shE ?_) | (refine And.intro ?_ ?_)))
end Go.Proofs.YtgmbkbggnlponaaGreatDoor
namespace Go.Proofs.YtgmbkbggnlponaaGreatDoor
set_option maxRecDepth 100000
set_option maxHeartbeats 8000000
set_option linter.unusedVariables false
set_option linter.unusedSimpArgs false
set_option linter.unusedSectionVars false
open Go.RowKit Pl
attribute [local irreducible] z0t z0u z0y AnsP LeP
theorem z7b (l : List Bs) (hl : l.length = 16) (hw : ∀ x ∈ l, x.length = 16) : CT Tryz.prog 109 [] [.sl 1 (strE l)] (.str (z6Y l)) [] := by
 have hlen := z0c l
 refine z01 z0m 1 rfl Tryz.func109 rfl rfl rfl ?_
 repeat ((try conv => whnf); first | (refine Exists.intro 16 (And.intro (hlen.trans hl) ?_)) | (refine And.intro (by rw [List.length_append, hlen, hl]; simp) ?_) | (refine stpQ ?_))
 refine z0h 0 ⟨[(3, .sl 1 (strE (lvlB l 4)))], [], 1⟩ Nat (fun j => ⟨[(3, .sl 1 (strE (lvlB l j)))], [], 1⟩) (fun j => j ≤ 4) (fun j => 4 - j) 0 (by omega) ?_ ?_ ?_
 ·(refine z02 (by rfl) ?_ ?_) <;> (repeat' (first | (exact eqA) | (refine shE ?_) | (refine And.intro ?_ ?_))) <;> first | rfl | decide
 ·intro j hj
  have hL := z3p hl j
  have hW := z4Z hw j
  by_cases hlt : j < 4
  ·have h2 : 2 ≤ 16 / 2 ^ j := by
    rcases (by omega : j = 0 ∨ j = 1 ∨ j = 2 ∨ j = 3) with rfl | rfl | rfl | rfl <;> decide
   have h16 : 16 / 2 ^ j ≤ 16 := Nat.div_le_self _ _
   have hnx : lvlB l (j + 1) = upN (lvlB l j) ((lvlB l j).length / 2) := rfl
   have cu := c_sUp (lvlB l j) (by omega) hW
   generalize lvlB l j = o at hL cu hnx ⊢
   have ho := z0c o
   have h3 : (o.length : Int) > 1 := by omega
   repeat ((try conv => whnf); first | (refine Exists.intro o.length (And.intro ho ?_)) | (refine ccA ([]) (cu) ?_) | (refine stpQ ?_))
   refine ⟨j + 1, by omega, by omega, ?_⟩
   rw [hnx]
   (refine z02 (by rfl) ?_ ?_) <;> (repeat' (first | (exact eqA) | (refine shE ?_) | (refine And.intro ?_ ?_)))
  ·obtain rfl : j = 4 := by omega
   generalize lvlB l 4 = o at hL ⊢
   have ho := z0c o
   repeat ((try conv => whnf); first | (refine Exists.intro 1 (And.intro (ho.trans hL) ?_)) | (refine stpQ ?_))
   (refine z02 (by rfl) ?_ ?_) <;> (repeat' (first | (exact eqA) | (refine shE ?_) | (refine And.intro ?_ ?_)))
 ·have hL := z3p hl 4
  unfold z6Y
  generalize lvlB l 4 = o at hL ⊢
  have g := z0n (ps := o) (k := 0) (by omega)
  repeat ((try conv => whnf); first | (refine i_at g ?_) | (refine Exists.intro 0 (Exists.intro _ (And.intro rfl (And.intro g ?_)))) | (refine stpQ ?_))
  (refine z00 (by rfl) ?_ ?_ (by rfl)) <;> (repeat' (first | (exact eqA) | (refine shE ?_) | (refine And.intro ?_ ?_)))
theorem z7c (t : Bs) (ht : t.length ≤ 200) : CT Tryz.prog 138 [] [.str t] (.int .i64 (sbB t : Int)) [] := by
 have c1 := z0U 7 [t] 16 (by omega) (z56 ht) (by omega)
 have hl := z0X (k := 7) (ps := [t]) (w := 16) (by omega)
 unfold sbB
 generalize z14 7 [t] 16 = d at c1 hl ⊢
 obtain ⟨x, xs, rfl⟩ := z4v hl
 have h1 := z4T x
 have h0 : 0 < (x :: xs).length := by omega
 have hne : ¬ ((x :: xs : Bs) = []) := fun h => by cases h
 refine z01 z0m 1 rfl Tryz.func138 rfl rfl rfl ?_
 repeat ((try conv => whnf); first | (refine ccA ([]) (c1) ?_) | (refine z0k hne ?_) | (refine Exists.intro 0 (And.intro rfl (And.intro h0 ?_))) | (refine Exists.intro _ (And.intro h1.symm ?_)) | (refine stpQ ?_))
 (refine z00 (by rfl) ?_ ?_ (by rfl)) <;> (repeat' (first | (exact eqA) | (refine shE ?_) | (refine And.intro ?_ ?_)))
 all_goals rfl
theorem zat (ix b : Nat) (hix : ix < 256) (hb : b < 8) : CT Tryz.prog 81 [] [.int .i64 (ix : Int), .int .i64 (b : Int)] (.int .i64 ((sbit ix b : Nat) : Int)) [] := by
 have := z93 ix (7 - b) hix (by omega)
 rwa [show (7 : Int) - ((7 - b : Nat) : Int) = (b : Int) by omega] at this
theorem zfs (seed : Bs) (pool : List Bs) (a : Nat) (text : Bs) (hs : seed.length ≤ 100) (ha : a < 16) (hl : pool.length = 16) (hw : ∀ x ∈ pool, x.length = 16) (hp : pAt pool a = pubB seed a) (ht : text.length ≤ 200) :
 CT Tryz.prog 159 [] [.str seed, .sl 1 (strE pool), .int .i64 (a : Int), .str text] (.tup [.agg (sgE (z3c seed pool a text)), .bool true]) [] := by
 have hlen := z0c pool
 have c1 := z7y (x := (a : Int)) (lo := 0) (hi := 15) (by omega)
 have c2 := zas seed a hs ha
 have hpl := zcF seed a
 have ga := z0n (show a < pool.length by omega)
 rw [hp] at ga
 generalize pubB seed a = pk at c2 ga hpl
 obtain ⟨x, xs, rfl⟩ := z4v hpl
 have c3 := z7c text ht
 have hix := zfg text
 have htl : (text.length : Int) ≤ 200 := by omega
 show CT _ _ _ _ (.tup [.agg [.int .i64 (a : Int), .sl 1 (strE (z3S seed a (sbB text) 8)), .sl 1 (strE (z3T seed a (sbB text) 8)), .sl 1 (strE (z5r pool a 4))], .bool true]) _
 generalize sbB text = ix at c3 hix ⊢
 refine z01 z0d 1 rfl Tryz.func159 rfl rfl rfl ?_
 have hne : ¬ ((x :: xs : Bs) = []) := fun h => by cases h
 have her : (x :: xs : Bs) = x :: xs := rfl
 repeat ((try conv => whnf); first | (refine z0k hne ?_) | (refine z1C her ?_) | (refine Exists.intro 16 (And.intro (hlen.trans hl) ?_)) | (refine ccA ([]) (c1) ?_) | (refine ccA ([]) (c2) ?_) | (refine i_at ga ?_) | (refine ccA ([]) (c3) ?_) | (refine stpQ ?_))
 refine z0h 0 ⟨[(1, .sl 1 (strE pool)), (2, .int .i64 (a : Int)), (8, .ptr 1 0 0), (9, .bool false), (11, .ptr 2 0 0)], [(1, some (.box [.int .i64 0, .val nilV, .val nilV, .val nilV])), (2, some (.box [.int .i64 (a : Int), .ref 3, .ref 4, .val nilV])), (3, some (.row 1 (strE (z3S seed a ix 8)))), (4, some (.row 1 (strE (z3T seed a ix 8))))], 5⟩ Nat (fun b => ⟨[(0, .str seed), (1, .sl 1 (strE pool)), (2, .int .i64 (a : Int)), (8, .ptr 1 0 0), (9, .bool false), (11, .ptr 2 0 0), (12, .int .i64 (ix : Int)), (13, .int .i64 (b : Int))], [(1, some (.box [.int .i64 0, .val nilV, .val nilV, .val nilV])), (2, some (.box [.int .i64 (a : Int), .ref 3, .ref 4, .val nilV])), (3, some (.row 1 (strE (z3S seed a ix b)))), (4, some (.row 1 (strE (z3T seed a ix b))))], 5⟩) (fun b => b ≤ 8) (fun b => 8 - b) 0 (by omega) ?_ ?_ ?_
 ·(refine z02 (by rfl) ?_ ?_) <;> (repeat' (first | (exact eqA) | (refine shE ?_) | (refine And.intro ?_ ?_))) <;> first | rfl | decide
 ·intro b hb
  by_cases hlt : b < 8
  ·have hb8 : (b : Int) < 8 := by omega
   have cb := zat ix b hix hlt
   have hv := zbC ix b
   have n1 := zdA seed a ix b
   have n2 := zdB seed a ix b
   have l1 := zac seed a ix b
   have l2 := zad seed a ix b
   generalize sbit ix b = v at cb hv n1 n2
   have ev : IntKind.i64.wrap (1 - (v : Int)) = ((1 - v : Nat) : Int) := by rw [wrap_i64 (by omega) (by omega)]; omega
   have k1 := z7a seed a b v hs ha hlt hv
   have k2 := z7a seed a b (1 - v) hs ha hlt (by omega)
   have k2l := z94 seed a b (1 - v)
   have k3 := zbI (secB seed a b (1 - v)) (by omega)
   clear k2l
   generalize z3z (secB seed a b (1 - v)) = y3 at k3 n2
   generalize secB seed a b (1 - v) = y2 at k2 k3
   generalize secB seed a b v = y1 at k1 n1
   generalize z3S seed a ix b = o1 at n1 l1 ⊢
   generalize z3T seed a ix b = o2 at n2 l2 ⊢
   have ho1 := z0c o1
   have ho2 := z0c o2
   repeat ((try conv => whnf); first | (refine ccA ([]) (cb) ?_) | (refine ccA ([]) (k1) ?_) | (refine Exists.intro _ (And.intro ev.symm ?_)) | (refine ccA ([]) (k2) ?_) | (refine ccA ([]) (k3) ?_) | (refine And.intro (by simp [z0c]; omega) ?_) | (refine And.intro (by kernel_rfl) ?_) | (refine stpQ ?_))
   refine ⟨b + 1, by omega, by omega, ?_⟩
   rw [n1, n2]
   (refine z02 (by rfl) ?_ ?_) <;> (repeat' (first | (exact eqA) | (refine shE ?_) | (refine And.intro ?_ ?_)))
   ·rw [z0R]; rfl
   ·rw [z0R]; rfl
  ·obtain rfl : b = 8 := by omega
   repeat ((try conv => whnf); first | (refine stpQ ?_))
   (refine z02 (by rfl) ?_ ?_) <;> (repeat' (first | (exact eqA) | (refine shE ?_) | (refine And.intro ?_ ?_)))
 ·generalize z3S seed a ix 8 = o1
  generalize z3T seed a ix 8 = o2
  repeat ((try conv => whnf); first | (refine And.intro (by rw [List.length_append, hlen, hl]; simp) ?_) | (refine stpQ ?_))
  refine z0h 2 ⟨[(8, .ptr 1 0 0), (9, .bool false), (11, .ptr 2 0 0)], [(1, some (.box [.int .i64 0, .val nilV, .val nilV, .val nilV])), (2, some (.box [.int .i64 (a : Int), .ref 3, .ref 4, .ref 5])), (3, some (.row 1 (strE o1))), (4, some (.row 1 (strE o2))), (5, some (.row 1 (strE (z5r pool a 4))))], 6⟩ Nat (fun j => ⟨[(8, .ptr 1 0 0), (9, .bool false), (11, .ptr 2 0 0), (15, .sl 1 (strE (lvlB pool j))), (16, .int .i64 ((a / 2 ^ j : Nat) : Int))], [(1, some (.box [.int .i64 0, .val nilV, .val nilV, .val nilV])), (2, some (.box [.int .i64 (a : Int), .ref 3, .ref 4, .ref 5])), (3, some (.row 1 (strE o1))), (4, some (.row 1 (strE o2))), (5, some (.row 1 (strE (z5r pool a j))))], 6⟩) (fun j => j ≤ 4) (fun j => 4 - j) 0 (by omega) ?_ ?_ ?_
  ·(refine z02 (by rfl) ?_ ?_) <;> (repeat' (first | (exact eqA) | (refine shE ?_) | (refine And.intro ?_ ?_))) <;> first | rfl | decide
   all_goals (simp; done)
  ·intro j hj
   have hL := z3p hl j
   have hW := z4Z hw j
   by_cases hlt : j < 4
   ·have h2 : 2 ≤ 16 / 2 ^ j := by
     rcases (by omega : j = 0 ∨ j = 1 ∨ j = 2 ∨ j = 3) with rfl | rfl | rfl | rfl <;> decide
    have h16 : 16 / 2 ^ j ≤ 16 := Nat.div_le_self _ _
    have hnx : lvlB pool (j + 1) = upN (lvlB pool j) ((lvlB pool j).length / 2) := rfl
    have hsn := zdC pool a j
    have hsl := zae pool a j
    have hsi := zhb ha hlt
    have ek : a / 2 ^ (j + 1) = a / 2 ^ j / 2 := by rw [Nat.pow_succ, Nat.div_div_eq_div_mul]
    have hk : a / 2 ^ j < 256 := Nat.lt_of_le_of_lt (Nat.div_le_self _ _) (by omega)
    have eb := zcC (a / 2 ^ j) hk
    have cu := c_sUp (lvlB pool j) (by omega) hW
    have gs := z0n (ps := lvlB pool j) (k := sib (a / 2 ^ j)) (by omega)
    generalize lvlB pool j = o at hL cu hnx gs hsn ⊢
    generalize a / 2 ^ j = k at ek hk eb gs hsi hsn ⊢
    generalize pAt o (sib k) = y at gs hsn
    generalize z5r pool a j = o3 at hsn hsl ⊢
    have ho := z0c o
    have ho3 := z0c o3
    have h3 : (o.length : Int) > 1 := by omega
    repeat ((try conv => whnf); first | (refine Exists.intro o.length (And.intro ho ?_)) | (refine Exists.intro _ (And.intro eb.symm ?_)) | (refine i_at gs ?_) | (refine And.intro (by simp [z0c]; omega) ?_) | (refine And.intro (by kernel_rfl) ?_) | (refine ccA ([]) (cu) ?_) | (refine zh5 (n := nat_lit 2) (by omega) ?_) | (refine stpQ ?_))
    refine ⟨j + 1, by omega, by omega, ?_⟩
    rw [hnx, hsn, ek]
    (refine z02 (by rfl) ?_ ?_) <;> (repeat' (first | (exact eqA) | (refine shE ?_) | (refine And.intro ?_ ?_)))
    rw [z0R]; rfl
   ·obtain rfl : j = 4 := by omega
    generalize lvlB pool 4 = o at hL ⊢
    have ho := z0c o
    repeat ((try conv => whnf); first | (refine Exists.intro 1 (And.intro (ho.trans hL) ?_)) | (refine stpQ ?_))
    (refine z02 (by rfl) ?_ ?_) <;> (repeat' (first | (exact eqA) | (refine shE ?_) | (refine And.intro ?_ ?_)))
  ·repeat ((try conv => whnf); first | (refine And.intro (by kernel_rfl) ?_) | (refine stpQ ?_))
   (refine z00 (by rfl) ?_ ?_ (by rfl)) <;> (repeat' (first | (exact eqA) | (refine shE ?_) | (refine And.intro ?_ ?_)))
theorem z7d (h : Hd) (g : h.good) : CT Tryz.prog 77 [] [.agg (hdE h)] (.bool true) [] := by
 obtain ⟨ho, ep, ro, pr⟩ := h
 obtain ⟨h1, h2, h3, h4, h5⟩ := g
 simp only at h1 h2 h3 h4 h5
 have c1 := z7y (x := (ho : Int)) (lo := 0) (hi := 2) (by omega)
 have c2 := z7y (x := (ep : Int)) (lo := 1) (hi := 4) (by omega)
 have hr : (ro.length : Int) = 16 := by omega
 by_cases he : ep = 1
 ·rw [if_pos he] at h5
  subst he h5
  refine z01 z0d 1 rfl Tryz.func77 rfl rfl rfl ?_
  repeat ((try conv => whnf); first | (refine ccA ([]) (c1) ?_) | (refine ccA ([]) (c2) ?_) | (refine stpQ ?_))
  (refine z00 (by rfl) ?_ ?_ (by rfl)) <;> (repeat' (first | (exact eqA) | (refine shE ?_) | (refine And.intro ?_ ?_))) <;> first | rfl | decide
 ·rw [if_neg he] at h5
  have he2 : ¬ (ep : Int) = 1 := by omega
  have hq : (pr.length : Int) = 16 := by omega
  refine z01 z0d 1 rfl Tryz.func77 rfl rfl rfl ?_
  repeat ((try conv => whnf); first | (refine ccA ([]) (c1) ?_) | (refine ccA ([]) (c2) ?_) | (refine stpQ ?_))
  (refine z00 (by rfl) ?_ ?_ (by rfl)) <;> (repeat' (first | (exact eqA) | (refine shE ?_) | (refine And.intro ?_ ?_))) <;> first | rfl | (exact decide_eq_true hq) | simp [hq]
theorem z4w (h : Hd) (g : h.good) : CT Tryz.prog 140 [] [.agg (hdE h)] (.tup [.str (z0P h), .bool true]) [] := by
 have c1 := z7d h g
 obtain ⟨ho, ep, ro, pr⟩ := h
 obtain ⟨h1, h2, h3, h4, h5⟩ := g
 simp only at h1 h2 h3 h4 h5
 have hq : pr.length ≤ 16 := by
  split at h5
  ·rw [h5]; simp
  ·omega
 refine z01 z0d 1 rfl Tryz.func140 rfl rfl rfl ?_
 repeat ((try conv => whnf); first | (refine ccA ([]) (c1) ?_) | (refine w_u8 ?_) | (refine Exists.intro [UInt8.ofNat ho, UInt8.ofNat ep] (And.intro rfl ?_)) | (refine And.intro (by simp; omega) ?_) | (refine stpQ ?_))
 (refine z00 (by rfl) ?_ ?_ (by rfl)) <;> (repeat' (first | (exact eqA) | (refine shE ?_) | (refine And.intro ?_ ?_))) <;> rfl
theorem z4x (h : Hd) (g : h.good) : CT Tryz.prog 80 [] [.agg (hdE h)] (.str (z1k h)) [] := by
 have c1 := z4w h g
 have hl := z0N g
 have c2 := z0U 4 [z0P h] 16 (by omega) (z56 (by omega)) (by omega)
 unfold z1k
 generalize z14 4 [z0P h] 16 = R at c2 ⊢
 generalize z0P h = t at c1 c2
 refine z01 z0d 1 rfl Tryz.func80 rfl rfl rfl ?_
 repeat ((try conv => whnf); first | (refine ccA ([]) (c1) ?_) | (refine ccA ([]) (c2) ?_) | (refine stpQ ?_))
 (refine z00 (by rfl) ?_ ?_ (by rfl)) <;> (repeat' (first | (exact eqA) | (refine shE ?_) | (refine And.intro ?_ ?_)))
theorem zau (h : Hd) : (z1k h).length = 16 := z0X (by omega)
theorem z8a (h : Hd) : (z1l h).length = 16 := z0X (by omega)
theorem zav (ep : Nat) (h : 1 ≤ ep ∧ ep ≤ 4) : CT Tryz.prog 78 [] [.int .i64 (ep : Int)] (.int .i64 ((ep - 1 : Nat) : Int)) [] := by
 have c2 := z7y (x := (ep : Int)) (lo := 1) (hi := 4) (by omega)
 have e : IntKind.i64.wrap ((ep : Int) - 1) = ((ep - 1 : Nat) : Int) := by rw [wrap_i64 (by omega) (by omega)]; omega
 refine z01 z0d 1 rfl Tryz.func78 rfl rfl rfl ?_
 repeat ((try conv => whnf); first | (refine ccA ([]) (c2) ?_) | (refine Exists.intro _ (And.intro e.symm ?_)) | (refine stpQ ?_))
 (refine z00 (by rfl) ?_ ?_ (by rfl)) <;> (repeat' (first | (exact eqA) | (refine shE ?_) | (refine And.intro ?_ ?_)))
theorem z8b (ho ep : Nat) (h1 : ho ≤ 2) (h : 1 ≤ ep ∧ ep ≤ 4) : CT Tryz.prog 86 [] [.int .i64 (ho : Int), .int .i64 (ep : Int)] (.int .i64 ((4 * (ho + 1) + ep - 1 : Nat) : Int)) [] := by
 have c1 := z7y (x := (ho : Int)) (lo := 0) (hi := 2) (by omega)
 have c2 := z7y (x := (ep : Int)) (lo := 1) (hi := 4) (by omega)
 obtain ⟨u1, hu1⟩ : ∃ u : Nat, u = ho + 1 := ⟨_, rfl⟩
 obtain ⟨u2, hu2⟩ : ∃ u : Nat, u = 4 * u1 := ⟨_, rfl⟩
 obtain ⟨u3, hu3⟩ : ∃ u : Nat, u = u2 + ep := ⟨_, rfl⟩
 obtain ⟨u4, hu4⟩ : ∃ u : Nat, u = u3 - 1 := ⟨_, rfl⟩
 have e1 : IntKind.i64.wrap ((ho : Int) + 1) = (u1 : Int) := by rw [wrap_i64 (by omega) (by omega)]; omega
 have e2 : IntKind.i64.wrap (4 * (u1 : Int)) = (u2 : Int) := by rw [wrap_i64 (by omega) (by omega)]; omega
 have e3 : IntKind.i64.wrap ((u2 : Int) + (ep : Int)) = (u3 : Int) := by rw [wrap_i64 (by omega) (by omega)]; omega
 have e4 : IntKind.i64.wrap ((u3 : Int) - 1) = (u4 : Int) := by rw [wrap_i64 (by omega) (by omega)]; omega
 rw [show 4 * (ho + 1) + ep - 1 = u4 by omega]
 clear hu1 hu2 hu3 hu4
 refine z01 z0d 1 rfl Tryz.func86 rfl rfl rfl ?_
 repeat ((try conv => whnf); first | (refine ccA ([]) (c1) ?_) | (refine ccA ([]) (c2) ?_) | (refine Exists.intro _ (And.intro e1.symm ?_)) | (refine Exists.intro _ (And.intro e2.symm ?_)) | (refine Exists.intro _ (And.intro e3.symm ?_)) | (refine Exists.intro _ (And.intro e4.symm ?_)) | (refine stpQ ?_))
 (refine z00 (by rfl) ?_ ?_ (by rfl)) <;> (repeat' (first | (exact eqA) | (refine shE ?_) | (refine And.intro ?_ ?_)))
theorem zaw (h : Hd) (g : h.good) : CT Tryz.prog 87 [] [.agg (hdE h)] (.str (z1l h)) [] := by
 have c1 := z4x h g
 have hl := zau h
 have c2 := z0U 8 [z1k h] 16 (by omega) (z56 (by omega)) (by omega)
 unfold z1l
 generalize z14 8 [z1k h] 16 = R at c2 ⊢
 clear hl
 generalize z1k h = t at c1 c2
 refine z01 z0d 1 rfl Tryz.func87 rfl rfl rfl ?_
 repeat ((try conv => whnf); first | (refine ccA ([]) (c1) ?_) | (refine ccA ([]) (c2) ?_) | (refine stpQ ?_))
 (refine z00 (by rfl) ?_ ?_ (by rfl)) <;> (repeat' (first | (exact eqA) | (refine shE ?_) | (refine And.intro ?_ ?_)))
theorem zft (seed : Bs) (h : Hd) (hs : seed.length ≤ 100) (g : h.good) : CT Tryz.prog 116 [] [.str seed, .sl 1 (strE (z22 seed 16)), .agg (hdE h)] (.tup [.agg (hdE h ++ sgE (z3c seed (z22 seed 16) (h.ep - 1) (z1k h))), .bool true]) [] := by
 have c1 := z7d h g
 have c2 := z4x h g
 have hl := zau h
 obtain ⟨h1, h2, h3, h4, h5⟩ := g
 have c3 := zav h.ep ⟨h2, h3⟩
 have c4 := zfs seed (z22 seed 16) (h.ep - 1) (z1k h) hs (by omega) (z3R _ _) z5q (z95 (by omega)) (by omega)
 clear hl
 obtain ⟨ho, ep, ro, pr⟩ := h
 generalize z3c seed (z22 seed 16) _ _ = S at c4 ⊢
 generalize z22 seed 16 = P at c4 ⊢
 generalize z1k _ = H at c2 c4
 refine z01 z0d 1 rfl Tryz.func116 rfl rfl rfl ?_
 repeat ((try conv => whnf); first | (refine ccA ([]) (c1) ?_) | (refine ccA ([]) (c3) ?_) | (refine ccA ([]) (c2) ?_) | (refine z29 ([]) (c4) (by ((repeat' (first | (exact trivial) | (exact rfl) | (refine And.intro ?_ ?_))); first | done | fail)) (by ((repeat' (first | (exact trivial) | (exact rfl) | (refine And.intro ?_ ?_))); first | done | fail)) (by decide) (by rfl) (by first | exact .inl rfl | (refine .inr ⟨by simp [own2, own1, own0], fun e he => ?_⟩; simp only [List.mem_cons, List.not_mem_nil, or_false] at he <;> first | exact he.elim | (subst he; (first | exact z0C _ | exact z0q _)) | (rcases he with rfl | rfl <;> (first | exact z0C _ | exact z0q _)))) ?_) | (refine And.intro (by kernel_rfl) ?_) | (refine stpQ ?_))
 (refine z00 (by rfl) ?_ ?_ (by rfl)) <;> (repeat' (first | (exact eqA) | (refine shE ?_) | (refine And.intro ?_ ?_)))
theorem zcN (seed : Bs) (h : Hd) (hs : seed.length ≤ 100) (g : h.good) : CT Tryz.prog 117 [] [.str seed, .sl 1 (strE (z22 seed 16)), .agg (hdE h)] (.tup [.agg (sgE (z3c seed (z22 seed 16) (4 * (h.ho + 1) + h.ep - 1) (z1l h))), .bool true]) [] := by
 have c1 := z7d h g
 have c2 := zaw h g
 have hl := z8a h
 obtain ⟨h1, h2, h3, h4, h5⟩ := g
 have c3 := z8b h.ho h.ep h1 ⟨h2, h3⟩
 have c4 := zfs seed (z22 seed 16) (4 * (h.ho + 1) + h.ep - 1) (z1l h) hs (by omega) (z3R _ _) z5q (z95 (by omega)) (by omega)
 clear hl
 obtain ⟨ho, ep, ro, pr⟩ := h
 generalize z3c seed (z22 seed 16) _ _ = S at c4 ⊢
 generalize z22 seed 16 = P at c4 ⊢
 generalize z1l _ = H at c2 c4
 refine z01 z0d 1 rfl Tryz.func117 rfl rfl rfl ?_
 repeat ((try conv => whnf); first | (refine ccA ([]) (c1) ?_) | (refine ccA ([]) (c3) ?_) | (refine ccA ([]) (c2) ?_) | (refine z29 ([]) (c4) (by ((repeat' (first | (exact trivial) | (exact rfl) | (refine And.intro ?_ ?_))); first | done | fail)) (by ((repeat' (first | (exact trivial) | (exact rfl) | (refine And.intro ?_ ?_))); first | done | fail)) (by decide) (by rfl) (by first | exact .inl rfl | (refine .inr ⟨by simp [own2, own1, own0], fun e he => ?_⟩; simp only [List.mem_cons, List.not_mem_nil, or_false] at he <;> first | exact he.elim | (subst he; (first | exact z0C _ | exact z0q _)) | (rcases he with rfl | rfl <;> (first | exact z0C _ | exact z0q _)))) ?_) | (refine And.intro (by kernel_rfl) ?_) | (refine stpQ ?_))
 (refine z00 (by rfl) ?_ ?_ (by rfl)) <;> (repeat' (first | (exact eqA) | (refine shE ?_) | (refine And.intro ?_ ?_)))
theorem z7e (i : Nat) (h : i < 10) : CT Tryz.prog 108 [] [.int .i64 (i : Int)] (.str (z26 i)) [] := by
 refine z01 z0d 1 rfl Tryz.func108 rfl rfl rfl ?_
 repeat ((try conv => whnf); first | (refine zh6 (by omega) ?_) | (refine w_u8 ?_) | (refine Exists.intro [UInt8.ofNat (48 + i)] (And.intro rfl ?_)) | (refine And.intro (by simp) ?_) | (refine stpQ ?_))
 (refine z00 (by rfl) ?_ ?_ (by rfl)) <;> (repeat' (first | (exact eqA) | (refine shE ?_) | (refine And.intro ?_ ?_)))
 rfl
theorem zax (c : Bs) (i : Nat) (h : Int) (hc : (c.length : Int) ≤ 1048576) (hi : i ≤ c.length) : ∃ (r : Bs) (i' : Nat) (h' : Int), r.length = 16 ∧ i' ≤ c.length ∧ CT Tryz.prog 113 [curE c i h] [.ptr 1 0 0] (.str r) [curE c i' h'] := by
 obtain ⟨s, i1, h1, hs, hi1, k1⟩ := zcK c i h 2 hc hi (by omega)
 have k2 := z6V s 16 (by omega) (by omega)
 refine ⟨cutB s 16, i1, h1, z1M (by omega), hi1, ?_⟩
 generalize cutB s 16 = r at k2 ⊢
 refine z01 z0d 2 rfl Tryz.func113 rfl rfl rfl ?_
 repeat ((try conv => whnf); first | (refine ccB ([1]) (k1) ?_) | (refine ccA ([]) (k2) ?_) | (refine stpQ ?_))
 (refine z00 (by rfl) ?_ ?_ (by rfl)) <;> (repeat' (first | (exact eqA) | (refine shE ?_) | (refine And.intro ?_ ?_)))
end Go.Proofs.YtgmbkbggnlponaaGreatDoor
