/- Functions by content: the reference's one-time keys, pools, and signatures. Functions by content: the reference signs; heads, seals and stamps. -/
import Derived.Test.YtkjjacndfieeoaaGreatDoorPs
namespace Go.Proofs.YtkjjacndfieeoaaGreatDoor
set_option maxRecDepth 100000
set_option maxHeartbeats 8000000
set_option linter.unusedVariables false
set_option linter.unusedSimpArgs false
set_option linter.unusedSectionVars false
open Go.RowKit Pl
attribute [local irreducible] z0m z0n z0q AnsP LeP
theorem z3W {l : Bs} (h : l.length = 16) : ∃ x xs, l = x :: xs := by
 cases l with
 | nil => cases h
 | cons x xs => exact ⟨x, xs, rfl⟩
theorem z6C {a : Bs} (ha : a.length ≤ 200) : z0Q [a] := ⟨by simp, fun p h => by rw [List.mem_singleton.1 h]; exact ha⟩
theorem z4Q {l : List Bs} (hn : l.length ≤ 60) (h : ∀ x ∈ l, x.length = 16) : z0Q l := ⟨hn, fun p hp => by have := h p hp; omega⟩
theorem z8M {x lo hi : Int} (h : lo ≤ x ∧ x ≤ hi) : CT Tryz.prog 42 [] [.int .i64 x, .int .i64 lo, .int .i64 hi] (.bool true) [] := by
 have := z0U x lo hi
 rwa [z0u.2 h] at this
theorem z6D (seed : Bs) (a b v : Nat) (hs : seed.length ≤ 100) (ha : a < 16) (hb : b < 8) (hv : v < 2) : CT Tryz.prog 161 [] [.str seed, .int .i64 (a : Int), .int .i64 (b : Int), .int .i64 (v : Int)] (.str (secB seed a b v)) [] := by
 have c1 := z8M (x := (a : Int)) (lo := 0) (hi := 15) (by omega)
 have c2 := z8M (x := (b : Int)) (lo := 0) (hi := 7) (by omega)
 have c3 := z8M (x := (v : Int)) (lo := 0) (hi := 1) (by omega)
 have c4 := z1b 5 [seed, [UInt8.ofNat a, UInt8.ofNat b, UInt8.ofNat v]] 16 (by omega) (z3h (by omega) (by simp)) (by omega)
 unfold secB
 generalize z1a 5 [seed, [UInt8.ofNat a, UInt8.ofNat b, UInt8.ofNat v]] 16 = R at c4 ⊢
 refine z01 z0A 1 rfl Tryz.func161 rfl rfl rfl ?_
 repeat ((try conv => whnf); first | (refine ccA ([]) (c1) ?_) | (refine ccA ([]) (c2) ?_) | (refine ccA ([]) (c3) ?_) | (refine w_u8 ?_) | (refine Exists.intro [UInt8.ofNat a, UInt8.ofNat b, UInt8.ofNat v] (And.intro rfl ?_)) | (refine ccA ([]) (c4) ?_) | (refine stpQ ?_))
 (refine z00 (by rfl) ?_ ?_ (by rfl)) <;> (repeat' (first | (exact eqA) | (refine shE ?_) | (refine And.intro ?_ ?_)))
theorem zb2 (s : Bs) (hs : s.length ≤ 200) : CT Tryz.prog 86 [] [.str s] (.str (z30 s)) [] := by
 have c4 := z1b 6 [s] 16 (by omega) (z6C hs) (by omega)
 unfold z30
 generalize z1a 6 [s] 16 = R at c4 ⊢
 refine z01 z0A 1 rfl Tryz.func86 rfl rfl rfl ?_
 repeat ((try conv => whnf); first | (refine ccA ([]) (c4) ?_) | (refine stpQ ?_))
 (refine z00 (by rfl) ?_ ?_ (by rfl)) <;> (repeat' (first | (exact eqA) | (refine shE ?_) | (refine And.intro ?_ ?_)))
theorem z9Z (seed : Bs) (a : Nat) (hs : seed.length ≤ 100) (ha : a < 16) : CT Tryz.prog 126 [] [.str seed, .int .i64 (a : Int)] (.str (pubB seed a)) [] := by
 have cT := z1b 6 (z1j seed a 16) 16 (by omega) (z4Q (by rw [z3u]; omega) z6s) (by omega)
 unfold pubB
 generalize z1a 6 (z1j seed a 16) 16 = R at cT ⊢
 refine z01 z0A 1 rfl Tryz.func126 rfl rfl rfl ?_
 repeat ((try conv => whnf); first | (refine stpQ ?_))
 refine z0i 0 ⟨[(5, .ref 1)], [(1, some (.row 1 (strE (z1j seed a 16))))], 2⟩ Nat (fun b => ⟨[(0, .str seed), (1, .int .i64 (a : Int)), (5, .ref 1), (6, .int .i64 (b : Int))], [(1, some (.row 1 (strE (z1j seed a (2 * b)))))], 2⟩) (fun b => b ≤ 8) (fun b => 8 - b) 0 (by omega) ?_ ?_ ?_
 ·(refine z02 (by rfl) ?_ ?_) <;> (repeat' (first | (exact eqA) | (refine shE ?_) | (refine And.intro ?_ ?_))) <;> first | rfl | decide
 ·intro b hb
  by_cases hlt : b < 8
  ·have hb8 : (b : Int) < 8 := by omega
   repeat ((try conv => whnf); first | (refine stpQ ?_))
   refine z0i 2 ⟨[(0, .str seed), (1, .int .i64 (a : Int)), (5, .ref 1), (6, .int .i64 (b : Int))], [(1, some (.row 1 (strE (z1j seed a (2 * (b + 1))))))], 2⟩ Nat (fun v => ⟨[(0, .str seed), (1, .int .i64 (a : Int)), (5, .ref 1), (6, .int .i64 (b : Int)), (7, .int .i64 (v : Int))], [(1, some (.row 1 (strE (z1j seed a (2 * b + v)))))], 2⟩) (fun v => v ≤ 2) (fun v => 2 - v) 0 (by omega) ?_ ?_ ?_
   ·(refine z02 (by rfl) ?_ ?_) <;> (repeat' (first | (exact eqA) | (refine shE ?_) | (refine And.intro ?_ ?_))) <;> first | rfl | decide
   ·intro v hv
    by_cases hv2 : v < 2
    ·have hv3 : (v : Int) < 2 := by omega
     have cs := z6D seed a b v hs ha hlt hv2
     have hsl := z4m seed a b v
     have cl := zb2 (secB seed a b v) (by omega)
     have hnx := z2R seed a (2 * b + v)
     have e1 : (2 * b + v) / 2 = b := by omega
     have e2 : (2 * b + v) % 2 = v := by omega
     rw [e1, e2] at hnx
     have hll := z3u seed a (2 * b + v)
     generalize z1j seed a (2 * b + v) = o at hnx hll ⊢
     generalize z30 (secB seed a b v) = k at cl hnx
     obtain ⟨x, xs, hx⟩ := z3W hsl
     rw [hx] at cs cl
     clear hsl hx
     have hol := z0d o
     have hne : ¬ ((x :: xs : Bs) = []) := fun h => by cases h
     repeat ((try conv => whnf); first | (refine ccA ([]) (cs) ?_) | (refine z0o hne ?_) | (refine ccA ([]) (cl) ?_) | (refine And.intro (by simp [z0d]; omega) ?_) | (refine stpQ ?_))
     refine ⟨v + 1, by omega, by omega, ?_⟩
     rw [show 2 * b + (v + 1) = 2 * b + v + 1 by omega, hnx]
     (refine z02 (by rfl) ?_ ?_) <;> (repeat' (first | (exact eqA) | (refine shE ?_) | (refine And.intro ?_ ?_)))
     rw [z1m]; rfl
    ·obtain rfl : v = 2 := by omega
     repeat ((try conv => whnf); first | (refine stpQ ?_))
     (refine z02 (by rfl) ?_ ?_) <;> (repeat' (first | (exact eqA) | (refine shE ?_) | (refine And.intro ?_ ?_)))
     all_goals rfl
   ·repeat ((try conv => whnf); first | (refine stpQ ?_))
    refine ⟨b + 1, by omega, by omega, ?_⟩
    (refine z02 (by rfl) ?_ ?_) <;> (repeat' (first | (exact eqA) | (refine shE ?_) | (refine And.intro ?_ ?_)))
  ·obtain rfl : b = 8 := by omega
   repeat ((try conv => whnf); first | (refine stpQ ?_))
   (refine z02 (by rfl) ?_ ?_) <;> (repeat' (first | (exact eqA) | (refine shE ?_) | (refine And.intro ?_ ?_)))
 ·repeat ((try conv => whnf); first | (refine ccA ([]) (cT) ?_) | (refine stpQ ?_))
  (refine z00 (by rfl) ?_ ?_ (by rfl)) <;> (repeat' (first | (exact eqA) | (refine shE ?_) | (refine And.intro ?_ ?_)))
theorem c_sUp (l : List Bs) (hl : l.length ≤ 60) (hw : ∀ x ∈ l, x.length = 16) : CT Tryz.prog 54 [] [.sl 1 (strE l)] (.ref 1) [.row 1 (strE (upN l (l.length / 2)))] := by
 have hlen := z0d l
 refine z01 z0A 1 rfl Tryz.func54 rfl rfl rfl ?_
 repeat ((try conv => whnf); first | (refine stpQ ?_))
 refine z0i 0 ⟨[(3, .ref 1)], [(1, some (.row 1 (strE (upN l (l.length / 2)))))], 2⟩ Nat (fun k => ⟨[(0, .sl 1 (strE l)), (3, .ref 1), (4, .int .i64 ((2 * k : Nat) : Int))], [(1, some (.row 1 (strE (upN l k))))], 2⟩) (fun k => k ≤ l.length / 2) (fun k => l.length / 2 - k) 0 (by omega) ?_ ?_ ?_
 ·(refine z02 (by rfl) ?_ ?_) <;> (repeat' (first | (exact eqA) | (refine shE ?_) | (refine And.intro ?_ ?_))) <;> first | rfl | decide
 ·intro k hk
  by_cases hlt : k < l.length / 2
  ·have h0 : 2 * k < l.length := by omega
   have h1 : 2 * k + 1 < l.length := by omega
   have g0 := z0v h0
   have g1 := z0v h1
   have w0 := z2u hw h0
   have w1 := z2u hw h1
   have cs := z1b 3 [pAt l (2 * k), pAt l (2 * k + 1)] 16 (by omega) (z3h (by omega) (by omega)) (by omega)
   have hnx := zgY l k
   have hll := zfp l k
   generalize upN l k = o at hnx hll ⊢
   generalize z1a 3 [pAt l (2 * k), pAt l (2 * k + 1)] 16 = r at cs hnx
   generalize pAt l (2 * k) = u0 at g0 cs
   generalize pAt l (2 * k + 1) = u1 at g1 cs
   have hol := z0d o
   have e1 : IntKind.i64.wrap (((2 * k : Nat) : Int) + 1) = ((2 * k + 1 : Nat) : Int) := by rw [wrap_i64 (by omega) (by omega)]; omega
   have e2 : IntKind.i64.wrap (((2 * k : Nat) : Int) + 2) = ((2 * (k + 1) : Nat) : Int) := by rw [wrap_i64 (by omega) (by omega)]; omega
   have h2 : ((2 * k + 1 : Nat) : Int) < (l.length : Int) := by omega
   repeat ((try conv => whnf); first | (refine Exists.intro _ (And.intro e1.symm ?_)) | (refine Exists.intro l.length (And.intro hlen ?_)) | (refine i_at g0 ?_) | (refine i_at g1 ?_) | (refine ccA ([]) (cs) ?_) | (refine And.intro (by simp [z0d]; omega) ?_) | (refine Exists.intro _ (And.intro e2.symm ?_)) | (refine And.intro (by kernel_rfl) ?_) | (refine stpQ ?_))
   refine ⟨k + 1, by omega, by omega, ?_⟩
   rw [hnx]
   (refine z02 (by rfl) ?_ ?_) <;> (repeat' (first | (exact eqA) | (refine shE ?_) | (refine And.intro ?_ ?_)))
   rw [z1m]; rfl
  ·obtain rfl : k = l.length / 2 := by omega
   have e1 : IntKind.i64.wrap (((2 * (l.length / 2) : Nat) : Int) + 1) = ((2 * (l.length / 2) + 1 : Nat) : Int) := by rw [wrap_i64 (by omega) (by omega)]; omega
   have h2 : ¬ ((2 * (l.length / 2) + 1 : Nat) : Int) < (l.length : Int) := by omega
   repeat ((try conv => whnf); first | (refine Exists.intro _ (And.intro e1.symm ?_)) | (refine Exists.intro l.length (And.intro hlen ?_)) | (refine stpQ ?_))
   (refine z02 (by rfl) ?_ ?_) <;> (repeat' (first | (exact eqA) | (refine shE ?_) | (refine And.intro ?_ ?_)))
 ·repeat ((try conv => whnf); first | (refine stpQ ?_))
  (refine z00 (by rfl) ?_ ?_ (by rfl)) <;> (repeat' (first | (exact eqA) | (refine shE ?_) | (refine And.intro ?_ ?_)))
end Go.Proofs.YtkjjacndfieeoaaGreatDoor
namespace Go.Proofs.YtkjjacndfieeoaaGreatDoor
set_option maxRecDepth 100000
set_option maxHeartbeats 8000000
set_option linter.unusedVariables false
set_option linter.unusedSimpArgs false
set_option linter.unusedSectionVars false
open Go.RowKit Pl
attribute [local irreducible] z0m z0n z0q AnsP LeP
theorem zb3 (l : List Bs) (hl : l.length = 16) (hw : ∀ x ∈ l, x.length = 16) : CT Tryz.prog 20 [] [.sl 1 (strE l)] (.str (zfo l)) [] := by
 have hlen := z0d l
 refine z01 z0A 1 rfl Tryz.func20 rfl rfl rfl ?_
 repeat ((try conv => whnf); first | (refine Exists.intro 16 (And.intro (hlen.trans hl) ?_)) | (refine And.intro (by rw [List.length_append, hlen, hl]; simp) ?_) | (refine stpQ ?_))
 refine z0i 0 ⟨[(3, .sl 1 (strE (lvlB l 4)))], [], 1⟩ Nat (fun j => ⟨[(3, .sl 1 (strE (lvlB l j)))], [], 1⟩) (fun j => j ≤ 4) (fun j => 4 - j) 0 (by omega) ?_ ?_ ?_
 ·(refine z02 (by rfl) ?_ ?_) <;> (repeat' (first | (exact eqA) | (refine shE ?_) | (refine And.intro ?_ ?_))) <;> first | rfl | decide
 ·intro j hj
  have hL := z2S hl j
  have hW := z4n hw j
  by_cases hlt : j < 4
  ·have h2 : 2 ≤ 16 / 2 ^ j := by
    rcases (by omega : j = 0 ∨ j = 1 ∨ j = 2 ∨ j = 3) with rfl | rfl | rfl | rfl <;> decide
   have h16 : 16 / 2 ^ j ≤ 16 := Nat.div_le_self _ _
   have hnx : lvlB l (j + 1) = upN (lvlB l j) ((lvlB l j).length / 2) := rfl
   have cu := c_sUp (lvlB l j) (by omega) hW
   generalize lvlB l j = o at hL cu hnx ⊢
   have ho := z0d o
   have h3 : (o.length : Int) > 1 := by omega
   repeat ((try conv => whnf); first | (refine Exists.intro o.length (And.intro ho ?_)) | (refine ccA ([]) (cu) ?_) | (refine stpQ ?_))
   refine ⟨j + 1, by omega, by omega, ?_⟩
   rw [hnx]
   (refine z02 (by rfl) ?_ ?_) <;> (repeat' (first | (exact eqA) | (refine shE ?_) | (refine And.intro ?_ ?_)))
  ·obtain rfl : j = 4 := by omega
   generalize lvlB l 4 = o at hL ⊢
   have ho := z0d o
   repeat ((try conv => whnf); first | (refine Exists.intro 1 (And.intro (ho.trans hL) ?_)) | (refine stpQ ?_))
   (refine z02 (by rfl) ?_ ?_) <;> (repeat' (first | (exact eqA) | (refine shE ?_) | (refine And.intro ?_ ?_)))
 ·have hL := z2S hl 4
  unfold zfo
  generalize lvlB l 4 = o at hL ⊢
  have g := z0v (ps := o) (k := 0) (by omega)
  repeat ((try conv => whnf); first | (refine i_at g ?_) | (refine Exists.intro 0 (Exists.intro _ (And.intro rfl (And.intro g ?_)))) | (refine stpQ ?_))
  (refine z00 (by rfl) ?_ ?_ (by rfl)) <;> (repeat' (first | (exact eqA) | (refine shE ?_) | (refine And.intro ?_ ?_)))
theorem z6E (t : Bs) (ht : t.length ≤ 200) : CT Tryz.prog 85 [] [.str t] (.int .i64 (sbB t : Int)) [] := by
 have c1 := z1b 7 [t] 16 (by omega) (z6C ht) (by omega)
 have hl := z1q (k := 7) (ps := [t]) (w := 16) (by omega)
 unfold sbB
 generalize z1a 7 [t] 16 = d at c1 hl ⊢
 obtain ⟨x, xs, rfl⟩ := z3W hl
 have h1 := zcm x
 have h0 : 0 < (x :: xs).length := by omega
 have hne : ¬ ((x :: xs : Bs) = []) := fun h => by cases h
 refine z01 z0A 1 rfl Tryz.func85 rfl rfl rfl ?_
 repeat ((try conv => whnf); first | (refine ccA ([]) (c1) ?_) | (refine z0o hne ?_) | (refine Exists.intro 0 (And.intro rfl (And.intro h0 ?_))) | (refine Exists.intro _ (And.intro h1.symm ?_)) | (refine stpQ ?_))
 (refine z00 (by rfl) ?_ ?_ (by rfl)) <;> (repeat' (first | (exact eqA) | (refine shE ?_) | (refine And.intro ?_ ?_)))
 all_goals rfl
theorem za0 (ix b : Nat) (hix : ix < 256) (hb : b < 8) : CT Tryz.prog 87 [] [.int .i64 (ix : Int), .int .i64 (b : Int)] (.int .i64 ((sbit ix b : Nat) : Int)) [] := by
 have := zgX ix (7 - b) hix (by omega)
 rwa [show (7 : Int) - ((7 - b : Nat) : Int) = (b : Int) by omega] at this
theorem ziW (seed : Bs) (pool : List Bs) (a : Nat) (text : Bs) (hs : seed.length ≤ 100) (ha : a < 16) (hl : pool.length = 16) (hw : ∀ x ∈ pool, x.length = 16) (hp : pAt pool a = pubB seed a) (ht : text.length ≤ 200) :
 CT Tryz.prog 166 [] [.str seed, .sl 1 (strE pool), .int .i64 (a : Int), .str text] (.tup [.agg (sgE (z4o seed pool a text)), .bool true]) [] := by
 have hlen := z0d pool
 have c1 := z8M (x := (a : Int)) (lo := 0) (hi := 15) (by omega)
 have c2 := z9Z seed a hs ha
 have hpl := z8F seed a
 have ga := z0v (show a < pool.length by omega)
 rw [hp] at ga
 generalize pubB seed a = pk at c2 ga hpl
 obtain ⟨x, xs, rfl⟩ := z3W hpl
 have c3 := z6E text ht
 have hix := zfq text
 have htl : (text.length : Int) ≤ 200 := by omega
 show CT _ _ _ _ (.tup [.agg [.int .i64 (a : Int), .sl 1 (strE (z2q seed a (sbB text) 8)), .sl 1 (strE (z2r seed a (sbB text) 8)), .sl 1 (strE (z3j pool a 4))], .bool true]) _
 generalize sbB text = ix at c3 hix ⊢
 refine z01 z16 1 rfl Tryz.func166 rfl rfl rfl ?_
 have hne : ¬ ((x :: xs : Bs) = []) := fun h => by cases h
 have her : (x :: xs : Bs) = x :: xs := rfl
 repeat ((try conv => whnf); first | (refine z0o hne ?_) | (refine z0F her ?_) | (refine Exists.intro 16 (And.intro (hlen.trans hl) ?_)) | (refine ccA ([]) (c1) ?_) | (refine ccA ([]) (c2) ?_) | (refine i_at ga ?_) | (refine ccA ([]) (c3) ?_) | (refine stpQ ?_))
 refine z0i 0 ⟨[(1, .sl 1 (strE pool)), (2, .int .i64 (a : Int)), (8, .ptr 1 0 0), (9, .bool false), (11, .ptr 2 0 0)], [(1, some (.box [.int .i64 0, .val nilV, .val nilV, .val nilV])), (2, some (.box [.int .i64 (a : Int), .ref 3, .ref 4, .val nilV])), (3, some (.row 1 (strE (z2q seed a ix 8)))), (4, some (.row 1 (strE (z2r seed a ix 8))))], 5⟩ Nat (fun b => ⟨[(0, .str seed), (1, .sl 1 (strE pool)), (2, .int .i64 (a : Int)), (8, .ptr 1 0 0), (9, .bool false), (11, .ptr 2 0 0), (12, .int .i64 (ix : Int)), (13, .int .i64 (b : Int))], [(1, some (.box [.int .i64 0, .val nilV, .val nilV, .val nilV])), (2, some (.box [.int .i64 (a : Int), .ref 3, .ref 4, .val nilV])), (3, some (.row 1 (strE (z2q seed a ix b)))), (4, some (.row 1 (strE (z2r seed a ix b))))], 5⟩) (fun b => b ≤ 8) (fun b => 8 - b) 0 (by omega) ?_ ?_ ?_
 ·(refine z02 (by rfl) ?_ ?_) <;> (repeat' (first | (exact eqA) | (refine shE ?_) | (refine And.intro ?_ ?_))) <;> first | rfl | decide
 ·intro b hb
  by_cases hlt : b < 8
  ·have hb8 : (b : Int) < 8 := by omega
   have cb := za0 ix b hix hlt
   have hv := zaV ix b
   have n1 := z7D seed a ix b
   have n2 := z7E seed a ix b
   have l1 := z6t seed a ix b
   have l2 := z6u seed a ix b
   generalize sbit ix b = v at cb hv n1 n2
   have ev : IntKind.i64.wrap (1 - (v : Int)) = ((1 - v : Nat) : Int) := by rw [wrap_i64 (by omega) (by omega)]; omega
   have k1 := z6D seed a b v hs ha hlt hv
   have k2 := z6D seed a b (1 - v) hs ha hlt (by omega)
   have k2l := z4m seed a b (1 - v)
   have k3 := zb2 (secB seed a b (1 - v)) (by omega)
   clear k2l
   generalize z30 (secB seed a b (1 - v)) = y3 at k3 n2
   generalize secB seed a b (1 - v) = y2 at k2 k3
   generalize secB seed a b v = y1 at k1 n1
   generalize z2q seed a ix b = o1 at n1 l1 ⊢
   generalize z2r seed a ix b = o2 at n2 l2 ⊢
   have ho1 := z0d o1
   have ho2 := z0d o2
   repeat ((try conv => whnf); first | (refine ccA ([]) (cb) ?_) | (refine ccA ([]) (k1) ?_) | (refine Exists.intro _ (And.intro ev.symm ?_)) | (refine ccA ([]) (k2) ?_) | (refine ccA ([]) (k3) ?_) | (refine And.intro (by simp [z0d]; omega) ?_) | (refine And.intro (by kernel_rfl) ?_) | (refine stpQ ?_))
   refine ⟨b + 1, by omega, by omega, ?_⟩
   rw [n1, n2]
   (refine z02 (by rfl) ?_ ?_) <;> (repeat' (first | (exact eqA) | (refine shE ?_) | (refine And.intro ?_ ?_)))
   ·rw [z1m]; rfl
   ·rw [z1m]; rfl
  ·obtain rfl : b = 8 := by omega
   repeat ((try conv => whnf); first | (refine stpQ ?_))
   (refine z02 (by rfl) ?_ ?_) <;> (repeat' (first | (exact eqA) | (refine shE ?_) | (refine And.intro ?_ ?_)))
 ·generalize z2q seed a ix 8 = o1
  generalize z2r seed a ix 8 = o2
  repeat ((try conv => whnf); first | (refine And.intro (by rw [List.length_append, hlen, hl]; simp) ?_) | (refine stpQ ?_))
  refine z0i 2 ⟨[(8, .ptr 1 0 0), (9, .bool false), (11, .ptr 2 0 0)], [(1, some (.box [.int .i64 0, .val nilV, .val nilV, .val nilV])), (2, some (.box [.int .i64 (a : Int), .ref 3, .ref 4, .ref 5])), (3, some (.row 1 (strE o1))), (4, some (.row 1 (strE o2))), (5, some (.row 1 (strE (z3j pool a 4))))], 6⟩ Nat (fun j => ⟨[(8, .ptr 1 0 0), (9, .bool false), (11, .ptr 2 0 0), (15, .sl 1 (strE (lvlB pool j))), (16, .int .i64 ((a / 2 ^ j : Nat) : Int))], [(1, some (.box [.int .i64 0, .val nilV, .val nilV, .val nilV])), (2, some (.box [.int .i64 (a : Int), .ref 3, .ref 4, .ref 5])), (3, some (.row 1 (strE o1))), (4, some (.row 1 (strE o2))), (5, some (.row 1 (strE (z3j pool a j))))], 6⟩) (fun j => j ≤ 4) (fun j => 4 - j) 0 (by omega) ?_ ?_ ?_
  ·(refine z02 (by rfl) ?_ ?_) <;> (repeat' (first | (exact eqA) | (refine shE ?_) | (refine And.intro ?_ ?_))) <;> first | rfl | decide
   all_goals (simp; done)
  ·intro j hj
   have hL := z2S hl j
   have hW := z4n hw j
   by_cases hlt : j < 4
   ·have h2 : 2 ≤ 16 / 2 ^ j := by
     rcases (by omega : j = 0 ∨ j = 1 ∨ j = 2 ∨ j = 3) with rfl | rfl | rfl | rfl <;> decide
    have h16 : 16 / 2 ^ j ≤ 16 := Nat.div_le_self _ _
    have hnx : lvlB pool (j + 1) = upN (lvlB pool j) ((lvlB pool j).length / 2) := rfl
    have hsn := z7F pool a j
    have hsl := z6v pool a j
    have hsi := zfr ha hlt
    have ek : a / 2 ^ (j + 1) = a / 2 ^ j / 2 := by rw [Nat.pow_succ, Nat.div_div_eq_div_mul]
    have hk : a / 2 ^ j < 256 := Nat.lt_of_le_of_lt (Nat.div_le_self _ _) (by omega)
    have eb := zcq (a / 2 ^ j) hk
    have cu := c_sUp (lvlB pool j) (by omega) hW
    have gs := z0v (ps := lvlB pool j) (k := sib (a / 2 ^ j)) (by omega)
    generalize lvlB pool j = o at hL cu hnx gs hsn ⊢
    generalize a / 2 ^ j = k at ek hk eb gs hsi hsn ⊢
    generalize pAt o (sib k) = y at gs hsn
    generalize z3j pool a j = o3 at hsn hsl ⊢
    have ho := z0d o
    have ho3 := z0d o3
    have h3 : (o.length : Int) > 1 := by omega
    repeat ((try conv => whnf); first | (refine Exists.intro o.length (And.intro ho ?_)) | (refine Exists.intro _ (And.intro eb.symm ?_)) | (refine i_at gs ?_) | (refine And.intro (by simp [z0d]; omega) ?_) | (refine And.intro (by kernel_rfl) ?_) | (refine ccA ([]) (cu) ?_) | (refine zca (n := nat_lit 2) (by omega) ?_) | (refine stpQ ?_))
    refine ⟨j + 1, by omega, by omega, ?_⟩
    rw [hnx, hsn, ek]
    (refine z02 (by rfl) ?_ ?_) <;> (repeat' (first | (exact eqA) | (refine shE ?_) | (refine And.intro ?_ ?_)))
    rw [z1m]; rfl
   ·obtain rfl : j = 4 := by omega
    generalize lvlB pool 4 = o at hL ⊢
    have ho := z0d o
    repeat ((try conv => whnf); first | (refine Exists.intro 1 (And.intro (ho.trans hL) ?_)) | (refine stpQ ?_))
    (refine z02 (by rfl) ?_ ?_) <;> (repeat' (first | (exact eqA) | (refine shE ?_) | (refine And.intro ?_ ?_)))
  ·repeat ((try conv => whnf); first | (refine And.intro (by kernel_rfl) ?_) | (refine stpQ ?_))
   (refine z00 (by rfl) ?_ ?_ (by rfl)) <;> (repeat' (first | (exact eqA) | (refine shE ?_) | (refine And.intro ?_ ?_)))
theorem z4v (h : Hd) (g : h.good) : CT Tryz.prog 50 [] [.agg (hdE h)] (.bool true) [] := by
 obtain ⟨ho, ep, ro, pr⟩ := h
 obtain ⟨h1, h2, h3, h4, h5⟩ := g
 simp only at h1 h2 h3 h4 h5
 have c1 := z8M (x := (ho : Int)) (lo := 0) (hi := 2) (by omega)
 have c2 := z8M (x := (ep : Int)) (lo := 1) (hi := 4) (by omega)
 have hr : (ro.length : Int) = 16 := by omega
 by_cases he : ep = 1
 ·rw [if_pos he] at h5
  subst he h5
  refine z01 z16 1 rfl Tryz.func50 rfl rfl rfl ?_
  repeat ((try conv => whnf); first | (refine ccA ([]) (c1) ?_) | (refine ccA ([]) (c2) ?_) | (refine stpQ ?_))
  (refine z00 (by rfl) ?_ ?_ (by rfl)) <;> (repeat' (first | (exact eqA) | (refine shE ?_) | (refine And.intro ?_ ?_))) <;> first | rfl | decide
 ·rw [if_neg he] at h5
  have he2 : ¬ (ep : Int) = 1 := by omega
  have hq : (pr.length : Int) = 16 := by omega
  refine z01 z16 1 rfl Tryz.func50 rfl rfl rfl ?_
  repeat ((try conv => whnf); first | (refine ccA ([]) (c1) ?_) | (refine ccA ([]) (c2) ?_) | (refine stpQ ?_))
  (refine z00 (by rfl) ?_ ?_ (by rfl)) <;> (repeat' (first | (exact eqA) | (refine shE ?_) | (refine And.intro ?_ ?_))) <;> first | rfl | (exact decide_eq_true hq) | simp [hq]
theorem z6F (h : Hd) (g : h.good) : CT Tryz.prog 88 [] [.agg (hdE h)] (.tup [.str (z0T h), .bool true]) [] := by
 have c1 := z4v h g
 obtain ⟨ho, ep, ro, pr⟩ := h
 obtain ⟨h1, h2, h3, h4, h5⟩ := g
 simp only at h1 h2 h3 h4 h5
 have hq : pr.length ≤ 16 := by
  split at h5
  ·rw [h5]; simp
  ·omega
 refine z01 z16 1 rfl Tryz.func88 rfl rfl rfl ?_
 repeat ((try conv => whnf); first | (refine ccA ([]) (c1) ?_) | (refine w_u8 ?_) | (refine Exists.intro [UInt8.ofNat ho, UInt8.ofNat ep] (And.intro rfl ?_)) | (refine And.intro (by simp; omega) ?_) | (refine stpQ ?_))
 (refine z00 (by rfl) ?_ ?_ (by rfl)) <;> (repeat' (first | (exact eqA) | (refine shE ?_) | (refine And.intro ?_ ?_))) <;> rfl
theorem z2U (h : Hd) (g : h.good) : CT Tryz.prog 53 [] [.agg (hdE h)] (.str (z1G h)) [] := by
 have c1 := z6F h g
 have hl := z1U g
 have c2 := z1b 4 [z0T h] 16 (by omega) (z6C (by omega)) (by omega)
 unfold z1G
 generalize z1a 4 [z0T h] 16 = R at c2 ⊢
 generalize z0T h = t at c1 c2
 refine z01 z16 1 rfl Tryz.func53 rfl rfl rfl ?_
 repeat ((try conv => whnf); first | (refine ccA ([]) (c1) ?_) | (refine ccA ([]) (c2) ?_) | (refine stpQ ?_))
 (refine z00 (by rfl) ?_ ?_ (by rfl)) <;> (repeat' (first | (exact eqA) | (refine shE ?_) | (refine And.intro ?_ ?_)))
theorem zfL (h : Hd) : (z1G h).length = 16 := z1q (by omega)
theorem za1 (ep : Nat) (h : 1 ≤ ep ∧ ep ≤ 4) : CT Tryz.prog 51 [] [.int .i64 (ep : Int)] (.int .i64 ((ep - 1 : Nat) : Int)) [] := by
 have c2 := z8M (x := (ep : Int)) (lo := 1) (hi := 4) (by omega)
 have e : IntKind.i64.wrap ((ep : Int) - 1) = ((ep - 1 : Nat) : Int) := by rw [wrap_i64 (by omega) (by omega)]; omega
 refine z01 z16 1 rfl Tryz.func51 rfl rfl rfl ?_
 repeat ((try conv => whnf); first | (refine ccA ([]) (c2) ?_) | (refine Exists.intro _ (And.intro e.symm ?_)) | (refine stpQ ?_))
 (refine z00 (by rfl) ?_ ?_ (by rfl)) <;> (repeat' (first | (exact eqA) | (refine shE ?_) | (refine And.intro ?_ ?_)))
theorem ziX (seed : Bs) (h : Hd) (hs : seed.length ≤ 100) (g : h.good) : CT Tryz.prog 131 [] [.str seed, .sl 1 (strE (z0g seed 16)), .agg (hdE h)] (.tup [.agg (hdE h ++ sgE (z4o seed (z0g seed 16) (h.ep - 1) (z1G h))), .bool true]) [] := by
 have c1 := z4v h g
 have c2 := z2U h g
 have hl := zfL h
 obtain ⟨h1, h2, h3, h4, h5⟩ := g
 have c3 := za1 h.ep ⟨h2, h3⟩
 have c4 := ziW seed (z0g seed 16) (h.ep - 1) (z1G h) hs (by omega) (z0H _ _) z2I (z8G (by omega)) (by omega)
 clear hl
 obtain ⟨ho, ep, ro, pr⟩ := h
 generalize z4o seed (z0g seed 16) _ _ = S at c4 ⊢
 generalize z0g seed 16 = P at c4 ⊢
 generalize z1G _ = H at c2 c4
 refine z01 z16 1 rfl Tryz.func131 rfl rfl rfl ?_
 repeat ((try conv => whnf); first | (refine ccA ([]) (c1) ?_) | (refine ccA ([]) (c3) ?_) | (refine ccA ([]) (c2) ?_) | (refine z4g ([]) (c4) (by ((repeat' (first | (exact trivial) | (exact rfl) | (refine And.intro ?_ ?_))); first | done | fail)) (by ((repeat' (first | (exact trivial) | (exact rfl) | (refine And.intro ?_ ?_))); first | done | fail)) (by decide) (by rfl) (by first | exact .inl rfl | (refine .inr ⟨by simp [own2, own1, own0], fun e he => ?_⟩; simp only [List.mem_cons, List.not_mem_nil, or_false] at he <;> first | exact he.elim | (subst he; (first | exact z21 _ | exact z1B _)) | (rcases he with rfl | rfl <;> (first | exact z21 _ | exact z1B _)))) ?_) | (refine And.intro (by kernel_rfl) ?_) | (refine stpQ ?_))
 (refine z00 (by rfl) ?_ ?_ (by rfl)) <;> (repeat' (first | (exact eqA) | (refine shE ?_) | (refine And.intro ?_ ?_)))
theorem za2 (c : Bs) (i : Nat) (h : Int) (hc : (c.length : Int) ≤ 1048576) (hi : i ≤ c.length) : ∃ (r : Bs) (i' : Nat) (h' : Int), r.length = 16 ∧ i' ≤ c.length ∧ CT Tryz.prog 59 [curE c i h] [.ptr 1 0 0] (.str r) [curE c i' h'] := by
 obtain ⟨s, i1, h1, hs, hi1, k1⟩ := zi0 c i h 2 hc hi (by omega)
 have k2 := zfk s 16 (by omega) (by omega)
 refine ⟨cutB s 16, i1, h1, z5o (by omega), hi1, ?_⟩
 generalize cutB s 16 = r at k2 ⊢
 refine z01 z16 2 rfl Tryz.func59 rfl rfl rfl ?_
 repeat ((try conv => whnf); first | (refine ccB ([1]) (k1) ?_) | (refine ccA ([]) (k2) ?_) | (refine stpQ ?_))
 (refine z00 (by rfl) ?_ ?_ (by rfl)) <;> (repeat' (first | (exact eqA) | (refine shE ?_) | (refine And.intro ?_ ?_)))
end Go.Proofs.YtkjjacndfieeoaaGreatDoor
