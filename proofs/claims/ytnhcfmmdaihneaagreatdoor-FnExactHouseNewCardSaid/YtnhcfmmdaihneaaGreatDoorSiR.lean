/- Functions by content: the reference's one-time keys, pools, and signatures. Functions by content: the reference signs; heads, seals and stamps. -/
import Derived.Test.YtnhcfmmdaihneaaGreatDoorPs
namespace Go.Proofs.YtnhcfmmdaihneaaGreatDoor
set_option maxRecDepth 100000
set_option maxHeartbeats 4000000
set_option linter.unusedVariables false
set_option linter.unusedSimpArgs false
set_option linter.unusedSectionVars false
open Go.RowKit Pl
attribute [local irreducible] z0w z0x z0A AnsP LeP
theorem zcr {l : Bs} (h : l.length = 16) : ∃ x xs, l = x :: xs := by
 cases l with
 | nil => cases h
 | cons x xs => exact ⟨x, xs, rfl⟩
theorem zb0 {a : Bs} (ha : a.length ≤ 200) : z29 [a] := ⟨by simp, fun p h => by rw [List.mem_singleton.1 h]; exact ha⟩
theorem zf2 {l : List Bs} (hn : l.length ≤ 60) (h : ∀ x ∈ l, x.length = 16) : z29 l := ⟨hn, fun p hp => by have := h p hp; omega⟩
theorem z9u {x lo hi : Int} (h : lo ≤ x ∧ x ≤ hi) : CT Tryz.prog 84 [] [.int .i64 x, .int .i64 lo, .int .i64 hi] (.bool true) [] := by
 have := z1B x lo hi
 rwa [z0T.2 h] at this
theorem zhB (seed : Bs) (a b v : Nat) (hs : seed.length ≤ 100) (ha : a < 16) (hb : b < 8) (hv : v < 2) : CT Tryz.prog 180 [] [.str seed, .int .i64 (a : Int), .int .i64 (b : Int), .int .i64 (v : Int)] (.str (secB seed a b v)) [] := by
 have c1 := z9u (x := (a : Int)) (lo := 0) (hi := 15) (by omega)
 have c2 := z9u (x := (b : Int)) (lo := 0) (hi := 7) (by omega)
 have c3 := z9u (x := (v : Int)) (lo := 0) (hi := 1) (by omega)
 have c4 := z47 5 [seed, [UInt8.ofNat a, UInt8.ofNat b, UInt8.ofNat v]] 16 (by omega) (zaL (by omega) (by simp)) (by omega)
 unfold secB
 generalize z2x 5 [seed, [UInt8.ofNat a, UInt8.ofNat b, UInt8.ofNat v]] 16 = R at c4 ⊢
 refine z01 z0L 1 rfl Tryz.func180 rfl rfl rfl ?_
 repeat ((try conv => whnf); first | (refine ccA ([]) (c1) ?_) | (refine ccA ([]) (c2) ?_) | (refine ccA ([]) (c3) ?_) | (refine w_u8 ?_) | (refine Exists.intro [UInt8.ofNat a, UInt8.ofNat b, UInt8.ofNat v] (And.intro rfl ?_)) | (refine ccA ([]) (c4) ?_) | (refine stpQ ?_))
 (refine z00 (by rfl) ?_ ?_ (by rfl)) <;> (repeat' (first | (exact eqA) | (refine shE ?_) | (refine And.intro ?_ ?_)))
theorem zlh (s : Bs) (hs : s.length ≤ 200) : CT Tryz.prog 181 [] [.str s] (.str (z7o s)) [] := by
 have c4 := z47 6 [s] 16 (by omega) (zb0 hs) (by omega)
 unfold z7o
 generalize z2x 6 [s] 16 = R at c4 ⊢
 refine z01 z0L 1 rfl Tryz.func181 rfl rfl rfl ?_
 repeat ((try conv => whnf); first | (refine ccA ([]) (c4) ?_) | (refine stpQ ?_))
 (refine z00 (by rfl) ?_ ?_ (by rfl)) <;> (repeat' (first | (exact eqA) | (refine shE ?_) | (refine And.intro ?_ ?_)))
theorem zhC (seed : Bs) (a : Nat) (hs : seed.length ≤ 100) (ha : a < 16) : CT Tryz.prog 131 [] [.str seed, .int .i64 (a : Int)] (.str (pubB seed a)) [] := by
 have cT := z47 6 (z1H seed a 16) 16 (by omega) (zf2 (by rw [z48]; omega) z7q) (by omega)
 unfold pubB
 generalize z2x 6 (z1H seed a 16) 16 = R at cT ⊢
 refine z01 z0L 1 rfl Tryz.func131 rfl rfl rfl ?_
 repeat ((try conv => whnf); first | (refine stpQ ?_))
 refine z0n 0 ⟨[(5, .ref 1)], [(1, some (.row 1 (strE (z1H seed a 16))))], 2⟩ Nat (fun b => ⟨[(0, .str seed), (1, .int .i64 (a : Int)), (5, .ref 1), (6, .int .i64 (b : Int))], [(1, some (.row 1 (strE (z1H seed a (2 * b)))))], 2⟩) (fun b => b ≤ 8) (fun b => 8 - b) 0 (by omega) ?_ ?_ ?_
 ·(refine z02 (by rfl) ?_ ?_) <;> (repeat' (first | (exact eqA) | (refine shE ?_) | (refine And.intro ?_ ?_))) <;> first | rfl | decide
 ·intro b hb
  by_cases hlt : b < 8
  ·have hb8 : (b : Int) < 8 := by omega
   repeat ((try conv => whnf); first | (refine stpQ ?_))
   refine z0n 2 ⟨[(0, .str seed), (1, .int .i64 (a : Int)), (5, .ref 1), (6, .int .i64 (b : Int))], [(1, some (.row 1 (strE (z1H seed a (2 * (b + 1))))))], 2⟩ Nat (fun v => ⟨[(0, .str seed), (1, .int .i64 (a : Int)), (5, .ref 1), (6, .int .i64 (b : Int)), (7, .int .i64 (v : Int))], [(1, some (.row 1 (strE (z1H seed a (2 * b + v)))))], 2⟩) (fun v => v ≤ 2) (fun v => 2 - v) 0 (by omega) ?_ ?_ ?_
   ·(refine z02 (by rfl) ?_ ?_) <;> (repeat' (first | (exact eqA) | (refine shE ?_) | (refine And.intro ?_ ?_))) <;> first | rfl | decide
   ·intro v hv
    by_cases hv2 : v < 2
    ·have hv3 : (v : Int) < 2 := by omega
     have cs := zhB seed a b v hs ha hlt hv2
     have hsl := zdI seed a b v
     have cl := zlh (secB seed a b v) (by omega)
     have hnx := z7p seed a (2 * b + v)
     have e1 : (2 * b + v) / 2 = b := by omega
     have e2 : (2 * b + v) % 2 = v := by omega
     rw [e1, e2] at hnx
     have hll := z48 seed a (2 * b + v)
     generalize z1H seed a (2 * b + v) = o at hnx hll ⊢
     generalize z7o (secB seed a b v) = k at cl hnx
     obtain ⟨x, xs, hx⟩ := zcr hsl
     rw [hx] at cs cl
     clear hsl hx
     have hol := z0m o
     have hne : ¬ ((x :: xs : Bs) = []) := fun h => by cases h
     repeat ((try conv => whnf); first | (refine ccA ([]) (cs) ?_) | (refine z0j hne ?_) | (refine ccA ([]) (cl) ?_) | (refine And.intro (by simp [z0m]; omega) ?_) | (refine stpQ ?_))
     refine ⟨v + 1, by omega, by omega, ?_⟩
     rw [show 2 * b + (v + 1) = 2 * b + v + 1 by omega, hnx]
     (refine z02 (by rfl) ?_ ?_) <;> (repeat' (first | (exact eqA) | (refine shE ?_) | (refine And.intro ?_ ?_)))
     rw [z6u]; rfl
    ·obtain rfl : v = 2 := by omega
     repeat ((try conv => whnf); first | (refine stpQ ?_))
     (refine z02 (by rfl) ?_ ?_) <;> (repeat' (first | (exact eqA) | (refine shE ?_) | (refine And.intro ?_ ?_)))
     all_goals rfl
   ·repeat ((try conv => whnf); first | (refine stpQ ?_))
    refine ⟨b + 1, by omega, by omega, ?_⟩
    (refine z02 (by rfl) ?_ ?_) <;> (repeat' (first | (exact eqA) | (refine shE ?_) | (refine And.intro ?_ ?_)))
  ·obtain rfl : b = 8 := by omega
   repeat ((try conv => whnf); first | (refine stpQ ?_))
   (refine z02 (by rfl) ?_ ?_) <;> (repeat' (first | (exact eqA) | (refine shE ?_) | (refine And.intro ?_ ?_)))
 ·repeat ((try conv => whnf); first | (refine ccA ([]) (cT) ?_) | (refine stpQ ?_))
  (refine z00 (by rfl) ?_ ?_ (by rfl)) <;> (repeat' (first | (exact eqA) | (refine shE ?_) | (refine And.intro ?_ ?_)))
end Go.Proofs.YtnhcfmmdaihneaaGreatDoor
namespace Go.Proofs.YtnhcfmmdaihneaaGreatDoor
set_option maxRecDepth 100000
set_option maxHeartbeats 4000000
set_option linter.unusedVariables false
set_option linter.unusedSimpArgs false
set_option linter.unusedSectionVars false
open Go.RowKit Pl
attribute [local irreducible] z0w z0x z0A AnsP LeP
theorem zb1 (h : Hd) (g : h.good) : CT Tryz.prog 241 [] [.agg (hdE h)] (.bool true) [] := by
 obtain ⟨ho, ep, ro, pr⟩ := h
 obtain ⟨h1, h2, h3, h4, h5⟩ := g
 simp only at h1 h2 h3 h4 h5
 have c1 := z9u (x := (ho : Int)) (lo := 0) (hi := 2) (by omega)
 have c2 := z9u (x := (ep : Int)) (lo := 1) (hi := 4) (by omega)
 have hr : (ro.length : Int) = 16 := by omega
 by_cases he : ep = 1
 ·rw [if_pos he] at h5
  subst he h5
  refine z01 z3e 1 rfl Tryz.func241 rfl rfl rfl ?_
  repeat ((try conv => whnf); first | (refine ccA ([]) (c1) ?_) | (refine ccA ([]) (c2) ?_) | (refine stpQ ?_))
  (refine z00 (by rfl) ?_ ?_ (by rfl)) <;> (repeat' (first | (exact eqA) | (refine shE ?_) | (refine And.intro ?_ ?_))) <;> first | rfl | decide
 ·rw [if_neg he] at h5
  have he2 : ¬ (ep : Int) = 1 := by omega
  have hq : (pr.length : Int) = 16 := by omega
  refine z01 z3e 1 rfl Tryz.func241 rfl rfl rfl ?_
  repeat ((try conv => whnf); first | (refine ccA ([]) (c1) ?_) | (refine ccA ([]) (c2) ?_) | (refine stpQ ?_))
  (refine z00 (by rfl) ?_ ?_ (by rfl)) <;> (repeat' (first | (exact eqA) | (refine shE ?_) | (refine And.intro ?_ ?_))) <;> first | rfl | (exact decide_eq_true hq) | simp [hq]
theorem z4H (h : Hd) (g : h.good) : CT Tryz.prog 268 [] [.agg (hdE h)] (.tup [.str (z1o h), .bool true]) [] := by
 have c1 := zb1 h g
 obtain ⟨ho, ep, ro, pr⟩ := h
 obtain ⟨h1, h2, h3, h4, h5⟩ := g
 simp only at h1 h2 h3 h4 h5
 have hq : pr.length ≤ 16 := by
  split at h5
  ·rw [h5]; simp
  ·omega
 refine z01 z3e 1 rfl Tryz.func268 rfl rfl rfl ?_
 repeat ((try conv => whnf); first | (refine ccA ([]) (c1) ?_) | (refine w_u8 ?_) | (refine Exists.intro [UInt8.ofNat ho, UInt8.ofNat ep] (And.intro rfl ?_)) | (refine And.intro (by simp; omega) ?_) | (refine stpQ ?_))
 (refine z00 (by rfl) ?_ ?_ (by rfl)) <;> (repeat' (first | (exact eqA) | (refine shE ?_) | (refine And.intro ?_ ?_))) <;> rfl
theorem z7A (h : Hd) (g : h.good) : CT Tryz.prog 239 [] [.agg (hdE h)] (.str (z7r h)) [] := by
 have c1 := z4H h g
 have hl := z3d g
 have c2 := z47 4 [z1o h] 16 (by omega) (zb0 (by omega)) (by omega)
 unfold z7r
 generalize z2x 4 [z1o h] 16 = R at c2 ⊢
 generalize z1o h = t at c1 c2
 refine z01 z3e 1 rfl Tryz.func239 rfl rfl rfl ?_
 repeat ((try conv => whnf); first | (refine ccA ([]) (c1) ?_) | (refine ccA ([]) (c2) ?_) | (refine stpQ ?_))
 (refine z00 (by rfl) ?_ ?_ (by rfl)) <;> (repeat' (first | (exact eqA) | (refine shE ?_) | (refine And.intro ?_ ?_)))
end Go.Proofs.YtnhcfmmdaihneaaGreatDoor
