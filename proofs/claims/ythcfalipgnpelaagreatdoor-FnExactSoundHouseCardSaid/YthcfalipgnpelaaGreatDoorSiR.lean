/- Functions by content: the reference's one-time keys, pools, and signatures. Functions by content: the reference signs; heads, seals and stamps. -/
import Derived.Test.YthcfalipgnpelaaGreatDoorPs
namespace Go.Proofs.YthcfalipgnpelaaGreatDoor
set_option maxRecDepth 100000
set_option maxHeartbeats 4000000
set_option linter.unusedVariables false
set_option linter.unusedSimpArgs false
set_option linter.unusedSectionVars false
open Go.RowKit Pl
attribute [local irreducible] z0o z0p z0z AnsP LeP
theorem z83 {l : Bs} (h : l.length = 16) : ∃ x xs, l = x :: xs := by
 cases l with
 | nil => cases h
 | cons x xs => exact ⟨x, xs, rfl⟩
theorem z5K {a : Bs} (ha : a.length ≤ 200) : z0Z [a] := ⟨by simp, fun p h => by rw [List.mem_singleton.1 h]; exact ha⟩
theorem z99 {l : List Bs} (hn : l.length ≤ 60) (h : ∀ x ∈ l, x.length = 16) : z0Z l := ⟨hn, fun p hp => by have := h p hp; omega⟩
theorem z8s {x lo hi : Int} (h : lo ≤ x ∧ x ≤ hi) : CT Tryz.prog 31 [] [.int .i64 x, .int .i64 lo, .int .i64 hi] (.bool true) [] := by
 have := z1f x lo hi
 rwa [z0x.2 h] at this
theorem zhW (seed : Bs) (a b v : Nat) (hs : seed.length ≤ 100) (ha : a < 16) (hb : b < 8) (hv : v < 2) : CT Tryz.prog 225 [] [.str seed, .int .i64 (a : Int), .int .i64 (b : Int), .int .i64 (v : Int)] (.str (secB seed a b v)) [] := by
 have c1 := z8s (x := (a : Int)) (lo := 0) (hi := 15) (by omega)
 have c2 := z8s (x := (b : Int)) (lo := 0) (hi := 7) (by omega)
 have c3 := z8s (x := (v : Int)) (lo := 0) (hi := 1) (by omega)
 have c4 := z1i 5 [seed, [UInt8.ofNat a, UInt8.ofNat b, UInt8.ofNat v]] 16 (by omega) (z1U (by omega) (by simp)) (by omega)
 unfold secB
 generalize z1m 5 [seed, [UInt8.ofNat a, UInt8.ofNat b, UInt8.ofNat v]] 16 = R at c4 ⊢
 refine z01 z0q 1 rfl Tryz.func225 rfl rfl rfl ?_
 repeat ((try conv => whnf); first | (refine ccA ([]) (c1) ?_) | (refine ccA ([]) (c2) ?_) | (refine ccA ([]) (c3) ?_) | (refine w_u8 ?_) | (refine Exists.intro [UInt8.ofNat a, UInt8.ofNat b, UInt8.ofNat v] (And.intro rfl ?_)) | (refine ccA ([]) (c4) ?_) | (refine stpQ ?_))
 (refine z00 (by rfl) ?_ ?_ (by rfl)) <;> (repeat' (first | (exact eqA) | (refine shE ?_) | (refine And.intro ?_ ?_)))
theorem zhX (s : Bs) (hs : s.length ≤ 200) : CT Tryz.prog 143 [] [.str s] (.str (z4l s)) [] := by
 have c4 := z1i 6 [s] 16 (by omega) (z5K hs) (by omega)
 unfold z4l
 generalize z1m 6 [s] 16 = R at c4 ⊢
 refine z01 z0q 1 rfl Tryz.func143 rfl rfl rfl ?_
 repeat ((try conv => whnf); first | (refine ccA ([]) (c4) ?_) | (refine stpQ ?_))
 (refine z00 (by rfl) ?_ ?_ (by rfl)) <;> (repeat' (first | (exact eqA) | (refine shE ?_) | (refine And.intro ?_ ?_)))
theorem zhY (seed : Bs) (a : Nat) (hs : seed.length ≤ 100) (ha : a < 16) : CT Tryz.prog 162 [] [.str seed, .int .i64 (a : Int)] (.str (pubB seed a)) [] := by
 have cT := z1i 6 (z1S seed a 16) 16 (by omega) (z99 (by rw [z4w]; omega) z7W) (by omega)
 unfold pubB
 generalize z1m 6 (z1S seed a 16) 16 = R at cT ⊢
 refine z01 z0q 1 rfl Tryz.func162 rfl rfl rfl ?_
 repeat ((try conv => whnf); first | (refine stpQ ?_))
 refine z07 0 ⟨[(5, .ref 1)], [(1, some (.row 1 (strE (z1S seed a 16))))], 2⟩ Nat (fun b => ⟨[(0, .str seed), (1, .int .i64 (a : Int)), (5, .ref 1), (6, .int .i64 (b : Int))], [(1, some (.row 1 (strE (z1S seed a (2 * b)))))], 2⟩) (fun b => b ≤ 8) (fun b => 8 - b) 0 (by omega) ?_ ?_ ?_
 ·(refine z02 (by rfl) ?_ ?_) <;> (repeat' (first | (exact eqA) | (refine shE ?_) | (refine And.intro ?_ ?_))) <;> first | rfl | decide
 ·intro b hb
  by_cases hlt : b < 8
  ·have hb8 : (b : Int) < 8 := by omega
   repeat ((try conv => whnf); first | (refine stpQ ?_))
   refine z07 2 ⟨[(0, .str seed), (1, .int .i64 (a : Int)), (5, .ref 1), (6, .int .i64 (b : Int))], [(1, some (.row 1 (strE (z1S seed a (2 * (b + 1))))))], 2⟩ Nat (fun v => ⟨[(0, .str seed), (1, .int .i64 (a : Int)), (5, .ref 1), (6, .int .i64 (b : Int)), (7, .int .i64 (v : Int))], [(1, some (.row 1 (strE (z1S seed a (2 * b + v)))))], 2⟩) (fun v => v ≤ 2) (fun v => 2 - v) 0 (by omega) ?_ ?_ ?_
   ·(refine z02 (by rfl) ?_ ?_) <;> (repeat' (first | (exact eqA) | (refine shE ?_) | (refine And.intro ?_ ?_))) <;> first | rfl | decide
   ·intro v hv
    by_cases hv2 : v < 2
    ·have hv3 : (v : Int) < 2 := by omega
     have cs := zhW seed a b v hs ha hlt hv2
     have hsl := zes seed a b v
     have cl := zhX (secB seed a b v) (by omega)
     have hnx := z7V seed a (2 * b + v)
     have e1 : (2 * b + v) / 2 = b := by omega
     have e2 : (2 * b + v) % 2 = v := by omega
     rw [e1, e2] at hnx
     have hll := z4w seed a (2 * b + v)
     generalize z1S seed a (2 * b + v) = o at hnx hll ⊢
     generalize z4l (secB seed a b v) = k at cl hnx
     obtain ⟨x, xs, hx⟩ := z83 hsl
     rw [hx] at cs cl
     clear hsl hx
     have hol := z05 o
     have hne : ¬ ((x :: xs : Bs) = []) := fun h => by cases h
     repeat ((try conv => whnf); first | (refine ccA ([]) (cs) ?_) | (refine z0e hne ?_) | (refine ccA ([]) (cl) ?_) | (refine And.intro (by simp [z05]; omega) ?_) | (refine stpQ ?_))
     refine ⟨v + 1, by omega, by omega, ?_⟩
     rw [show 2 * b + (v + 1) = 2 * b + v + 1 by omega, hnx]
     (refine z02 (by rfl) ?_ ?_) <;> (repeat' (first | (exact eqA) | (refine shE ?_) | (refine And.intro ?_ ?_)))
     rw [z1k]; rfl
    ·obtain rfl : v = 2 := by omega
     repeat ((try conv => whnf); first | (refine stpQ ?_))
     (refine z02 (by rfl) ?_ ?_) <;> (repeat' (first | (exact eqA) | (refine shE ?_) | (refine And.intro ?_ ?_)))
     all_goals rfl
   ·repeat ((try conv => whnf); first | (refine stpQ ?_))
    refine ⟨b + 1, by omega, by omega, ?_⟩
    (refine z02 (by rfl) ?_ ?_) <;> (repeat' (first | (exact eqA) | (refine shE ?_) | (refine And.intro ?_ ?_)))
  ·obtain rfl : b = 8 := by omega
   repeat ((try conv => whnf); first | (refine stpQ ?_))
   (refine z02 (by rfl) ?_ ?_) <;> (repeat' (first | (exact eqA) | (refine shE ?_) | (refine And.intro ?_ ?_)))
 ·repeat ((try conv => whnf); first | (refine ccA ([]) (cT) ?_) | (refine stpQ ?_))
  (refine z00 (by rfl) ?_ ?_ (by rfl)) <;> (repeat' (first | (exact eqA) | (refine shE ?_) | (refine And.intro ?_ ?_)))
end Go.Proofs.YthcfalipgnpelaaGreatDoor
namespace Go.Proofs.YthcfalipgnpelaaGreatDoor
set_option maxRecDepth 100000
set_option maxHeartbeats 4000000
set_option linter.unusedVariables false
set_option linter.unusedSimpArgs false
set_option linter.unusedSectionVars false
open Go.RowKit Pl
attribute [local irreducible] z0o z0p z0z AnsP LeP
theorem zcV (t : Bs) (ht : t.length ≤ 200) : CT Tryz.prog 142 [] [.str t] (.int .i64 (sbB t : Int)) [] := by
 have c1 := z1i 7 [t] 16 (by omega) (z5K ht) (by omega)
 have hl := z1e (k := 7) (ps := [t]) (w := 16) (by omega)
 unfold sbB
 generalize z1m 7 [t] 16 = d at c1 hl ⊢
 obtain ⟨x, xs, rfl⟩ := z83 hl
 have h1 := z5x x
 have h0 : 0 < (x :: xs).length := by omega
 have hne : ¬ ((x :: xs : Bs) = []) := fun h => by cases h
 refine z01 z0q 1 rfl Tryz.func142 rfl rfl rfl ?_
 repeat ((try conv => whnf); first | (refine ccA ([]) (c1) ?_) | (refine z0e hne ?_) | (refine Exists.intro 0 (And.intro rfl (And.intro h0 ?_))) | (refine Exists.intro _ (And.intro h1.symm ?_)) | (refine stpQ ?_))
 (refine z00 (by rfl) ?_ ?_ (by rfl)) <;> (repeat' (first | (exact eqA) | (refine shE ?_) | (refine And.intro ?_ ?_)))
 all_goals rfl
theorem zhZ (ix b : Nat) (hix : ix < 256) (hb : b < 8) : CT Tryz.prog 144 [] [.int .i64 (ix : Int), .int .i64 (b : Int)] (.int .i64 ((sbit ix b : Nat) : Int)) [] := by
 have := zjW ix (7 - b) hix (by omega)
 rwa [show (7 : Int) - ((7 - b : Nat) : Int) = (b : Int) by omega] at this
theorem z84 (h : Hd) (g : h.good) : CT Tryz.prog 82 [] [.agg (hdE h)] (.bool true) [] := by
 obtain ⟨ho, ep, ro, pr⟩ := h
 obtain ⟨h1, h2, h3, h4, h5⟩ := g
 simp only at h1 h2 h3 h4 h5
 have c1 := z8s (x := (ho : Int)) (lo := 0) (hi := 2) (by omega)
 have c2 := z8s (x := (ep : Int)) (lo := 1) (hi := 4) (by omega)
 have hr : (ro.length : Int) = 16 := by omega
 by_cases he : ep = 1
 ·rw [if_pos he] at h5
  subst he h5
  refine z01 z1G 1 rfl Tryz.func82 rfl rfl rfl ?_
  repeat ((try conv => whnf); first | (refine ccA ([]) (c1) ?_) | (refine ccA ([]) (c2) ?_) | (refine stpQ ?_))
  (refine z00 (by rfl) ?_ ?_ (by rfl)) <;> (repeat' (first | (exact eqA) | (refine shE ?_) | (refine And.intro ?_ ?_))) <;> first | rfl | decide
 ·rw [if_neg he] at h5
  have he2 : ¬ (ep : Int) = 1 := by omega
  have hq : (pr.length : Int) = 16 := by omega
  refine z01 z1G 1 rfl Tryz.func82 rfl rfl rfl ?_
  repeat ((try conv => whnf); first | (refine ccA ([]) (c1) ?_) | (refine ccA ([]) (c2) ?_) | (refine stpQ ?_))
  (refine z00 (by rfl) ?_ ?_ (by rfl)) <;> (repeat' (first | (exact eqA) | (refine shE ?_) | (refine And.intro ?_ ?_))) <;> first | rfl | (exact decide_eq_true hq) | simp [hq]
theorem z57 (h : Hd) (g : h.good) : CT Tryz.prog 164 [] [.agg (hdE h)] (.tup [.str (z1o h), .bool true]) [] := by
 have c1 := z84 h g
 obtain ⟨ho, ep, ro, pr⟩ := h
 obtain ⟨h1, h2, h3, h4, h5⟩ := g
 simp only at h1 h2 h3 h4 h5
 have hq : pr.length ≤ 16 := by
  split at h5
  ·rw [h5]; simp
  ·omega
 refine z01 z1G 1 rfl Tryz.func164 rfl rfl rfl ?_
 repeat ((try conv => whnf); first | (refine ccA ([]) (c1) ?_) | (refine w_u8 ?_) | (refine Exists.intro [UInt8.ofNat ho, UInt8.ofNat ep] (And.intro rfl ?_)) | (refine And.intro (by simp; omega) ?_) | (refine stpQ ?_))
 (refine z00 (by rfl) ?_ ?_ (by rfl)) <;> (repeat' (first | (exact eqA) | (refine shE ?_) | (refine And.intro ?_ ?_))) <;> rfl
theorem z3Y (h : Hd) (g : h.good) : CT Tryz.prog 146 [] [.agg (hdE h)] (.str (z2l h)) [] := by
 have c1 := z57 h g
 have hl := z3F g
 have c2 := z1i 4 [z1o h] 16 (by omega) (z5K (by omega)) (by omega)
 unfold z2l
 generalize z1m 4 [z1o h] 16 = R at c2 ⊢
 generalize z1o h = t at c1 c2
 refine z01 z1G 1 rfl Tryz.func146 rfl rfl rfl ?_
 repeat ((try conv => whnf); first | (refine ccA ([]) (c1) ?_) | (refine ccA ([]) (c2) ?_) | (refine stpQ ?_))
 (refine z00 (by rfl) ?_ ?_ (by rfl)) <;> (repeat' (first | (exact eqA) | (refine shE ?_) | (refine And.intro ?_ ?_)))
theorem zi0 (h : Hd) : (z2l h).length = 16 := z1e (by omega)
theorem zfy (h : Hd) : (z2n h).length = 16 := z1e (by omega)
theorem zi1 (ep : Nat) (h : 1 ≤ ep ∧ ep ≤ 4) : CT Tryz.prog 181 [] [.int .i64 (ep : Int)] (.int .i64 ((ep - 1 : Nat) : Int)) [] := by
 have c2 := z8s (x := (ep : Int)) (lo := 1) (hi := 4) (by omega)
 have e : IntKind.i64.wrap ((ep : Int) - 1) = ((ep - 1 : Nat) : Int) := by rw [z08 (by omega) (by omega)]; omega
 refine z01 z1G 1 rfl Tryz.func181 rfl rfl rfl ?_
 repeat ((try conv => whnf); first | (refine ccA ([]) (c2) ?_) | (refine Exists.intro _ (And.intro e.symm ?_)) | (refine stpQ ?_))
 (refine z00 (by rfl) ?_ ?_ (by rfl)) <;> (repeat' (first | (exact eqA) | (refine shE ?_) | (refine And.intro ?_ ?_)))
theorem zfz (ho ep : Nat) (h1 : ho ≤ 2) (h : 1 ≤ ep ∧ ep ≤ 4) : CT Tryz.prog 83 [] [.int .i64 (ho : Int), .int .i64 (ep : Int)] (.int .i64 ((4 * (ho + 1) + ep - 1 : Nat) : Int)) [] := by
 have c1 := z8s (x := (ho : Int)) (lo := 0) (hi := 2) (by omega)
 have c2 := z8s (x := (ep : Int)) (lo := 1) (hi := 4) (by omega)
 obtain ⟨u1, hu1⟩ : ∃ u : Nat, u = ho + 1 := ⟨_, rfl⟩
 obtain ⟨u2, hu2⟩ : ∃ u : Nat, u = 4 * u1 := ⟨_, rfl⟩
 obtain ⟨u3, hu3⟩ : ∃ u : Nat, u = u2 + ep := ⟨_, rfl⟩
 obtain ⟨u4, hu4⟩ : ∃ u : Nat, u = u3 - 1 := ⟨_, rfl⟩
 have e1 : IntKind.i64.wrap ((ho : Int) + 1) = (u1 : Int) := by rw [z08 (by omega) (by omega)]; omega
 have e2 : IntKind.i64.wrap (4 * (u1 : Int)) = (u2 : Int) := by rw [z08 (by omega) (by omega)]; omega
 have e3 : IntKind.i64.wrap ((u2 : Int) + (ep : Int)) = (u3 : Int) := by rw [z08 (by omega) (by omega)]; omega
 have e4 : IntKind.i64.wrap ((u3 : Int) - 1) = (u4 : Int) := by rw [z08 (by omega) (by omega)]; omega
 rw [show 4 * (ho + 1) + ep - 1 = u4 by omega]
 clear hu1 hu2 hu3 hu4
 refine z01 z1G 1 rfl Tryz.func83 rfl rfl rfl ?_
 repeat ((try conv => whnf); first | (refine ccA ([]) (c1) ?_) | (refine ccA ([]) (c2) ?_) | (refine Exists.intro _ (And.intro e1.symm ?_)) | (refine Exists.intro _ (And.intro e2.symm ?_)) | (refine Exists.intro _ (And.intro e3.symm ?_)) | (refine Exists.intro _ (And.intro e4.symm ?_)) | (refine stpQ ?_))
 (refine z00 (by rfl) ?_ ?_ (by rfl)) <;> (repeat' (first | (exact eqA) | (refine shE ?_) | (refine And.intro ?_ ?_)))
theorem zi2 (h : Hd) (g : h.good) : CT Tryz.prog 85 [] [.agg (hdE h)] (.str (z2n h)) [] := by
 have c1 := z3Y h g
 have hl := zi0 h
 have c2 := z1i 8 [z2l h] 16 (by omega) (z5K (by omega)) (by omega)
 unfold z2n
 generalize z1m 8 [z2l h] 16 = R at c2 ⊢
 clear hl
 generalize z2l h = t at c1 c2
 refine z01 z1G 1 rfl Tryz.func85 rfl rfl rfl ?_
 repeat ((try conv => whnf); first | (refine ccA ([]) (c1) ?_) | (refine ccA ([]) (c2) ?_) | (refine stpQ ?_))
 (refine z00 (by rfl) ?_ ?_ (by rfl)) <;> (repeat' (first | (exact eqA) | (refine shE ?_) | (refine And.intro ?_ ?_)))
end Go.Proofs.YthcfalipgnpelaaGreatDoor
