/- Functions by content: the digit of a small number, by Go's library. Functions by content: the program's seeds, keys and pools. -/
import Derived.Test.YtnhcfmmdaihneaaGreatDoorFb
import Derived.Test.YtnhcfmmdaihneaaGreatDoorVd
import Derived.Test.YtnhcfmmdaihneaaGreatDoorSp
import Derived.Test.YtnhcfmmdaihneaaGreatDoorXt
namespace Go.Proofs.YtnhcfmmdaihneaaGreatDoor
set_option maxRecDepth 100000
set_option maxHeartbeats 4000000
set_option linter.unusedVariables false
set_option linter.unusedSimpArgs false
set_option linter.unusedSectionVars false
open Go.RowKit Pl
attribute [local irreducible] z0w z0x z0A AnsP LeP W
theorem zlb (n : Nat) (h : n ≤ 2) : CT Tryz.prog 290 [] [.int .i64 (n : Int)] (.str [UInt8.ofNat (48 + n)]) [] := by
 have hs : (([48, 49, 50, 51, 52, 53, 54, 55, 56, 57, 97, 98, 99, 100, 101, 102, 103, 104, 105, 106, 107, 108, 109, 110, 111, 112, 113, 114, 115, 116, 117, 118, 119, 120, 121, 122] : Bs).take (n + 1)).drop n = [UInt8.ofNat (48 + n)] := by
  rcases (show n = 0 ∨ n = 1 ∨ n = 2 by omega) with rfl | rfl | rfl <;> rfl
 have hl : n ≤ n + 1 ∧ n + 1 ≤ ([48, 49, 50, 51, 52, 53, 54, 55, 56, 57, 97, 98, 99, 100, 101, 102, 103, 104, 105, 106, 107, 108, 109, 110, 111, 112, 113, 114, 115, 116, 117, 118, 119, 120, 121, 122] : Bs).length := by simp; omega
 rw [← hs]
 refine z01 z0L 1 rfl Tryz.func290 rfl rfl rfl ?_
 repeat ((try conv => whnf); first | (refine wiQ ?_) | (refine zku hl ?_) | (refine stpQ ?_))
 (refine z00 (by rfl) ?_ ?_ (by rfl)) <;> (repeat' (first | (exact eqA) | (refine shE ?_) | (refine And.intro ?_ ?_)))
theorem zcm (n : Nat) (h : n ≤ 2) : CT Tryz.prog 275 [] [.int .i64 (n : Int), .int .i64 10] (.str [UInt8.ofNat (48 + n)]) [] := by
 have c0 := zlb n h
 generalize [UInt8.ofNat (48 + n)] = D at c0 ⊢
 rcases (show n = 0 ∨ n = 1 ∨ n = 2 by omega) with rfl | rfl | rfl
 ·refine z01 z0L 1 rfl Tryz.func275 rfl rfl rfl ?_
  repeat ((try conv => whnf); first | (refine wiQ ?_) | (refine ccA ([]) (c0) ?_) | (refine cb_t rfl ?_) | (refine stpQ ?_))
  (refine z00 (by rfl) ?_ ?_ (by rfl)) <;> (repeat' (first | (exact eqA) | (refine shE ?_) | (refine And.intro ?_ ?_)))
 ·refine z01 z0L 1 rfl Tryz.func275 rfl rfl rfl ?_
  repeat ((try conv => whnf); first | (refine wiQ ?_) | (refine ccA ([]) (c0) ?_) | (refine cb_t rfl ?_) | (refine stpQ ?_))
  (refine z00 (by rfl) ?_ ?_ (by rfl)) <;> (repeat' (first | (exact eqA) | (refine shE ?_) | (refine And.intro ?_ ?_)))
 ·refine z01 z0L 1 rfl Tryz.func275 rfl rfl rfl ?_
  repeat ((try conv => whnf); first | (refine wiQ ?_) | (refine ccA ([]) (c0) ?_) | (refine cb_t rfl ?_) | (refine stpQ ?_))
  (refine z00 (by rfl) ?_ ?_ (by rfl)) <;> (repeat' (first | (exact eqA) | (refine shE ?_) | (refine And.intro ?_ ?_)))
theorem zlc (n : Nat) (h : n ≤ 2) : CT Tryz.prog 253 [] [.int .i64 (n : Int)] (.str [UInt8.ofNat (48 + n)]) [] := by
 have c1 := zcm n h
 generalize [UInt8.ofNat (48 + n)] = D at c1 ⊢
 refine z01 z0L 1 rfl Tryz.func253 rfl rfl rfl ?_
 repeat ((try conv => whnf); first | (refine wiQ ?_) | (refine ccA ([]) (c1) ?_) | (refine stpQ ?_))
 (refine z00 (by rfl) ?_ ?_ (by rfl)) <;> (repeat' (first | (exact eqA) | (refine shE ?_) | (refine And.intro ?_ ?_)))
theorem c_Itoa (n : Nat) (h : n ≤ 2) : CT Tryz.prog 192 [] [.int .i64 (n : Int)] (.str [UInt8.ofNat (48 + n)]) [] := by
 have c2 := zlc n h
 generalize [UInt8.ofNat (48 + n)] = D at c2 ⊢
 refine z01 z0L 1 rfl Tryz.func192 rfl rfl rfl ?_
 repeat ((try conv => whnf); first | (refine wiQ ?_) | (refine ccA ([]) (c2) ?_) | (refine stpQ ?_))
 (refine z00 (by rfl) ?_ ?_ (by rfl)) <;> (repeat' (first | (exact eqA) | (refine shE ?_) | (refine And.intro ?_ ?_)))
theorem zht (n : Nat) (h : n ≤ 2) : CT Tryz.prog 139 [] [.int .i64 (n : Int)] (.str [UInt8.ofNat (48 + n)]) [] := by
 have c3 := c_Itoa n h
 generalize [UInt8.ofNat (48 + n)] = D at c3 ⊢
 refine z01 z0L 1 rfl Tryz.func139 rfl rfl rfl ?_
 repeat ((try conv => whnf); first | (refine wiQ ?_) | (refine ccA ([]) (c3) ?_) | (refine stpQ ?_))
 (refine z00 (by rfl) ?_ ?_ (by rfl)) <;> (repeat' (first | (exact eqA) | (refine shE ?_) | (refine And.intro ?_ ?_)))
end Go.Proofs.YtnhcfmmdaihneaaGreatDoor
namespace Go.Proofs.YtnhcfmmdaihneaaGreatDoor
set_option maxRecDepth 100000
set_option maxHeartbeats 4000000
set_option linter.unusedVariables false
set_option linter.unusedSimpArgs false
set_option linter.unusedSectionVars false
open Go.RowKit Pl
attribute [local irreducible] z0w z0x z0A AnsP LeP
theorem zdW (n : Nat) (h : n ≤ 2) : CT Tryz.prog 61 [] [.int .i64 (n : Int)] (.str (z2U n)) [] := by
 have c0 := zht n h
 have c1 := z5M (n := (n : Int)) (by omega)
 show CT _ _ _ _ (.str ([104, 111, 117, 115, 101] ++ [UInt8.ofNat (48 + n)])) _
 refine z01 z0L 1 rfl Tryz.func61 rfl rfl rfl ?_
 repeat ((try conv => whnf); first | (refine ccA ([]) (c1) ?_) | (refine ccA ([]) (c0) ?_) | (refine And.intro (by simp) ?_) | (refine stpQ ?_))
 (refine z00 (by rfl) ?_ ?_ (by rfl)) <;> (repeat' (first | (exact eqA) | (refine shE ?_) | (refine And.intro ?_ ?_)))
theorem zjc (seed : Bs) (a b v : Nat) (hs : seed.length ≤ 100) (ha : a < 16) (hb : b < 8) (hv : v < 2) : CT Tryz.prog 189 [] [.str seed, .int .i64 (a : Int), .int .i64 (b : Int), .int .i64 (v : Int)] (.str (secB seed a b v)) [] := by
 have c1 := zl0 (x := (a : Int)) (lo := 0) (hi := 15) (by omega)
 have c2 := zl0 (x := (b : Int)) (lo := 0) (hi := 7) (by omega)
 have c3 := zl0 (x := (v : Int)) (lo := 0) (hi := 1) (by omega)
 have c4 := z9g 5 [seed, [UInt8.ofNat a, UInt8.ofNat b, UInt8.ofNat v]] 16 (by omega) (zaL (by omega) (by simp)) (by omega)
 unfold secB
 generalize z2x 5 [seed, [UInt8.ofNat a, UInt8.ofNat b, UInt8.ofNat v]] 16 = R at c4 ⊢
 refine z01 z0L 1 rfl Tryz.func189 rfl rfl rfl ?_
 repeat ((try conv => whnf); first | (refine ccA ([]) (c1) ?_) | (refine ccA ([]) (c2) ?_) | (refine ccA ([]) (c3) ?_) | (refine w_u8 ?_) | (refine Exists.intro [UInt8.ofNat a, UInt8.ofNat b, UInt8.ofNat v] (And.intro rfl ?_)) | (refine ccA ([]) (c4) ?_) | (refine stpQ ?_))
 (refine z00 (by rfl) ?_ ?_ (by rfl)) <;> (repeat' (first | (exact eqA) | (refine shE ?_) | (refine And.intro ?_ ?_)))
theorem c_Lock (s : Bs) (hs : s.length ≤ 200) : CT Tryz.prog 190 [] [.str s] (.str (z7o s)) [] := by
 have c4 := z9g 6 [s] 16 (by omega) (zdJ hs) (by omega)
 unfold z7o
 generalize z2x 6 [s] 16 = R at c4 ⊢
 refine z01 z0L 1 rfl Tryz.func190 rfl rfl rfl ?_
 repeat ((try conv => whnf); first | (refine ccA ([]) (c4) ?_) | (refine stpQ ?_))
 (refine z00 (by rfl) ?_ ?_ (by rfl)) <;> (repeat' (first | (exact eqA) | (refine shE ?_) | (refine And.intro ?_ ?_)))
theorem zjd (seed : Bs) (a : Nat) (hs : seed.length ≤ 100) (ha : a < 16) : CT Tryz.prog 138 [] [.str seed, .int .i64 (a : Int)] (.str (pubB seed a)) [] := by
 have cT := zaK 6 (z1H seed a 16) 16 (by omega) (ziY (by rw [z48]; omega) z7q) (by omega)
 unfold pubB
 generalize z2x 6 (z1H seed a 16) 16 = R at cT ⊢
 refine z01 z0L 1 rfl Tryz.func138 rfl rfl rfl ?_
 repeat ((try conv => whnf); first | (refine stpQ ?_))
 refine z0n 0 ⟨[(5, .ref 1)], [(1, some (.row 1 (strE (z1H seed a 16))))], 2⟩ Nat (fun b => ⟨[(0, .str seed), (1, .int .i64 (a : Int)), (5, .ref 1), (9, .int .i64 (b : Int))], [(1, some (.row 1 (strE (z1H seed a (2 * b)))))], 2⟩) (fun b => b ≤ 8) (fun b => 8 - b) 0 (by omega) ?_ ?_ ?_
 ·(refine z02 (by rfl) ?_ ?_) <;> (repeat' (first | (exact eqA) | (refine shE ?_) | (refine And.intro ?_ ?_))) <;> first | rfl | decide
 ·intro b hb
  by_cases hlt : b < 8
  ·have hb8 : (b : Int) < 8 := by omega
   repeat ((try conv => whnf); first | (refine stpQ ?_))
   refine z0n 2 ⟨[(0, .str seed), (1, .int .i64 (a : Int)), (5, .ref 1), (9, .int .i64 (b : Int))], [(1, some (.row 1 (strE (z1H seed a (2 * (b + 1))))))], 2⟩ Nat (fun v => ⟨[(0, .str seed), (1, .int .i64 (a : Int)), (5, .ref 1), (6, .int .i64 (b : Int)), (9, .int .i64 (b : Int)), (12, .int .i64 (v : Int))], [(1, some (.row 1 (strE (z1H seed a (2 * b + v)))))], 2⟩) (fun v => v ≤ 2) (fun v => 2 - v) 0 (by omega) ?_ ?_ ?_
   ·(refine z02 (by rfl) ?_ ?_) <;> (repeat' (first | (exact eqA) | (refine shE ?_) | (refine And.intro ?_ ?_))) <;> first | rfl | decide
   ·intro v hv
    by_cases hv2 : v < 2
    ·have hv3 : (v : Int) < 2 := by omega
     have cs := zjc seed a b v hs ha hlt hv2
     have hsl := zdI seed a b v
     have cl := c_Lock (secB seed a b v) (by omega)
     have hnx := z7p seed a (2 * b + v)
     have e1 : (2 * b + v) / 2 = b := by omega
     have e2 : (2 * b + v) % 2 = v := by omega
     rw [e1, e2] at hnx
     have hll := z48 seed a (2 * b + v)
     generalize z1H seed a (2 * b + v) = o at hnx hll ⊢
     generalize z7o (secB seed a b v) = k at cl hnx
     obtain ⟨x, xs, hx⟩ := ziX hsl
     rw [hx] at cs cl
     clear hsl hx
     have hol := z0m o
     have hne : ¬ ((x :: xs : Bs) = []) := fun h => by cases h
     repeat ((try conv => whnf); first | (refine ccA ([]) (cs) ?_) | (refine z0j hne ?_) | (refine ccA ([]) (cl) ?_) | (refine And.intro (by simp [z0m]; omega) ?_) | (refine stpQ ?_))
     refine ⟨v + 1, by omega, by omega, ?_⟩
     rw [show 2 * b + (v + 1) = 2 * b + v + 1 by omega, hnx]
     (refine z02 (by rfl) ?_ ?_) <;> (repeat' (first | (exact eqA) | (refine shE ?_) | (refine And.intro ?_ ?_)))
     rw [z6u]; rfl
    ·obtain rfl : v = 2 := by omega
     repeat ((try conv => whnf); first | (refine stpQ ?_))
     (refine z02 (by rfl) ?_ ?_) <;> (repeat' (first | (exact eqA) | (refine shE ?_) | (refine And.intro ?_ ?_)))
     all_goals rfl
   ·repeat ((try conv => whnf); first | (refine stpQ ?_))
    refine ⟨b + 1, by omega, by omega, ?_⟩
    (refine z02 (by rfl) ?_ ?_) <;> (repeat' (first | (exact eqA) | (refine shE ?_) | (refine And.intro ?_ ?_)))
  ·obtain rfl : b = 8 := by omega
   repeat ((try conv => whnf); first | (refine stpQ ?_))
   (refine z02 (by rfl) ?_ ?_) <;> (repeat' (first | (exact eqA) | (refine shE ?_) | (refine And.intro ?_ ?_)))
 ·repeat ((try conv => whnf); first | (refine ccA ([]) (cT) ?_) | (refine stpQ ?_))
  (refine z00 (by rfl) ?_ ?_ (by rfl)) <;> (repeat' (first | (exact eqA) | (refine shE ?_) | (refine And.intro ?_ ?_)))
theorem zhu (seed : Bs) (hs : seed.length ≤ 100) : CT Tryz.prog 60 [] [.str seed] (.sl 1 (strE (z1c seed 16))) [] := by
 refine z01 z0L 1 rfl Tryz.func60 rfl rfl rfl ?_
 repeat ((try conv => whnf); first | (refine stpQ ?_))
 refine z0n 0 ⟨[(3, .ref 1)], [(1, some (.row 1 (strE (z1c seed 16))))], 2⟩ Nat (fun b => ⟨[(0, .str seed), (3, .ref 1), (5, .int .i64 (b : Int))], [(1, some (.row 1 (strE (z1c seed b))))], 2⟩) (fun b => b ≤ 16) (fun b => 16 - b) 0 (by omega) ?_ ?_ ?_
 ·(refine z02 (by rfl) ?_ ?_) <;> (repeat' (first | (exact eqA) | (refine shE ?_) | (refine And.intro ?_ ?_))) <;> first | rfl | decide
 ·intro b hb
  by_cases hlt : b < 16
  ·have hb8 : (b : Int) < 16 := by omega
   have cs := zjd seed b hs hlt
   have hnx := z8t seed b
   have hll := z1D seed b
   generalize z1c seed b = o at hnx hll ⊢
   generalize pubB seed b = k at cs hnx
   have hol := z0m o
   repeat ((try conv => whnf); first | (refine ccA ([]) (cs) ?_) | (refine And.intro (by simp [z0m]; omega) ?_) | (refine stpQ ?_))
   refine ⟨b + 1, by omega, by omega, ?_⟩
   rw [hnx]
   (refine z02 (by rfl) ?_ ?_) <;> (repeat' (first | (exact eqA) | (refine shE ?_) | (refine And.intro ?_ ?_)))
   rw [z6u]; rfl
  ·obtain rfl : b = 16 := by omega
   repeat ((try conv => whnf); first | (refine stpQ ?_))
   (refine z02 (by rfl) ?_ ?_) <;> (repeat' (first | (exact eqA) | (refine shE ?_) | (refine And.intro ?_ ?_)))
 ·repeat ((try conv => whnf); first | (refine stpQ ?_))
  (refine z00 (by rfl) ?_ ?_ (by rfl)) <;> (repeat' (first | (exact eqA) | (refine shE ?_) | (refine And.intro ?_ ?_)))
end Go.Proofs.YtnhcfmmdaihneaaGreatDoor
