/- Functions by content: the digit of a small number, by Go's library. Functions by content: the program's seeds, keys and pools. -/
import Derived.Test.YtkjjacndfieeoaaGreatDoorFb
import Derived.Test.YtkjjacndfieeoaaGreatDoorVd
import Derived.Test.YtkjjacndfieeoaaGreatDoorSp
import Derived.Test.YtkjjacndfieeoaaGreatDoorXt
namespace Go.Proofs.YtkjjacndfieeoaaGreatDoor
set_option maxRecDepth 100000
set_option maxHeartbeats 4000000
set_option linter.unusedVariables false
set_option linter.unusedSimpArgs false
set_option linter.unusedSectionVars false
open Go.RowKit Pl
attribute [local irreducible] z0m z0n z0q AnsP LeP W
theorem zj2 (n : Nat) (h : n ≤ 2) : CT Tryz.prog 209 [] [.int .i64 (n : Int)] (.str [UInt8.ofNat (48 + n)]) [] := by
 have hs : (([48, 49, 50, 51, 52, 53, 54, 55, 56, 57, 97, 98, 99, 100, 101, 102, 103, 104, 105, 106, 107, 108, 109, 110, 111, 112, 113, 114, 115, 116, 117, 118, 119, 120, 121, 122] : Bs).take (n + 1)).drop n = [UInt8.ofNat (48 + n)] := by
  rcases (show n = 0 ∨ n = 1 ∨ n = 2 by omega) with rfl | rfl | rfl <;> rfl
 have hl : n ≤ n + 1 ∧ n + 1 ≤ ([48, 49, 50, 51, 52, 53, 54, 55, 56, 57, 97, 98, 99, 100, 101, 102, 103, 104, 105, 106, 107, 108, 109, 110, 111, 112, 113, 114, 115, 116, 117, 118, 119, 120, 121, 122] : Bs).length := by simp; omega
 rw [← hs]
 refine z01 z0A 1 rfl Tryz.func209 rfl rfl rfl ?_
 repeat ((try conv => whnf); first | (refine wiQ ?_) | (refine i_cut hl ?_) | (refine stpQ ?_))
 (refine z00 (by rfl) ?_ ?_ (by rfl)) <;> (repeat' (first | (exact eqA) | (refine shE ?_) | (refine And.intro ?_ ?_)))
theorem zbc (n : Nat) (h : n ≤ 2) : CT Tryz.prog 198 [] [.int .i64 (n : Int), .int .i64 10] (.str [UInt8.ofNat (48 + n)]) [] := by
 have c0 := zj2 n h
 generalize [UInt8.ofNat (48 + n)] = D at c0 ⊢
 rcases (show n = 0 ∨ n = 1 ∨ n = 2 by omega) with rfl | rfl | rfl
 ·refine z01 z0A 1 rfl Tryz.func198 rfl rfl rfl ?_
  repeat ((try conv => whnf); first | (refine wiQ ?_) | (refine ccA ([]) (c0) ?_) | (refine cb_t rfl ?_) | (refine stpQ ?_))
  (refine z00 (by rfl) ?_ ?_ (by rfl)) <;> (repeat' (first | (exact eqA) | (refine shE ?_) | (refine And.intro ?_ ?_)))
 ·refine z01 z0A 1 rfl Tryz.func198 rfl rfl rfl ?_
  repeat ((try conv => whnf); first | (refine wiQ ?_) | (refine ccA ([]) (c0) ?_) | (refine cb_t rfl ?_) | (refine stpQ ?_))
  (refine z00 (by rfl) ?_ ?_ (by rfl)) <;> (repeat' (first | (exact eqA) | (refine shE ?_) | (refine And.intro ?_ ?_)))
 ·refine z01 z0A 1 rfl Tryz.func198 rfl rfl rfl ?_
  repeat ((try conv => whnf); first | (refine wiQ ?_) | (refine ccA ([]) (c0) ?_) | (refine cb_t rfl ?_) | (refine stpQ ?_))
  (refine z00 (by rfl) ?_ ?_ (by rfl)) <;> (repeat' (first | (exact eqA) | (refine shE ?_) | (refine And.intro ?_ ?_)))
theorem zj3 (n : Nat) (h : n ≤ 2) : CT Tryz.prog 177 [] [.int .i64 (n : Int)] (.str [UInt8.ofNat (48 + n)]) [] := by
 have c1 := zbc n h
 generalize [UInt8.ofNat (48 + n)] = D at c1 ⊢
 refine z01 z0A 1 rfl Tryz.func177 rfl rfl rfl ?_
 repeat ((try conv => whnf); first | (refine wiQ ?_) | (refine ccA ([]) (c1) ?_) | (refine stpQ ?_))
 (refine z00 (by rfl) ?_ ?_ (by rfl)) <;> (repeat' (first | (exact eqA) | (refine shE ?_) | (refine And.intro ?_ ?_)))
theorem c_Itoa (n : Nat) (h : n ≤ 2) : CT Tryz.prog 141 [] [.int .i64 (n : Int)] (.str [UInt8.ofNat (48 + n)]) [] := by
 have c2 := zj3 n h
 generalize [UInt8.ofNat (48 + n)] = D at c2 ⊢
 refine z01 z0A 1 rfl Tryz.func141 rfl rfl rfl ?_
 repeat ((try conv => whnf); first | (refine wiQ ?_) | (refine ccA ([]) (c2) ?_) | (refine stpQ ?_))
 (refine z00 (by rfl) ?_ ?_ (by rfl)) <;> (repeat' (first | (exact eqA) | (refine shE ?_) | (refine And.intro ?_ ?_)))
theorem zfW (n : Nat) (h : n ≤ 2) : CT Tryz.prog 102 [] [.int .i64 (n : Int)] (.str [UInt8.ofNat (48 + n)]) [] := by
 have c3 := c_Itoa n h
 generalize [UInt8.ofNat (48 + n)] = D at c3 ⊢
 refine z01 z0A 1 rfl Tryz.func102 rfl rfl rfl ?_
 repeat ((try conv => whnf); first | (refine wiQ ?_) | (refine ccA ([]) (c3) ?_) | (refine stpQ ?_))
 (refine z00 (by rfl) ?_ ?_ (by rfl)) <;> (repeat' (first | (exact eqA) | (refine shE ?_) | (refine And.intro ?_ ?_)))
end Go.Proofs.YtkjjacndfieeoaaGreatDoor
namespace Go.Proofs.YtkjjacndfieeoaaGreatDoor
set_option maxRecDepth 100000
set_option maxHeartbeats 4000000
set_option linter.unusedVariables false
set_option linter.unusedSimpArgs false
set_option linter.unusedSectionVars false
open Go.RowKit Pl
attribute [local irreducible] z0m z0n z0q AnsP LeP
theorem zcB (n : Nat) (h : n ≤ 2) : CT Tryz.prog 63 [] [.int .i64 (n : Int)] (.str (z0j n)) [] := by
 have c0 := zfW n h
 have c1 := z7I (n := (n : Int)) (by omega)
 show CT _ _ _ _ (.str ([104, 111, 117, 115, 101] ++ [UInt8.ofNat (48 + n)])) _
 refine z01 z0A 1 rfl Tryz.func63 rfl rfl rfl ?_
 repeat ((try conv => whnf); first | (refine ccA ([]) (c1) ?_) | (refine ccA ([]) (c0) ?_) | (refine And.intro (by simp) ?_) | (refine stpQ ?_))
 (refine z00 (by rfl) ?_ ?_ (by rfl)) <;> (repeat' (first | (exact eqA) | (refine shE ?_) | (refine And.intro ?_ ?_)))
theorem z8Q (seed : Bs) (a b v : Nat) (hs : seed.length ≤ 100) (ha : a < 16) (hb : b < 8) (hv : v < 2) : CT Tryz.prog 138 [] [.str seed, .int .i64 (a : Int), .int .i64 (b : Int), .int .i64 (v : Int)] (.str (secB seed a b v)) [] := by
 have c1 := zh6 (x := (a : Int)) (lo := 0) (hi := 15) (by omega)
 have c2 := zh6 (x := (b : Int)) (lo := 0) (hi := 7) (by omega)
 have c3 := zh6 (x := (v : Int)) (lo := 0) (hi := 1) (by omega)
 have c4 := z5r 5 [seed, [UInt8.ofNat a, UInt8.ofNat b, UInt8.ofNat v]] 16 (by omega) (z3h (by omega) (by simp)) (by omega)
 unfold secB
 generalize z1a 5 [seed, [UInt8.ofNat a, UInt8.ofNat b, UInt8.ofNat v]] 16 = R at c4 ⊢
 refine z01 z0A 1 rfl Tryz.func138 rfl rfl rfl ?_
 repeat ((try conv => whnf); first | (refine ccA ([]) (c1) ?_) | (refine ccA ([]) (c2) ?_) | (refine ccA ([]) (c3) ?_) | (refine w_u8 ?_) | (refine Exists.intro [UInt8.ofNat a, UInt8.ofNat b, UInt8.ofNat v] (And.intro rfl ?_)) | (refine ccA ([]) (c4) ?_) | (refine stpQ ?_))
 (refine z00 (by rfl) ?_ ?_ (by rfl)) <;> (repeat' (first | (exact eqA) | (refine shE ?_) | (refine And.intro ?_ ?_)))
theorem zi2 (s : Bs) (hs : s.length ≤ 200) : CT Tryz.prog 139 [] [.str s] (.str (z30 s)) [] := by
 have c4 := z5r 6 [s] 16 (by omega) (z8J hs) (by omega)
 unfold z30
 generalize z1a 6 [s] 16 = R at c4 ⊢
 refine z01 z0A 1 rfl Tryz.func139 rfl rfl rfl ?_
 repeat ((try conv => whnf); first | (refine ccA ([]) (c4) ?_) | (refine stpQ ?_))
 (refine z00 (by rfl) ?_ ?_ (by rfl)) <;> (repeat' (first | (exact eqA) | (refine shE ?_) | (refine And.intro ?_ ?_)))
theorem zcC (seed : Bs) (a : Nat) (hs : seed.length ≤ 100) (ha : a < 16) : CT Tryz.prog 101 [] [.str seed, .int .i64 (a : Int)] (.str (pubB seed a)) [] := by
 have cT := z6p 6 (z1j seed a 16) 16 (by omega) (zcx (by rw [z3u]; omega) z6s) (by omega)
 unfold pubB
 generalize z1a 6 (z1j seed a 16) 16 = R at cT ⊢
 refine z01 z0A 1 rfl Tryz.func101 rfl rfl rfl ?_
 repeat ((try conv => whnf); first | (refine stpQ ?_))
 refine z0i 0 ⟨[(5, .ref 1)], [(1, some (.row 1 (strE (z1j seed a 16))))], 2⟩ Nat (fun b => ⟨[(0, .str seed), (1, .int .i64 (a : Int)), (5, .ref 1), (9, .int .i64 (b : Int))], [(1, some (.row 1 (strE (z1j seed a (2 * b)))))], 2⟩) (fun b => b ≤ 8) (fun b => 8 - b) 0 (by omega) ?_ ?_ ?_
 ·(refine z02 (by rfl) ?_ ?_) <;> (repeat' (first | (exact eqA) | (refine shE ?_) | (refine And.intro ?_ ?_))) <;> first | rfl | decide
 ·intro b hb
  by_cases hlt : b < 8
  ·have hb8 : (b : Int) < 8 := by omega
   repeat ((try conv => whnf); first | (refine stpQ ?_))
   refine z0i 2 ⟨[(0, .str seed), (1, .int .i64 (a : Int)), (5, .ref 1), (9, .int .i64 (b : Int))], [(1, some (.row 1 (strE (z1j seed a (2 * (b + 1))))))], 2⟩ Nat (fun v => ⟨[(0, .str seed), (1, .int .i64 (a : Int)), (5, .ref 1), (6, .int .i64 (b : Int)), (9, .int .i64 (b : Int)), (12, .int .i64 (v : Int))], [(1, some (.row 1 (strE (z1j seed a (2 * b + v)))))], 2⟩) (fun v => v ≤ 2) (fun v => 2 - v) 0 (by omega) ?_ ?_ ?_
   ·(refine z02 (by rfl) ?_ ?_) <;> (repeat' (first | (exact eqA) | (refine shE ?_) | (refine And.intro ?_ ?_))) <;> first | rfl | decide
   ·intro v hv
    by_cases hv2 : v < 2
    ·have hv3 : (v : Int) < 2 := by omega
     have cs := z8Q seed a b v hs ha hlt hv2
     have hsl := z4m seed a b v
     have cl := zi2 (secB seed a b v) (by omega)
     have hnx := z2R seed a (2 * b + v)
     have e1 : (2 * b + v) / 2 = b := by omega
     have e2 : (2 * b + v) % 2 = v := by omega
     rw [e1, e2] at hnx
     have hll := z3u seed a (2 * b + v)
     generalize z1j seed a (2 * b + v) = o at hnx hll ⊢
     generalize z30 (secB seed a b v) = k at cl hnx
     obtain ⟨x, xs, hx⟩ := zcw hsl
     rw [hx] at cs cl
     clear hsl hx
     have hol := z0d o
     have hne : ¬ ((x :: xs : Bs) = []) := fun h => by cases h
     repeat ((try conv => whnf); first | (refine ccA ([]) (cs) ?_) | (refine z0o hne ?_) | (refine ccA ([]) (cl) ?_) | (refine And.intro (by simp [z0d]; omega) ?_) | (refine stpQ ?_))
     refine ⟨v + 1, by omega, by omega, ?_⟩
     rw [show 2 * b + (v + 1) = 2 * b + v + 1 by omega, hnx]
     (refine z02 (by rfl) ?_ ?_) <;> (repeat' (first | (exact eqA) | (refine shE ?_) | (refine And.intro ?_ ?_)))
     rw [z1m]; rfl
    ·obtain rfl : v = 2 := by omega
     repeat ((try conv => whnf); first | (refine stpQ ?_))
     (refine z02 (by rfl) ?_ ?_) <;> (repeat' (first | (exact eqA) | (refine shE ?_) | (refine And.intro ?_ ?_)))
     all_goals rfl
   ·repeat ((try conv => whnf); first | (refine stpQ ?_))
    refine ⟨b + 1, by omega, by omega, ?_⟩
    (refine z02 (by rfl) ?_ ?_) <;> (repeat' (first | (exact eqA) | (refine shE ?_) | (refine And.intro ?_ ?_)))
  ·obtain rfl : b = 8 := by omega
   repeat ((try conv => whnf); first | (refine stpQ ?_))
   (refine z02 (by rfl) ?_ ?_) <;> (repeat' (first | (exact eqA) | (refine shE ?_) | (refine And.intro ?_ ?_)))
 ·repeat ((try conv => whnf); first | (refine ccA ([]) (cT) ?_) | (refine stpQ ?_))
  (refine z00 (by rfl) ?_ ?_ (by rfl)) <;> (repeat' (first | (exact eqA) | (refine shE ?_) | (refine And.intro ?_ ?_)))
theorem c_Pool (seed : Bs) (hs : seed.length ≤ 100) : CT Tryz.prog 62 [] [.str seed] (.sl 1 (strE (z0g seed 16))) [] := by
 refine z01 z0A 1 rfl Tryz.func62 rfl rfl rfl ?_
 repeat ((try conv => whnf); first | (refine stpQ ?_))
 refine z0i 0 ⟨[(3, .ref 1)], [(1, some (.row 1 (strE (z0g seed 16))))], 2⟩ Nat (fun b => ⟨[(0, .str seed), (3, .ref 1), (5, .int .i64 (b : Int))], [(1, some (.row 1 (strE (z0g seed b))))], 2⟩) (fun b => b ≤ 16) (fun b => 16 - b) 0 (by omega) ?_ ?_ ?_
 ·(refine z02 (by rfl) ?_ ?_) <;> (repeat' (first | (exact eqA) | (refine shE ?_) | (refine And.intro ?_ ?_))) <;> first | rfl | decide
 ·intro b hb
  by_cases hlt : b < 16
  ·have hb8 : (b : Int) < 16 := by omega
   have cs := zcC seed b hs hlt
   have hnx := z7C seed b
   have hll := z0H seed b
   generalize z0g seed b = o at hnx hll ⊢
   generalize pubB seed b = k at cs hnx
   have hol := z0d o
   repeat ((try conv => whnf); first | (refine ccA ([]) (cs) ?_) | (refine And.intro (by simp [z0d]; omega) ?_) | (refine stpQ ?_))
   refine ⟨b + 1, by omega, by omega, ?_⟩
   rw [hnx]
   (refine z02 (by rfl) ?_ ?_) <;> (repeat' (first | (exact eqA) | (refine shE ?_) | (refine And.intro ?_ ?_)))
   rw [z1m]; rfl
  ·obtain rfl : b = 16 := by omega
   repeat ((try conv => whnf); first | (refine stpQ ?_))
   (refine z02 (by rfl) ?_ ?_) <;> (repeat' (first | (exact eqA) | (refine shE ?_) | (refine And.intro ?_ ?_)))
 ·repeat ((try conv => whnf); first | (refine stpQ ?_))
  (refine z00 (by rfl) ?_ ?_ (by rfl)) <;> (repeat' (first | (exact eqA) | (refine shE ?_) | (refine And.intro ?_ ?_)))
theorem z1W (l : List Bs) (h : (l.length : Int) ≤ 100000000) : CT Tryz.prog 66 [] [.sl 1 (strE l)] (.sl 1 (strE l)) [] := by
 have hl := z0d l
 refine z01 z0f 1 rfl Tryz.func66 rfl rfl rfl ?_
 repeat ((try conv => whnf); first | (refine And.intro (by simp only [List.length_append, List.length_cons, List.length_nil, List.nil_append, List.length_replicate, List.length_set]; omega) ?_) | (refine And.intro (by kernel_rfl) ?_) | (refine stpQ ?_))
 (refine z00 (by rfl) ?_ ?_ (by rfl)) <;> (repeat' (first | (exact eqA) | (refine shE ?_) | (refine And.intro ?_ ?_)))
end Go.Proofs.YtkjjacndfieeoaaGreatDoor
