/- Functions by content: the reference's new house; what new servers and coordinators hold. Functions by content: a house is made; its rows are told as rows that may be moved. -/
import Derived.Test.YtnhcfmmdaihneaaGreatDoorSnd
import Derived.Test.YtnhcfmmdaihneaaGreatDoorCsn
import Derived.Test.YtnhcfmmdaihneaaGreatDoorMh
import Derived.Test.YtnhcfmmdaihneaaGreatDoorCde
import Derived.Test.YtnhcfmmdaihneaaGreatDoorCsx
namespace Go.Proofs.YtnhcfmmdaihneaaGreatDoor
set_option linter.unusedVariables false
set_option linter.unusedSimpArgs false
set_option linter.unusedSectionVars false
open Go.RowKit Pl
theorem z76 (n : Bs) : z0i [] n = [] := by
 unfold z0i
 split <;> rfl
theorem z5r : z2T [] := ⟨by decide, fun k => by
 have h : flAt [] k = flAt [] 0 := by cases k <;> rfl
 rw [h]
 exact ⟨by decide, by decide⟩⟩
def srD (k i : Nat) : List T := [.int .i64 (i : Int), .int .i64 (k : Int), .bool true, .own 3 [], .int .i64 0, .own 1 [[.own 2 []]], .own 1 [[.int .i64 0]], .own 3 [], .int .i64 0, .int .i64 0, .int .i64 0]
def srR (k i : Nat) : List T := [.int .i64 (i : Int), .int .i64 (k : Int), .bool true, .sl 3 [], .int .i64 0, .sl 1 [[.sl 2 []]], .sl 1 [[.int .i64 0]], .sl 3 [], .int .i64 0, .int .i64 0, .int .i64 0]
def svD (k n : Nat) : List (List T) := (List.range n).map (srD k)
def svR1 (k n : Nat) : List (List T) := (List.range n).map (srR k)
theorem zdZ (k n : Nat) : svD k (n + 1) = svD k n ++ [srD k n] := by simp [svD, List.range_succ]
theorem zhD (k n : Nat) : svR1 k (n + 1) = svR1 k n ++ [srR k n] := by simp [svR1, List.range_succ]
theorem zhE (k n : Nat) : (svD k n).length = n := by simp [svD]
theorem ze0 (k n : Nat) : (svR1 k n).length = n := by simp [svR1]
theorem uc_srD (k i : Nat) : ucL (srD k i) = srR k i := by simp [srD, srR, ucL, ucT, ucE]
theorem uc_svD (k : Nat) : ∀ n, ucE (svD k n) = svR1 k n := fun n => by
 unfold svD svR1
 induction List.range n with
 | nil => simp [ucE]
 | cons x l ih => simp only [List.map_cons, ucE, ih, uc_srD]
section
attribute [local irreducible] z0w z0x z0A AnsP LeP W CvE
theorem zb8 (a K : Int) : CT Tryz.prog 89 [] [.int .i64 a, .int .i64 K, .agg [.sl 3 []]] (.agg [.int .i64 a, .int .i64 K, .bool true, .ref 1, .int .i64 0, .ref 2, .ref 3, .ref 4, .int .i64 0, .int .i64 0, .int .i64 0]) [.deep 3 [] [], .deep 1 [[.own 2 []]] [], .deep 1 [[.int .i64 0]] [], .deep 3 [] []] := by
 have := zaZ a K [] z5r
 rw [z76] at this
 exact this
theorem z9x (a K : Int) : CT Tryz.prog 86 [] [.int .i64 a, .int .i64 K, .agg [.sl 3 []]] (.agg [.int .i64 a, .int .i64 K, .bool true, .sl 3 [], .int .i64 0, .sl 1 [[.sl 2 []]], .sl 1 [[.int .i64 0]], .sl 3 [], .int .i64 0, .int .i64 0, .int .i64 0]) [] := by
 have := zaX a K [] z5r
 rw [zhv, z76] at this
 exact this
theorem zb9 (ho : Nat) (hho : ho ≤ 2) (k : Nat) (hk : k ≤ 2) : CT Tryz.prog 14 [] [.int .i64 (ho : Int), .int .i64 (k : Int), .agg [.sl 3 []]] (.agg [.int .i64 (ho : Int), .int .i64 (k : Int), .bool true, .sl 3 [], .sl 1 (strE (z1c (z2U ho) 16)), .sl 8 [], .sl 1 [], .int .i64 0, .bool false, .sl 1 (emV (2 ^ k)), .sl 1 (emD (2 ^ k))]) [] := by
 have := zcu ho hho k hk [] z5r
 rw [z76] at this
 exact this
set_option maxRecDepth 100000 in
set_option maxHeartbeats 8000000 in
theorem zba (ho : Nat) (hho : ho ≤ 2) (k : Nat) (hk : k ≤ 2) : CT Tryz.prog 26 [] [.int .i64 (ho : Int), .int .i64 (k : Int)]
 (.tup [.agg [.int .i64 (ho : Int), .int .i64 (k : Int), .bool true, .sl 3 [], .sl 1 (strE (z1c (z2U ho) 16)), .sl 8 [], .sl 1 [], .int .i64 0, .bool false, .sl 1 (emV (2 ^ k)), .sl 1 (emD (2 ^ k)), .sl 11 (svR1 k (2 ^ k)), .sl 1 [], .sl 1 []], .bool true]) [] := by
 have c1 := z9u (x := (ho : Int)) (lo := 0) (hi := 2) (by omega)
 have c2 := z9u (x := (k : Int)) (lo := 0) (hi := 2) (by omega)
 have c3 := zb9 ho hho k hk
 have c4 := z7F k hk
 obtain ⟨e1, e2⟩ := pow2 hk
 generalize z1c (z2U ho) 16 = P at *
 generalize emV (2 ^ k) = V at *
 generalize emD (2 ^ k) = D at *
 generalize 2 ^ k = pk at e1 e2 c4 ⊢
 refine z01 z03 1 rfl Tryz.func26 rfl rfl rfl ?_
 conv => arg 6; whnf
 repeat ((try conv => whnf); first | (with_reducible first | refine z0c (fun Qs hN hE hR => ?_) | refine z0a ?_ | refine z04 (fun Qb kN kE kX kR => ?_) | refine z06 ?_ | refine z07 ?_ | refine z0b ?_ | refine z08 ?_ | refine z09 ?_ | (show W _ _ _ (.cond _ _ _) _ _; refine z05 rfl ?_) | (refine hN _ ?_; try clear hN hE hR Qs; (try (conv => arg 6; dsimp only [ovl, List.set, List.map, ren0]))) | ((first | refine hE _ _ ?_ | refine hR _ ?_); try clear hN hE hR Qs) | ((first | refine kN _ ?_ | refine kE _ ?_ | refine kX _ _ rfl ?_ | refine kR _ ?_); try clear kN kE kX kR Qb)) | (refine ccA ([]) (c1) ?_) | (refine ccA ([]) (c2) ?_) | (refine ccA ([]) (c3) ?_) | (refine And.intro (by kernel_rfl) ?_) | (refine stpQ ?_))
 refine z0n 0 ⟨[(4, .ptr 1 0 0), (6, .ptr 2 0 0)], [(1, some (.box [.int .i64 0, .int .i64 0, .bool false, .val nilV, .val nilV, .val nilV, .val nilV, .int .i64 0, .bool false, .val nilV, .val nilV, .val nilV, .val nilV, .val nilV])), (2, some (.box [.int .i64 (ho : Int), .int .i64 (k : Int), .bool true, .sl 3 [], .sl 1 (strE P), .sl 8 [], .sl 1 [], .int .i64 0, .bool false, .sl 1 V, .sl 1 D, .ref 3, .val nilV, .val nilV])), (3, some (.row 11 (svR1 k pk)))], 4⟩ Nat (fun i => ⟨[(0, .int .i64 (ho : Int)), (1, .int .i64 (k : Int)), (4, .ptr 1 0 0), (6, .ptr 2 0 0), (7, .int .i64 (i : Int))], [(1, some (.box [.int .i64 0, .int .i64 0, .bool false, .val nilV, .val nilV, .val nilV, .val nilV, .int .i64 0, .bool false, .val nilV, .val nilV, .val nilV, .val nilV, .val nilV])), (2, some (.box [.int .i64 (ho : Int), .int .i64 (k : Int), .bool true, .sl 3 [], .sl 1 (strE P), .sl 8 [], .sl 1 [], .int .i64 0, .bool false, .sl 1 V, .sl 1 D, .ref 3, .val nilV, .val nilV])), (3, some (.row 11 (svR1 k i)))], 4⟩) (fun i => i ≤ pk) (fun i => pk - i) 0 (Nat.zero_le _) ?_ ?_ ?_
 ·(refine z02 (by rfl) ?_ ?_)
  all_goals (repeat' (first | (exact trivial) | ((try conv => whnf); first | (exact trivial) | (refine And.intro ?_ ?_))))
  all_goals first
   | rfl
   | decide
 ·intro i hi
  have cs := z9x (i : Int) (k : Int)
  have hnx := zhD k i
  have hlen := ze0 k i
  by_cases hlt : i < pk
  ·have f1 : (i : Int) < ((pk : Nat) : Int) := by omega
   generalize svR1 k i = R at *
   repeat ((try conv => whnf); first | (with_reducible first | refine z0c (fun Qs hN hE hR => ?_) | refine z0a ?_ | refine z04 (fun Qb kN kE kX kR => ?_) | refine z06 ?_ | refine z07 ?_ | refine z0b ?_ | refine z08 ?_ | refine z09 ?_ | (show W _ _ _ (.cond _ _ _) _ _; refine z05 rfl ?_) | (refine hN _ ?_; try clear hN hE hR Qs; (try (conv => arg 6; dsimp only [ovl, List.set, List.map, ren0]))) | ((first | refine hE _ _ ?_ | refine hR _ ?_); try clear hN hE hR Qs) | ((first | refine kN _ ?_ | refine kE _ ?_ | refine kX _ _ rfl ?_ | refine kR _ ?_); try clear kN kE kX kR Qb)) | (refine ccA ([]) (c4) ?_) | (refine z0o f1 ?_) | (refine ccA ([]) (cs) ?_) | (refine And.intro (by simp only [List.length_append, List.length_set, List.length_replicate, List.length_cons, List.length_nil]; omega) ?_) | (refine And.intro (by kernel_rfl) ?_) | (refine stpQ ?_))
   refine ⟨i + 1, hlt, by omega, ?_⟩
   rw [hnx]
   (refine z02 (by rfl) ?_ ?_) <;> (repeat' (first | (exact eqA) | (refine shE ?_) | (refine And.intro ?_ ?_))) <;> rfl
  ·have hie : i = pk := by omega
   subst hie
   have f1 : ¬ ((i : Nat) : Int) < ((i : Nat) : Int) := by omega
   repeat ((try conv => whnf); first | (with_reducible first | refine z0c (fun Qs hN hE hR => ?_) | refine z0a ?_ | refine z04 (fun Qb kN kE kX kR => ?_) | refine z06 ?_ | refine z07 ?_ | refine z0b ?_ | refine z08 ?_ | refine z09 ?_ | (show W _ _ _ (.cond _ _ _) _ _; refine z05 rfl ?_) | (refine hN _ ?_; try clear hN hE hR Qs; (try (conv => arg 6; dsimp only [ovl, List.set, List.map, ren0]))) | ((first | refine hE _ _ ?_ | refine hR _ ?_); try clear hN hE hR Qs) | ((first | refine kN _ ?_ | refine kE _ ?_ | refine kX _ _ rfl ?_ | refine kR _ ?_); try clear kN kE kX kR Qb)) | (refine ccA ([]) (c4) ?_) | (refine z0j f1 ?_) | (refine stpQ ?_))
   (refine z02 (by rfl) ?_ ?_) <;> (repeat' (first | (exact eqA) | (refine shE ?_) | (refine And.intro ?_ ?_))) <;> rfl
 ·repeat ((try conv => whnf); first | (with_reducible first | refine z0c (fun Qs hN hE hR => ?_) | refine z0a ?_ | refine z04 (fun Qb kN kE kX kR => ?_) | refine z06 ?_ | refine z07 ?_ | refine z0b ?_ | refine z08 ?_ | refine z09 ?_ | (show W _ _ _ (.cond _ _ _) _ _; refine z05 rfl ?_) | (refine hN _ ?_; try clear hN hE hR Qs; (try (conv => arg 6; dsimp only [ovl, List.set, List.map, ren0]))) | ((first | refine hE _ _ ?_ | refine hR _ ?_); try clear hN hE hR Qs) | ((first | refine kN _ ?_ | refine kE _ ?_ | refine kX _ _ rfl ?_ | refine kR _ ?_); try clear kN kE kX kR Qb)) | (refine And.intro (by kernel_rfl) ?_) | (refine stpQ ?_))
  (refine z00 (by rfl) ?_ ?_ (by rfl)) <;> (repeat' (first | (exact eqA) | (refine shE ?_) | (refine And.intro ?_ ?_))) <;> first | rfl | decide
end
end Go.Proofs.YtnhcfmmdaihneaaGreatDoor
namespace Go.Proofs.YtnhcfmmdaihneaaGreatDoor
set_option maxRecDepth 100000
set_option maxHeartbeats 8000000
set_option linter.unusedVariables false
set_option linter.unusedSimpArgs false
set_option linter.unusedSectionVars false
open Go.RowKit Pl
section
attribute [local irreducible] z0w z0x z0A AnsP LeP W CvE
theorem zcx (ho : Nat) (hho : ho ≤ 2) (k : Nat) (hk : k ≤ 2) : CT Tryz.prog 16 [] [.int .i64 (ho : Int), .int .i64 (k : Int), .agg [.sl 3 []]] (.agg [.int .i64 (ho : Int), .int .i64 (k : Int), .bool true, .ref 1, .ref 2, .ref 3, .ref 4, .int .i64 0, .bool false, .ref 5, .ref 6]) [.deep 3 [] [], .deep 1 (strE (z1c (z2U ho) 16)) [], .deep 8 [] [], .deep 1 [] [], .deep 1 (emV (2 ^ k)) [], .deep 1 (emD (2 ^ k)) []] := by
 have := zcp ho hho k hk [] z5r
 rw [z76] at this
 exact this
theorem zcy (ho : Nat) (hho : ho ≤ 2) (k : Nat) (hk : k ≤ 2) : CT Tryz.prog 27 [] [.int .i64 (ho : Int), .int .i64 (k : Int)]
 (.tup [.agg [.int .i64 (ho : Int), .int .i64 (k : Int), .bool true, .ref 1, .ref 2, .ref 3, .ref 4, .int .i64 0, .bool false, .ref 5, .ref 6, .ref 7, .ref 8, .ref 9], .bool true])
 [.deep 3 [] [], .deep 1 (strE (z1c (z2U ho) 16)) [], .deep 8 [] [], .deep 1 [] [], .deep 1 (emV (2 ^ k)) [], .deep 1 (emD (2 ^ k)) [], .deep 11 (svD k (2 ^ k)) [], .deep 1 [] [], .deep 1 [] []] := by
 have c1 := z5M (n := (ho : Int)) (by omega)
 have c2 := z5N (n := (k : Int)) (by omega)
 have c3 := zcx ho hho k hk
 have c4 := fun i : Nat => zb8 (i : Int) (k : Int)
 obtain ⟨e1, e2⟩ := pow2 hk
 generalize z1c (z2U ho) 16 = P at *
 generalize emV (2 ^ k) = V at *
 generalize emD (2 ^ k) = D at *
 generalize 2 ^ k = pk at e1 e2 ⊢
 refine z01 z03 1 rfl Tryz.func27 rfl rfl rfl ?_
 conv => arg 6; whnf
 repeat ((try conv => whnf); first | (with_reducible first | refine z0c (fun Qs hN hE hR => ?_) | refine z0a ?_ | refine z04 (fun Qb kN kE kX kR => ?_) | refine z06 ?_ | refine z07 ?_ | refine z0b ?_ | refine z08 ?_ | refine z09 ?_ | (show W _ _ _ (.cond _ _ _) _ _; refine z05 rfl ?_) | (refine hN _ ?_; try clear hN hE hR Qs; (try (conv => arg 6; dsimp only [ovl, List.set, List.map, ren0]))) | ((first | refine hE _ _ ?_ | refine hR _ ?_); try clear hN hE hR Qs) | ((first | refine kN _ ?_ | refine kE _ ?_ | refine kX _ _ rfl ?_ | refine kR _ ?_); try clear kN kE kX kR Qb)) | (refine ccA ([]) (c1) ?_) | (refine ccA ([]) (c2) ?_) | (refine ccA ([]) (c3) ?_) | (refine And.intro (show _ ≤ (64 : Int) from by omega) ?_) | (refine Exists.intro _ (And.intro e1.symm ?_)) | (refine And.intro (by kernel_rfl) ?_) | (refine stpQ ?_))
 refine z0n 0 ⟨[(4, .ptr 1 0 0), (6, .ptr 2 0 0)], [(1, some (.box [.int .i64 0, .int .i64 0, .bool false, .val nilV, .val nilV, .val nilV, .val nilV, .int .i64 0, .bool false, .val nilV, .val nilV, .val nilV, .val nilV, .val nilV])), (2, some (.box [.int .i64 (ho : Int), .int .i64 (k : Int), .bool true, .ref 3, .ref 4, .ref 5, .ref 6, .int .i64 0, .bool false, .ref 7, .ref 8, .ref 9, .val nilV, .val nilV])), (3, some (.deep 3 [] [])), (4, some (.deep 1 (strE P) [])), (5, some (.deep 8 [] [])), (6, some (.deep 1 [] [])), (7, some (.deep 1 V [])), (8, some (.deep 1 D [])), (9, some (.deep 11 (svD k pk) []))], 10⟩ Nat (fun i => ⟨[(0, .int .i64 (ho : Int)), (1, .int .i64 (k : Int)), (4, .ptr 1 0 0), (6, .ptr 2 0 0), (23, .int .i64 ((pk : Nat) : Int)), (24, .int .i64 (i : Int))], [(1, some (.box [.int .i64 0, .int .i64 0, .bool false, .val nilV, .val nilV, .val nilV, .val nilV, .int .i64 0, .bool false, .val nilV, .val nilV, .val nilV, .val nilV, .val nilV])), (2, some (.box [.int .i64 (ho : Int), .int .i64 (k : Int), .bool true, .ref 3, .ref 4, .ref 5, .ref 6, .int .i64 0, .bool false, .ref 7, .ref 8, .ref 9, .val nilV, .val nilV])), (3, some (.deep 3 [] [])), (4, some (.deep 1 (strE P) [])), (5, some (.deep 8 [] [])), (6, some (.deep 1 [] [])), (7, some (.deep 1 V [])), (8, some (.deep 1 D [])), (9, some (.deep 11 (svD k i) []))], 10⟩) (fun i => i ≤ pk) (fun i => pk - i) 0 (Nat.zero_le _) ?_ ?_ ?_
 ·(refine z02 (by rfl) ?_ ?_)
  all_goals (repeat' (first | (exact trivial) | ((try conv => whnf); first | (exact trivial) | (refine And.intro ?_ ?_))))
  all_goals first
   | rfl
   | decide
 ·intro i hi
  have cs := c4 i
  have hnx := zdZ k i
  have hlen := zhE k i
  by_cases hlt : i < pk
  ·have f1 : (i : Int) < ((pk : Nat) : Int) := by omega
   unfold srD at hnx
   generalize svD k i = R at *
   repeat ((try conv => whnf); first | (with_reducible first | refine z0c (fun Qs hN hE hR => ?_) | refine z0a ?_ | refine z04 (fun Qb kN kE kX kR => ?_) | refine z06 ?_ | refine z07 ?_ | refine z0b ?_ | refine z08 ?_ | refine z09 ?_ | (show W _ _ _ (.cond _ _ _) _ _; refine z05 rfl ?_) | (refine hN _ ?_; try clear hN hE hR Qs; (try (conv => arg 6; dsimp only [ovl, List.set, List.map, ren0]))) | ((first | refine hE _ _ ?_ | refine hR _ ?_); try clear hN hE hR Qs) | ((first | refine kN _ ?_ | refine kE _ ?_ | refine kX _ _ rfl ?_ | refine kR _ ?_); try clear kN kE kX kR Qb)) | (refine z0o f1 ?_) | (refine ccA ([]) (cs) ?_) | (refine And.intro (by simp only [List.length_append, List.length_set, List.length_replicate, List.length_cons, List.length_nil]; omega) ?_) | (refine And.intro (by kernel_rfl) ?_) | (refine stpQ ?_))
   refine ⟨i + 1, hlt, by omega, ?_⟩
   rw [hnx]
   (refine z02 (by rfl) ?_ ?_) <;> (repeat' (first | (exact eqA) | (refine shE ?_) | (refine And.intro ?_ ?_))) <;> rfl
  ·have hie : i = pk := by omega
   subst hie
   have f1 : ¬ ((i : Nat) : Int) < ((i : Nat) : Int) := by omega
   repeat ((try conv => whnf); first | (with_reducible first | refine z0c (fun Qs hN hE hR => ?_) | refine z0a ?_ | refine z04 (fun Qb kN kE kX kR => ?_) | refine z06 ?_ | refine z07 ?_ | refine z0b ?_ | refine z08 ?_ | refine z09 ?_ | (show W _ _ _ (.cond _ _ _) _ _; refine z05 rfl ?_) | (refine hN _ ?_; try clear hN hE hR Qs; (try (conv => arg 6; dsimp only [ovl, List.set, List.map, ren0]))) | ((first | refine hE _ _ ?_ | refine hR _ ?_); try clear hN hE hR Qs) | ((first | refine kN _ ?_ | refine kE _ ?_ | refine kX _ _ rfl ?_ | refine kR _ ?_); try clear kN kE kX kR Qb)) | (refine z0j f1 ?_) | (refine stpQ ?_))
   (refine z02 (by rfl) ?_ ?_) <;> (repeat' (first | (exact eqA) | (refine shE ?_) | (refine And.intro ?_ ?_))) <;> rfl
 ·repeat ((try conv => whnf); first | (with_reducible first | refine z0c (fun Qs hN hE hR => ?_) | refine z0a ?_ | refine z04 (fun Qb kN kE kX kR => ?_) | refine z06 ?_ | refine z07 ?_ | refine z0b ?_ | refine z08 ?_ | refine z09 ?_ | (show W _ _ _ (.cond _ _ _) _ _; refine z05 rfl ?_) | (refine hN _ ?_; try clear hN hE hR Qs; (try (conv => arg 6; dsimp only [ovl, List.set, List.map, ren0]))) | ((first | refine hE _ _ ?_ | refine hR _ ?_); try clear hN hE hR Qs) | ((first | refine kN _ ?_ | refine kE _ ?_ | refine kX _ _ rfl ?_ | refine kR _ ?_); try clear kN kE kX kR Qb)) | (refine And.intro (by kernel_rfl) ?_) | (refine stpQ ?_))
  (refine z00 (by rfl) ?_ ?_ (by rfl)) <;> (repeat' (first | (exact eqA) | (refine shE ?_) | (refine And.intro ?_ ?_))) <;> first | rfl | decide
theorem zbe (a K : Int) (h : ¬ isHo a ∨ ¬ isHo K) : CT Tryz.prog 27 [] [.int .i64 a, .int .i64 K]
 (.tup [.agg [.int .i64 0, .int .i64 0, .bool false, .ref 1, .ref 2, .ref 3, .ref 4, .int .i64 0, .bool false, .ref 5, .ref 6, .ref 7, .ref 8, .ref 9], .bool false])
 [.deep 3 [] [], .deep 1 [] [], .deep 8 [] [], .deep 1 [] [], .deep 1 [] [], .deep 1 [] [], .deep 11 [] [], .deep 1 [] [], .deep 1 [] []] := by
 have c1 := z5f a
 have c2 := z7s K
 by_cases ha : isHo a
 ·have hK : ¬ isHo K := h.resolve_left (fun x => x ha)
  rw [z4J (x := K) (lo := 0) (hi := 2) hK] at c2
  rw [z0T.2 ha] at c1
  refine z01 z03 1 rfl Tryz.func27 rfl rfl rfl ?_
  conv => arg 6; whnf
  repeat ((try conv => whnf); first | (with_reducible first | refine z0c (fun Qs hN hE hR => ?_) | refine z0a ?_ | refine z04 (fun Qb kN kE kX kR => ?_) | refine z06 ?_ | refine z07 ?_ | refine z0b ?_ | refine z08 ?_ | refine z09 ?_ | (show W _ _ _ (.cond _ _ _) _ _; refine z05 rfl ?_) | (refine hN _ ?_; try clear hN hE hR Qs; (try (conv => arg 6; dsimp only [ovl, List.set, List.map, ren0]))) | ((first | refine hE _ _ ?_ | refine hR _ ?_); try clear hN hE hR Qs) | ((first | refine kN _ ?_ | refine kE _ ?_ | refine kX _ _ rfl ?_ | refine kR _ ?_); try clear kN kE kX kR Qb)) | (refine ccA ([]) (c1) ?_) | (refine ccA ([]) (c2) ?_) | (refine And.intro (by kernel_rfl) ?_) | (refine stpQ ?_))
  (refine z00 (by rfl) ?_ ?_ (by rfl)) <;> (repeat' (first | (exact eqA) | (refine shE ?_) | (refine And.intro ?_ ?_))) <;> first | rfl | decide
 ·rw [z4J (x := a) (lo := 0) (hi := 2) ha] at c1
  refine z01 z03 1 rfl Tryz.func27 rfl rfl rfl ?_
  conv => arg 6; whnf
  repeat ((try conv => whnf); first | (with_reducible first | refine z0c (fun Qs hN hE hR => ?_) | refine z0a ?_ | refine z04 (fun Qb kN kE kX kR => ?_) | refine z06 ?_ | refine z07 ?_ | refine z0b ?_ | refine z08 ?_ | refine z09 ?_ | (show W _ _ _ (.cond _ _ _) _ _; refine z05 rfl ?_) | (refine hN _ ?_; try clear hN hE hR Qs; (try (conv => arg 6; dsimp only [ovl, List.set, List.map, ren0]))) | ((first | refine hE _ _ ?_ | refine hR _ ?_); try clear hN hE hR Qs) | ((first | refine kN _ ?_ | refine kE _ ?_ | refine kX _ _ rfl ?_ | refine kR _ ?_); try clear kN kE kX kR Qb)) | (refine ccA ([]) (c1) ?_) | (refine ccA ([]) (c2) ?_) | (refine And.intro (by kernel_rfl) ?_) | (refine stpQ ?_))
  (refine z00 (by rfl) ?_ ?_ (by rfl)) <;> (repeat' (first | (exact eqA) | (refine shE ?_) | (refine And.intro ?_ ?_))) <;> first | rfl | decide
theorem z9z (a K : Int) (h : ¬ isHo a ∨ ¬ isHo K) : CT Tryz.prog 26 [] [.int .i64 a, .int .i64 K]
 (.tup [.agg [.int .i64 0, .int .i64 0, .bool false, .sl 3 [], .sl 1 [], .sl 8 [], .sl 1 [], .int .i64 0, .bool false, .sl 1 [], .sl 1 [], .sl 11 [], .sl 1 [], .sl 1 []], .bool false]) [] := by
 have c1 := z1B a 0 2
 have c2 := z1B K 0 2
 by_cases ha : isHo a
 ·have hK : ¬ isHo K := h.resolve_left (fun x => x ha)
  rw [z4J (x := K) (lo := 0) (hi := 2) hK] at c2
  rw [z0T.2 ha] at c1
  refine z01 z03 1 rfl Tryz.func26 rfl rfl rfl ?_
  conv => arg 6; whnf
  repeat ((try conv => whnf); first | (with_reducible first | refine z0c (fun Qs hN hE hR => ?_) | refine z0a ?_ | refine z04 (fun Qb kN kE kX kR => ?_) | refine z06 ?_ | refine z07 ?_ | refine z0b ?_ | refine z08 ?_ | refine z09 ?_ | (show W _ _ _ (.cond _ _ _) _ _; refine z05 rfl ?_) | (refine hN _ ?_; try clear hN hE hR Qs; (try (conv => arg 6; dsimp only [ovl, List.set, List.map, ren0]))) | ((first | refine hE _ _ ?_ | refine hR _ ?_); try clear hN hE hR Qs) | ((first | refine kN _ ?_ | refine kE _ ?_ | refine kX _ _ rfl ?_ | refine kR _ ?_); try clear kN kE kX kR Qb)) | (refine ccA ([]) (c1) ?_) | (refine ccA ([]) (c2) ?_) | (refine And.intro (by kernel_rfl) ?_) | (refine stpQ ?_))
  (refine z00 (by rfl) ?_ ?_ (by rfl)) <;> (repeat' (first | (exact eqA) | (refine shE ?_) | (refine And.intro ?_ ?_))) <;> first | rfl | decide
 ·rw [z4J (x := a) (lo := 0) (hi := 2) ha] at c1
  refine z01 z03 1 rfl Tryz.func26 rfl rfl rfl ?_
  conv => arg 6; whnf
  repeat ((try conv => whnf); first | (with_reducible first | refine z0c (fun Qs hN hE hR => ?_) | refine z0a ?_ | refine z04 (fun Qb kN kE kX kR => ?_) | refine z06 ?_ | refine z07 ?_ | refine z0b ?_ | refine z08 ?_ | refine z09 ?_ | (show W _ _ _ (.cond _ _ _) _ _; refine z05 rfl ?_) | (refine hN _ ?_; try clear hN hE hR Qs; (try (conv => arg 6; dsimp only [ovl, List.set, List.map, ren0]))) | ((first | refine hE _ _ ?_ | refine hR _ ?_); try clear hN hE hR Qs) | ((first | refine kN _ ?_ | refine kE _ ?_ | refine kX _ _ rfl ?_ | refine kR _ ?_); try clear kN kE kX kR Qb)) | (refine ccA ([]) (c1) ?_) | (refine ccA ([]) (c2) ?_) | (refine And.intro (by kernel_rfl) ?_) | (refine stpQ ?_))
  (refine z00 (by rfl) ?_ ?_ (by rfl)) <;> (repeat' (first | (exact eqA) | (refine shE ?_) | (refine And.intro ?_ ?_))) <;> first | rfl | decide
end
end Go.Proofs.YtnhcfmmdaihneaaGreatDoor
