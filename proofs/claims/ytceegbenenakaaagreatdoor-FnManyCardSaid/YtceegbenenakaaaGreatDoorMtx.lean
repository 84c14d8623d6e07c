/- Functions by content: the program writes proofs of many. -/
import Derived.Test.YtceegbenenakaaaGreatDoorPmt
import Derived.Test.YtceegbenenakaaaGreatDoorMrr
namespace Go.Proofs.YtceegbenenakaaaGreatDoor
set_option linter.unusedVariables false
set_option linter.unusedSimpArgs false
set_option linter.unusedSectionVars false
open Go.RowKit Pl
section
attribute [local irreducible] z0s z0x z0C AnsP LeP W CvE
set_option maxRecDepth 100000 in
set_option maxHeartbeats 8000000 in
theorem z4Y (names : List Bs) (bks : List (List Lf)) (sides : List Bs) (w : Int) (hn : names.length ≤ 1000) (hl : ∀ s ∈ names, (s.length : Int) ≤ 100000000) (hb : bks.length ≤ 1000) (hbk : ∀ b ∈ bks, leavesOk b = true) (hs : sides.length ≤ 10000000) : CT Tryz.prog 13 [] [.agg [.sl 1 (strE names), .sl 1 (bkE bks), .sl 1 (strE sides)], .int .i64 w] (.tup [.str (bif z3W names bks sides w then z3H names bks sides else []), .bool (z3W names bks sides w)]) [] := by
 have cR := z8a names bks sides w hn hl hb hbk hs
 cases hB : z3W names bks sides w with
 | false =>
   rw [hB] at cR
   show CT _ _ _ _ (.tup [.str [], .bool false]) _
   refine z08 z26 1 rfl Tryz.func13 rfl rfl rfl ?_
   conv => arg 6; whnf
   repeat ((try conv => whnf); first | (with_reducible first | refine z0b (fun Qs hN hE hR => ?_) | refine z09 ?_ | refine z02 (fun Qb kN kE kX kR => ?_) | refine z04 ?_ | refine z05 ?_ | refine z0a ?_ | refine z06 ?_ | refine z07 ?_ | (show W _ _ _ (.cond _ _ _) _ _; refine z03 rfl ?_) | (refine hN _ ?_; try clear hN hE hR Qs; (try (conv => arg 6; dsimp only [ovl, List.set, List.map, ren0]))) | ((first | refine hE _ _ ?_ | refine hR _ ?_); try clear hN hE hR Qs) | ((first | refine kN _ ?_ | refine kE _ ?_ | refine kX _ _ rfl ?_ | refine kR _ ?_); try clear kN kE kX kR Qb)) | (refine ccA ([]) (cR) ?_) | (refine And.intro (by kernel_rfl) ?_) | (refine stpQ ?_))
   (refine z01 (by rfl) ?_ ?_ (by rfl)) <;> (repeat' (first | (exact eqA) | (refine And.intro ?_ ?_) | ((fail_if_success (with_reducible (show _ = _))); (show _ = _))))
 | true =>
 rw [hB] at cR
 show CT _ _ _ _ (.tup [.str (z3H names bks sides), .bool true]) _
 obtain ⟨n1, n8, nm, b8, bl, w0, sw, s64⟩ := z29 hB
 have hne := z0g names
 have hbe := z4S bks
 have hse := z0g sides
 have v1 := z2t names.length (by omega)
 have v2 := z2t bks.length (by omega)
 have v3 := z2t sides.length (by omega)
 have k1 := z1r (n := names.length) (by omega)
 have k2 := z1r (n := bks.length) (by omega)
 have k3 := z1r (n := sides.length) (by omega)
 have a1 : ∀ i, ((names.take i).flatMap z0c).length ≤ 200 := fun i => by
  have := za5 (f := z0c) (c := 22) (l := names.take i) fun x hx => by
   have h1 := nm x (List.mem_of_mem_take hx)
   have := z1d (l := x) (by omega)
   omega
  rw [List.length_take] at this
  omega
 have a2 : ∀ i, ((bks.take i).flatMap bkT).length ≤ 9000 := fun i => by
  have := za5 (f := bkT) (c := 1110) (l := bks.take i) fun x hx => zbG (bl x (List.mem_of_mem_take hx))
  rw [List.length_take] at this
  omega
 have a3 : ∀ i, ((sides.take i).flatten).length ≤ 3000 := fun i => by
  have := ze9 (c := 32) (l := sides.take i) fun x hx => by have := sw x (List.mem_of_mem_take hx); omega
  rw [List.length_take] at this
  omega
 have z1 := a1 names.length
 rw [List.take_length] at z1
 have z2 := a2 bks.length
 rw [List.take_length] at z2
 have z3 := a3 sides.length
 rw [List.take_length] at z3
 have eT : z3H names bks sides = ((((z0e names.length ++ names.flatMap z0c) ++ z0e bks.length) ++ bks.flatMap bkT) ++ z0e sides.length) ++ sides.flatten := by simp [z3H]
 rw [eT]
 clear eT hB
 have q1 : ∀ i (h : i < names.length), names[i].length ≤ 12 := fun i h => nm _ (List.getElem_mem h)
 have q2 : ∀ i (h : i < bks.length), leavesOk bks[i] = true := fun i h => bl _ (List.getElem_mem h)
 have q3 : ∀ i (h : i < sides.length), sides[i].length ≤ 32 := fun i h => by have := sw _ (List.getElem_mem h); omega
 generalize z0e names.length = V1 at *
 generalize z0e bks.length = V2 at *
 generalize z0e sides.length = V3 at *
 refine z08 z26 1 rfl Tryz.func13 rfl rfl rfl ?_
 conv => arg 6; whnf
 repeat ((try conv => whnf); first | (with_reducible first | refine z0b (fun Qs hN hE hR => ?_) | refine z09 ?_ | refine z02 (fun Qb kN kE kX kR => ?_) | refine z04 ?_ | refine z05 ?_ | refine z0a ?_ | refine z06 ?_ | refine z07 ?_ | (show W _ _ _ (.cond _ _ _) _ _; refine z03 rfl ?_) | (refine hN _ ?_; try clear hN hE hR Qs; (try (conv => arg 6; dsimp only [ovl, List.set, List.map, ren0]))) | ((first | refine hE _ _ ?_ | refine hR _ ?_); try clear hN hE hR Qs) | ((first | refine kN _ ?_ | refine kE _ ?_ | refine kX _ _ rfl ?_ | refine kR _ ?_); try clear kN kE kX kR Qb)) | (refine ccA ([]) (cR) ?_) | (refine Exists.intro names.length (And.intro hne ?_)) | (refine ccA ([]) (v1) ?_) | (refine And.intro (by kernel_rfl) ?_) | (refine stpQ ?_))
 refine z0l 0 ⟨[(2, .ptr 1 0 0), (8, .str (V1 ++ names.flatMap z0c))], [(1, some (.box [.sl 1 (strE names), .sl 1 (bkE bks), .sl 1 (strE sides)]))], 2⟩ Nat (fun i => ⟨[(2, .ptr 1 0 0), (8, .str (V1 ++ (names.take i).flatMap z0c)), (26, .sl 1 (strE names)), (27, .int .i64 ((names.length : Nat) : Int)), (28, .int .i64 (i : Int))], [(1, some (.box [.sl 1 (strE names), .sl 1 (bkE bks), .sl 1 (strE sides)]))], 2⟩) (fun i => i ≤ names.length) (fun i => names.length - i) 0 (Nat.zero_le _) ?_ ?_ ?_
 ·(refine z00 (by rfl) ?_ ?_) <;> (repeat' (first | (exact eqA) | (refine And.intro ?_ ?_) | ((fail_if_success (with_reducible (show _ = _))); (show _ = _)))) <;> first | rfl | (simp; done)
 ·intro i hi
  by_cases hlt : i < names.length
  ·have f1 : (i : Int) < ((names.length : Nat) : Int) := by omega
   have gi := z3E hlt
   have h1 := q1 i hlt
   have h2 := a1 i
   have cS := z1Q names[i] (by omega)
   have h3 := z1d (l := names[i]) (by omega)
   have hnx := zbF (f := z0c) hlt
   generalize (names.take i).flatMap z0c = u at *
   generalize names[i] = y at *
   generalize z0c y = sy at *
   repeat ((try conv => whnf); first | (with_reducible first | refine z0b (fun Qs hN hE hR => ?_) | refine z09 ?_ | refine z02 (fun Qb kN kE kX kR => ?_) | refine z04 ?_ | refine z05 ?_ | refine z0a ?_ | refine z06 ?_ | refine z07 ?_ | (show W _ _ _ (.cond _ _ _) _ _; refine z03 rfl ?_) | (refine hN _ ?_; try clear hN hE hR Qs; (try (conv => arg 6; dsimp only [ovl, List.set, List.map, ren0]))) | ((first | refine hE _ _ ?_ | refine hR _ ?_); try clear hN hE hR Qs) | ((first | refine kN _ ?_ | refine kE _ ?_ | refine kX _ _ rfl ?_ | refine kR _ ?_); try clear kN kE kX kR Qb)) | (refine z0i f1 ?_) | (refine i_at gi ?_) | (refine ccA ([]) (cS) ?_) | (refine And.intro (by simp only [List.length_append]; omega) ?_) | (refine And.intro (by kernel_rfl) ?_) | (refine stpQ ?_))
   refine ⟨i + 1, hlt, by omega, ?_⟩
   rw [hnx]
   (refine z00 (by rfl) ?_ ?_) <;> (repeat' (first | (exact eqA) | (refine And.intro ?_ ?_) | ((fail_if_success (with_reducible (show _ = _))); (show _ = _)))) <;> first | rfl | (rw [List.append_assoc])
  ·obtain rfl : i = names.length := by omega
   have f1 : ¬ ((names.length : Nat) : Int) < ((names.length : Nat) : Int) := by omega
   repeat ((try conv => whnf); first | (with_reducible first | refine z0b (fun Qs hN hE hR => ?_) | refine z09 ?_ | refine z02 (fun Qb kN kE kX kR => ?_) | refine z04 ?_ | refine z05 ?_ | refine z0a ?_ | refine z06 ?_ | refine z07 ?_ | (show W _ _ _ (.cond _ _ _) _ _; refine z03 rfl ?_) | (refine hN _ ?_; try clear hN hE hR Qs; (try (conv => arg 6; dsimp only [ovl, List.set, List.map, ren0]))) | ((first | refine hE _ _ ?_ | refine hR _ ?_); try clear hN hE hR Qs) | ((first | refine kN _ ?_ | refine kE _ ?_ | refine kX _ _ rfl ?_ | refine kR _ ?_); try clear kN kE kX kR Qb)) | (refine z0m f1 ?_) | (refine stpQ ?_))
   rw [List.take_length]
   (refine z00 (by rfl) ?_ ?_) <;> (repeat' (first | (exact eqA) | (refine And.intro ?_ ?_) | ((fail_if_success (with_reducible (show _ = _))); (show _ = _)))) <;> rfl
 ·have hp : (V1 ++ names.flatMap z0c).length ≤ 300 := by simp only [List.length_append]; omega
  generalize V1 ++ names.flatMap z0c = P1 at *
  repeat ((try conv => whnf); first | (with_reducible first | refine z0b (fun Qs hN hE hR => ?_) | refine z09 ?_ | refine z02 (fun Qb kN kE kX kR => ?_) | refine z04 ?_ | refine z05 ?_ | refine z0a ?_ | refine z06 ?_ | refine z07 ?_ | (show W _ _ _ (.cond _ _ _) _ _; refine z03 rfl ?_) | (refine hN _ ?_; try clear hN hE hR Qs; (try (conv => arg 6; dsimp only [ovl, List.set, List.map, ren0]))) | ((first | refine hE _ _ ?_ | refine hR _ ?_); try clear hN hE hR Qs) | ((first | refine kN _ ?_ | refine kE _ ?_ | refine kX _ _ rfl ?_ | refine kR _ ?_); try clear kN kE kX kR Qb)) | (refine Exists.intro bks.length (And.intro hbe ?_)) | (refine ccA ([]) (v2) ?_) | (refine And.intro (by simp only [List.length_append]; omega) ?_) | (refine And.intro (by kernel_rfl) ?_) | (refine stpQ ?_))
  have hp2 : (P1 ++ V2).length ≤ 310 := by simp only [List.length_append]; omega
  refine z0l 2 ⟨[(2, .ptr 1 0 0), (8, .str ((P1 ++ V2) ++ bks.flatMap bkT))], [(1, some (.box [.sl 1 (strE names), .sl 1 (bkE bks), .sl 1 (strE sides)]))], 2⟩ Nat (fun i => ⟨[(2, .ptr 1 0 0), (8, .str ((P1 ++ V2) ++ (bks.take i).flatMap bkT)), (44, .sl 1 (bkE bks)), (45, .int .i64 ((bks.length : Nat) : Int)), (46, .int .i64 (i : Int))], [(1, some (.box [.sl 1 (strE names), .sl 1 (bkE bks), .sl 1 (strE sides)]))], 2⟩) (fun i => i ≤ bks.length) (fun i => bks.length - i) 0 (Nat.zero_le _) ?_ ?_ ?_
  ·(refine z00 (by rfl) ?_ ?_) <;> (repeat' (first | (exact eqA) | (refine And.intro ?_ ?_) | ((fail_if_success (with_reducible (show _ = _))); (show _ = _)))) <;> first | rfl | (simp; done)
  ·intro i hi
   by_cases hlt : i < bks.length
   ·have f1 : (i : Int) < ((bks.length : Nat) : Int) := by omega
    have gi := z88 hlt
    have h1 := q2 i hlt
    have h2 := a2 i
    have h4 := z4W h1
    have cL := z75 bks[i] (z4R h1)
    have cS := z1Q (z0p bks[i]) (by omega)
    have h3 : (z0c (z0p bks[i])).length ≤ 1110 := zbG h1
    have hnx : (bks.take (i + 1)).flatMap bkT = (bks.take i).flatMap bkT ++ z0c (z0p bks[i]) := zbF (f := bkT) hlt
    generalize (bks.take i).flatMap bkT = u at *
    generalize z0p bks[i] = lt at *
    generalize z0c lt = sy at *
    generalize lvE bks[i] = BB at *
    generalize P1 ++ V2 = P2 at *
    repeat ((try conv => whnf); first | (with_reducible first | refine z0b (fun Qs hN hE hR => ?_) | refine z09 ?_ | refine z02 (fun Qb kN kE kX kR => ?_) | refine z04 ?_ | refine z05 ?_ | refine z0a ?_ | refine z06 ?_ | refine z07 ?_ | (show W _ _ _ (.cond _ _ _) _ _; refine z03 rfl ?_) | (refine hN _ ?_; try clear hN hE hR Qs; (try (conv => arg 6; dsimp only [ovl, List.set, List.map, ren0]))) | ((first | refine hE _ _ ?_ | refine hR _ ?_); try clear hN hE hR Qs) | ((first | refine kN _ ?_ | refine kE _ ?_ | refine kX _ _ rfl ?_ | refine kR _ ?_); try clear kN kE kX kR Qb)) | (refine z0i f1 ?_) | (refine i_at gi ?_) | (refine ccA ([]) (cL) ?_) | (refine ccA ([]) (cS) ?_) | (refine And.intro (by simp only [List.length_append]; omega) ?_) | (refine And.intro (by kernel_rfl) ?_) | (refine stpQ ?_))
    refine ⟨i + 1, hlt, by omega, ?_⟩
    rw [hnx]
    (refine z00 (by rfl) ?_ ?_) <;> (repeat' (first | (exact eqA) | (refine And.intro ?_ ?_) | ((fail_if_success (with_reducible (show _ = _))); (show _ = _)))) <;> first | rfl | (rw [List.append_assoc])
   ·obtain rfl : i = bks.length := by omega
    have f1 : ¬ ((bks.length : Nat) : Int) < ((bks.length : Nat) : Int) := by omega
    repeat ((try conv => whnf); first | (with_reducible first | refine z0b (fun Qs hN hE hR => ?_) | refine z09 ?_ | refine z02 (fun Qb kN kE kX kR => ?_) | refine z04 ?_ | refine z05 ?_ | refine z0a ?_ | refine z06 ?_ | refine z07 ?_ | (show W _ _ _ (.cond _ _ _) _ _; refine z03 rfl ?_) | (refine hN _ ?_; try clear hN hE hR Qs; (try (conv => arg 6; dsimp only [ovl, List.set, List.map, ren0]))) | ((first | refine hE _ _ ?_ | refine hR _ ?_); try clear hN hE hR Qs) | ((first | refine kN _ ?_ | refine kE _ ?_ | refine kX _ _ rfl ?_ | refine kR _ ?_); try clear kN kE kX kR Qb)) | (refine z0m f1 ?_) | (refine stpQ ?_))
    rw [List.take_length]
    (refine z00 (by rfl) ?_ ?_) <;> (repeat' (first | (exact eqA) | (refine And.intro ?_ ?_) | ((fail_if_success (with_reducible (show _ = _))); (show _ = _)))) <;> rfl
  ·have cJ := zcH sides (by omega) (fun x hx => by have := sw x hx; omega)
   have hp3 : ((P1 ++ V2) ++ bks.flatMap bkT).length ≤ 9400 := by simp only [List.length_append] at hp2 ⊢; omega
   generalize (P1 ++ V2) ++ bks.flatMap bkT = P3 at *
   generalize sides.flatten = SF at *
   repeat ((try conv => whnf); first | (with_reducible first | refine z0b (fun Qs hN hE hR => ?_) | refine z09 ?_ | refine z02 (fun Qb kN kE kX kR => ?_) | refine z04 ?_ | refine z05 ?_ | refine z0a ?_ | refine z06 ?_ | refine z07 ?_ | (show W _ _ _ (.cond _ _ _) _ _; refine z03 rfl ?_) | (refine hN _ ?_; try clear hN hE hR Qs; (try (conv => arg 6; dsimp only [ovl, List.set, List.map, ren0]))) | ((first | refine hE _ _ ?_ | refine hR _ ?_); try clear hN hE hR Qs) | ((first | refine kN _ ?_ | refine kE _ ?_ | refine kX _ _ rfl ?_ | refine kR _ ?_); try clear kN kE kX kR Qb)) | (refine Exists.intro sides.length (And.intro hse ?_)) | (refine ccA ([]) (v3) ?_) | (refine ccA ([]) (cJ) ?_) | (refine And.intro (by simp only [List.length_append]; omega) ?_) | (refine And.intro (by kernel_rfl) ?_) | (refine stpQ ?_))
   (refine z01 (by rfl) ?_ ?_ (by rfl)) <;> (repeat' (first | (exact eqA) | (refine And.intro ?_ ?_) | ((fail_if_success (with_reducible (show _ = _))); (show _ = _)))) <;> rfl
end
end Go.Proofs.YtceegbenenakaaaGreatDoor
