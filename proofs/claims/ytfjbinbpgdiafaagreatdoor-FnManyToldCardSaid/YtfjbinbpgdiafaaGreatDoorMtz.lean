/- Functions by content: the program writes proofs of many. Functions by content: the reference writes proofs of many. -/
import Derived.Test.YtfjbinbpgdiafaaGreatDoorPmx
import Derived.Test.YtfjbinbpgdiafaaGreatDoorMrw
import Derived.Test.YtfjbinbpgdiafaaGreatDoorMrx
namespace Go.Proofs.YtfjbinbpgdiafaaGreatDoor
set_option linter.unusedVariables false
set_option linter.unusedSimpArgs false
set_option linter.unusedSectionVars false
open Go.RowKit Pl
section
attribute [local irreducible] z0t z0u z0A AnsP LeP W CvE
set_option maxRecDepth 100000 in
set_option maxHeartbeats 8000000 in
theorem z9n (names : List Bs) (bks : List (List Lf)) (sides : List Bs) (w : Int) (hn : names.length ≤ 1000) (hl : ∀ s ∈ names, (s.length : Int) ≤ 100000000) (hb : bks.length ≤ 1000) (hbk : ∀ b ∈ bks, leavesOk b = true) (hs : sides.length ≤ 10000000) : CT Tryz.prog 89 [] [.agg [.sl 1 (strE names), .sl 1 (bkE bks), .sl 1 (strE sides)], .int .i64 w] (.tup [.str (bif z15 names bks sides w then z1Z names bks sides else []), .bool (z15 names bks sides w)]) [] := by
 have cR := z9m names bks sides w hn hl hb hbk hs
 cases hB : z15 names bks sides w with
 | false =>
   rw [hB] at cR
   show CT _ _ _ _ (.tup [.str [], .bool false]) _
   refine z0b z0p 1 rfl Tryz.func89 rfl rfl rfl ?_
   conv => arg 6; whnf
   repeat ((try conv => whnf); first | (with_reducible first | refine z0a (fun Qs hN hE hR => ?_) | refine z08 ?_ | refine z00 (fun Qb kN kE kX kR => ?_) | refine z04 ?_ | refine z05 ?_ | refine z09 ?_ | refine z06 ?_ | refine z07 ?_ | (show W _ _ _ (.cond _ _ _) _ _; refine z03 rfl ?_) | (refine hN _ ?_; try clear hN hE hR Qs; (try (conv => arg 6; dsimp only [ovl, List.set, List.map, ren0]))) | ((first | refine hE _ _ ?_ | refine hR _ ?_); try clear hN hE hR Qs) | ((first | refine kN _ ?_ | refine kE _ ?_ | refine kX _ _ rfl ?_ | refine kR _ ?_); try clear kN kE kX kR Qb)) | (refine ccA ([]) (cR) ?_) | (refine And.intro (by kernel_rfl) ?_) | (refine stpQ ?_))
   (refine z02 (by rfl) ?_ ?_ (by rfl)) <;> (repeat' (first | (exact eqA) | (refine And.intro ?_ ?_) | ((fail_if_success (with_reducible (show _ = _))); (show _ = _))))
 | true =>
 rw [hB] at cR
 show CT _ _ _ _ (.tup [.str (z1Z names bks sides), .bool true]) _
 obtain ⟨n1, n8, nm, b8, bl, w0, sw, s64⟩ := z21 hB
 have hne := z0h names
 have hbe := z2c bks
 have hse := z0h sides
 have v1 := z2O names.length (by omega)
 have v2 := z2O bks.length (by omega)
 have v3 := z2O sides.length (by omega)
 have k1 := z10 (n := names.length) (by omega)
 have k2 := z10 (n := bks.length) (by omega)
 have k3 := z10 (n := sides.length) (by omega)
 have a1 : ∀ i, ((names.take i).flatMap z0e).length ≤ 200 := fun i => by
  have := z8q (f := z0e) (c := 22) (l := names.take i) fun x hx => by
   have h1 := nm x (List.mem_of_mem_take hx)
   have := z1q (l := x) (by omega)
   omega
  rw [List.length_take] at this
  omega
 have a2 : ∀ i, ((bks.take i).flatMap bkT).length ≤ 9000 := fun i => by
  have := z8q (f := bkT) (c := 1110) (l := bks.take i) fun x hx => zaw (bl x (List.mem_of_mem_take hx))
  rw [List.length_take] at this
  omega
 have a3 : ∀ i, ((sides.take i).flatten).length ≤ 3000 := fun i => by
  have := ze0 (c := 32) (l := sides.take i) fun x hx => by have := sw x (List.mem_of_mem_take hx); omega
  rw [List.length_take] at this
  omega
 have z1 := a1 names.length
 rw [List.take_length] at z1
 have z2 := a2 bks.length
 rw [List.take_length] at z2
 have z3 := a3 sides.length
 rw [List.take_length] at z3
 have eT : z1Z names bks sides = ((((z0f names.length ++ names.flatMap z0e) ++ z0f bks.length) ++ bks.flatMap bkT) ++ z0f sides.length) ++ sides.flatten := by simp [z1Z]
 rw [eT]
 clear eT hB
 have q1 : ∀ i (h : i < names.length), names[i].length ≤ 12 := fun i h => nm _ (List.getElem_mem h)
 have q2 : ∀ i (h : i < bks.length), leavesOk bks[i] = true := fun i h => bl _ (List.getElem_mem h)
 have q3 : ∀ i (h : i < sides.length), sides[i].length ≤ 32 := fun i h => by have := sw _ (List.getElem_mem h); omega
 generalize z0f names.length = V1 at *
 generalize z0f bks.length = V2 at *
 generalize z0f sides.length = V3 at *
 refine z0b z0p 1 rfl Tryz.func89 rfl rfl rfl ?_
 conv => arg 6; whnf
 repeat ((try conv => whnf); first | (with_reducible first | refine z0a (fun Qs hN hE hR => ?_) | refine z08 ?_ | refine z00 (fun Qb kN kE kX kR => ?_) | refine z04 ?_ | refine z05 ?_ | refine z09 ?_ | refine z06 ?_ | refine z07 ?_ | (show W _ _ _ (.cond _ _ _) _ _; refine z03 rfl ?_) | (refine hN _ ?_; try clear hN hE hR Qs; (try (conv => arg 6; dsimp only [ovl, List.set, List.map, ren0]))) | ((first | refine hE _ _ ?_ | refine hR _ ?_); try clear hN hE hR Qs) | ((first | refine kN _ ?_ | refine kE _ ?_ | refine kX _ _ rfl ?_ | refine kR _ ?_); try clear kN kE kX kR Qb)) | (refine ccA ([]) (cR) ?_) | (refine Exists.intro names.length (And.intro hne ?_)) | (refine ccA ([]) (v1) ?_) | (refine And.intro (by kernel_rfl) ?_) | (refine stpQ ?_))
 refine z0g 0 ⟨[(2, .ptr 1 0 0), (8, .str (V1 ++ names.flatMap z0e))], [(1, some (.box [.sl 1 (strE names), .sl 1 (bkE bks), .sl 1 (strE sides)]))], 2⟩ Nat (fun i => ⟨[(2, .ptr 1 0 0), (8, .str (V1 ++ (names.take i).flatMap z0e)), (26, .sl 1 (strE names)), (27, .int .i64 ((names.length : Nat) : Int)), (28, .int .i64 (i : Int))], [(1, some (.box [.sl 1 (strE names), .sl 1 (bkE bks), .sl 1 (strE sides)]))], 2⟩) (fun i => i ≤ names.length) (fun i => names.length - i) 0 (Nat.zero_le _) ?_ ?_ ?_
 ·(refine z01 (by rfl) ?_ ?_) <;> (repeat' (first | (exact eqA) | (refine And.intro ?_ ?_) | ((fail_if_success (with_reducible (show _ = _))); (show _ = _)))) <;> first | rfl | (simp; done)
 ·intro i hi
  by_cases hlt : i < names.length
  ·have f1 : (i : Int) < ((names.length : Nat) : Int) := by omega
   have gi := z1T hlt
   have h1 := q1 i hlt
   have h2 := a1 i
   have cS := z29 names[i] (by omega)
   have h3 := z1q (l := names[i]) (by omega)
   have hnx := z7n (f := z0e) hlt
   generalize (names.take i).flatMap z0e = u at *
   generalize names[i] = y at *
   generalize z0e y = sy at *
   repeat ((try conv => whnf); first | (with_reducible first | refine z0a (fun Qs hN hE hR => ?_) | refine z08 ?_ | refine z00 (fun Qb kN kE kX kR => ?_) | refine z04 ?_ | refine z05 ?_ | refine z09 ?_ | refine z06 ?_ | refine z07 ?_ | (show W _ _ _ (.cond _ _ _) _ _; refine z03 rfl ?_) | (refine hN _ ?_; try clear hN hE hR Qs; (try (conv => arg 6; dsimp only [ovl, List.set, List.map, ren0]))) | ((first | refine hE _ _ ?_ | refine hR _ ?_); try clear hN hE hR Qs) | ((first | refine kN _ ?_ | refine kE _ ?_ | refine kX _ _ rfl ?_ | refine kR _ ?_); try clear kN kE kX kR Qb)) | (refine z0c f1 ?_) | (refine i_at gi ?_) | (refine ccA ([]) (cS) ?_) | (refine And.intro (by simp only [List.length_append]; omega) ?_) | (refine And.intro (by kernel_rfl) ?_) | (refine stpQ ?_))
   refine ⟨i + 1, hlt, by omega, ?_⟩
   rw [hnx]
   (refine z01 (by rfl) ?_ ?_) <;> (repeat' (first | (exact eqA) | (refine And.intro ?_ ?_) | ((fail_if_success (with_reducible (show _ = _))); (show _ = _)))) <;> first | rfl | (rw [List.append_assoc])
  ·obtain rfl : i = names.length := by omega
   have f1 : ¬ ((names.length : Nat) : Int) < ((names.length : Nat) : Int) := by omega
   repeat ((try conv => whnf); first | (with_reducible first | refine z0a (fun Qs hN hE hR => ?_) | refine z08 ?_ | refine z00 (fun Qb kN kE kX kR => ?_) | refine z04 ?_ | refine z05 ?_ | refine z09 ?_ | refine z06 ?_ | refine z07 ?_ | (show W _ _ _ (.cond _ _ _) _ _; refine z03 rfl ?_) | (refine hN _ ?_; try clear hN hE hR Qs; (try (conv => arg 6; dsimp only [ovl, List.set, List.map, ren0]))) | ((first | refine hE _ _ ?_ | refine hR _ ?_); try clear hN hE hR Qs) | ((first | refine kN _ ?_ | refine kE _ ?_ | refine kX _ _ rfl ?_ | refine kR _ ?_); try clear kN kE kX kR Qb)) | (refine z0d f1 ?_) | (refine stpQ ?_))
   rw [List.take_length]
   (refine z01 (by rfl) ?_ ?_) <;> (repeat' (first | (exact eqA) | (refine And.intro ?_ ?_) | ((fail_if_success (with_reducible (show _ = _))); (show _ = _)))) <;> rfl
 ·have hp : (V1 ++ names.flatMap z0e).length ≤ 300 := by simp only [List.length_append]; omega
  generalize V1 ++ names.flatMap z0e = P1 at *
  repeat ((try conv => whnf); first | (with_reducible first | refine z0a (fun Qs hN hE hR => ?_) | refine z08 ?_ | refine z00 (fun Qb kN kE kX kR => ?_) | refine z04 ?_ | refine z05 ?_ | refine z09 ?_ | refine z06 ?_ | refine z07 ?_ | (show W _ _ _ (.cond _ _ _) _ _; refine z03 rfl ?_) | (refine hN _ ?_; try clear hN hE hR Qs; (try (conv => arg 6; dsimp only [ovl, List.set, List.map, ren0]))) | ((first | refine hE _ _ ?_ | refine hR _ ?_); try clear hN hE hR Qs) | ((first | refine kN _ ?_ | refine kE _ ?_ | refine kX _ _ rfl ?_ | refine kR _ ?_); try clear kN kE kX kR Qb)) | (refine Exists.intro bks.length (And.intro hbe ?_)) | (refine ccA ([]) (v2) ?_) | (refine And.intro (by simp only [List.length_append]; omega) ?_) | (refine And.intro (by kernel_rfl) ?_) | (refine stpQ ?_))
  have hp2 : (P1 ++ V2).length ≤ 310 := by simp only [List.length_append]; omega
  refine z0g 2 ⟨[(2, .ptr 1 0 0), (8, .str ((P1 ++ V2) ++ bks.flatMap bkT))], [(1, some (.box [.sl 1 (strE names), .sl 1 (bkE bks), .sl 1 (strE sides)]))], 2⟩ Nat (fun i => ⟨[(2, .ptr 1 0 0), (8, .str ((P1 ++ V2) ++ (bks.take i).flatMap bkT)), (44, .sl 1 (bkE bks)), (45, .int .i64 ((bks.length : Nat) : Int)), (46, .int .i64 (i : Int))], [(1, some (.box [.sl 1 (strE names), .sl 1 (bkE bks), .sl 1 (strE sides)]))], 2⟩) (fun i => i ≤ bks.length) (fun i => bks.length - i) 0 (Nat.zero_le _) ?_ ?_ ?_
  ·(refine z01 (by rfl) ?_ ?_) <;> (repeat' (first | (exact eqA) | (refine And.intro ?_ ?_) | ((fail_if_success (with_reducible (show _ = _))); (show _ = _)))) <;> first | rfl | (simp; done)
  ·intro i hi
   by_cases hlt : i < bks.length
   ·have f1 : (i : Int) < ((bks.length : Nat) : Int) := by omega
    have gi := z2T hlt
    have h1 := q2 i hlt
    have h2 := a2 i
    have h4 := z2U h1
    have cL := z88 bks[i] (z5A h1)
    have cS := z29 (z0l bks[i]) (by omega)
    have h3 : (z0e (z0l bks[i])).length ≤ 1110 := zaw h1
    have hnx : (bks.take (i + 1)).flatMap bkT = (bks.take i).flatMap bkT ++ z0e (z0l bks[i]) := z7n (f := bkT) hlt
    generalize (bks.take i).flatMap bkT = u at *
    generalize z0l bks[i] = lt at *
    generalize z0e lt = sy at *
    generalize lvE bks[i] = BB at *
    generalize P1 ++ V2 = P2 at *
    repeat ((try conv => whnf); first | (with_reducible first | refine z0a (fun Qs hN hE hR => ?_) | refine z08 ?_ | refine z00 (fun Qb kN kE kX kR => ?_) | refine z04 ?_ | refine z05 ?_ | refine z09 ?_ | refine z06 ?_ | refine z07 ?_ | (show W _ _ _ (.cond _ _ _) _ _; refine z03 rfl ?_) | (refine hN _ ?_; try clear hN hE hR Qs; (try (conv => arg 6; dsimp only [ovl, List.set, List.map, ren0]))) | ((first | refine hE _ _ ?_ | refine hR _ ?_); try clear hN hE hR Qs) | ((first | refine kN _ ?_ | refine kE _ ?_ | refine kX _ _ rfl ?_ | refine kR _ ?_); try clear kN kE kX kR Qb)) | (refine z0c f1 ?_) | (refine i_at gi ?_) | (refine ccA ([]) (cL) ?_) | (refine ccA ([]) (cS) ?_) | (refine And.intro (by simp only [List.length_append]; omega) ?_) | (refine And.intro (by kernel_rfl) ?_) | (refine stpQ ?_))
    refine ⟨i + 1, hlt, by omega, ?_⟩
    rw [hnx]
    (refine z01 (by rfl) ?_ ?_) <;> (repeat' (first | (exact eqA) | (refine And.intro ?_ ?_) | ((fail_if_success (with_reducible (show _ = _))); (show _ = _)))) <;> first | rfl | (rw [List.append_assoc])
   ·obtain rfl : i = bks.length := by omega
    have f1 : ¬ ((bks.length : Nat) : Int) < ((bks.length : Nat) : Int) := by omega
    repeat ((try conv => whnf); first | (with_reducible first | refine z0a (fun Qs hN hE hR => ?_) | refine z08 ?_ | refine z00 (fun Qb kN kE kX kR => ?_) | refine z04 ?_ | refine z05 ?_ | refine z09 ?_ | refine z06 ?_ | refine z07 ?_ | (show W _ _ _ (.cond _ _ _) _ _; refine z03 rfl ?_) | (refine hN _ ?_; try clear hN hE hR Qs; (try (conv => arg 6; dsimp only [ovl, List.set, List.map, ren0]))) | ((first | refine hE _ _ ?_ | refine hR _ ?_); try clear hN hE hR Qs) | ((first | refine kN _ ?_ | refine kE _ ?_ | refine kX _ _ rfl ?_ | refine kR _ ?_); try clear kN kE kX kR Qb)) | (refine z0d f1 ?_) | (refine stpQ ?_))
    rw [List.take_length]
    (refine z01 (by rfl) ?_ ?_) <;> (repeat' (first | (exact eqA) | (refine And.intro ?_ ?_) | ((fail_if_success (with_reducible (show _ = _))); (show _ = _)))) <;> rfl
  ·have cJ := zdU sides (by omega) (fun x hx => by have := sw x hx; omega)
   have hp3 : ((P1 ++ V2) ++ bks.flatMap bkT).length ≤ 9400 := by simp only [List.length_append] at hp2 ⊢; omega
   generalize (P1 ++ V2) ++ bks.flatMap bkT = P3 at *
   generalize sides.flatten = SF at *
   repeat ((try conv => whnf); first | (with_reducible first | refine z0a (fun Qs hN hE hR => ?_) | refine z08 ?_ | refine z00 (fun Qb kN kE kX kR => ?_) | refine z04 ?_ | refine z05 ?_ | refine z09 ?_ | refine z06 ?_ | refine z07 ?_ | (show W _ _ _ (.cond _ _ _) _ _; refine z03 rfl ?_) | (refine hN _ ?_; try clear hN hE hR Qs; (try (conv => arg 6; dsimp only [ovl, List.set, List.map, ren0]))) | ((first | refine hE _ _ ?_ | refine hR _ ?_); try clear hN hE hR Qs) | ((first | refine kN _ ?_ | refine kE _ ?_ | refine kX _ _ rfl ?_ | refine kR _ ?_); try clear kN kE kX kR Qb)) | (refine Exists.intro sides.length (And.intro hse ?_)) | (refine ccA ([]) (v3) ?_) | (refine ccA ([]) (cJ) ?_) | (refine And.intro (by simp only [List.length_append]; omega) ?_) | (refine And.intro (by kernel_rfl) ?_) | (refine stpQ ?_))
   (refine z02 (by rfl) ?_ ?_ (by rfl)) <;> (repeat' (first | (exact eqA) | (refine And.intro ?_ ?_) | ((fail_if_success (with_reducible (show _ = _))); (show _ = _)))) <;> rfl
end
end Go.Proofs.YtfjbinbpgdiafaaGreatDoor
namespace Go.Proofs.YtfjbinbpgdiafaaGreatDoor
set_option linter.unusedVariables false
set_option linter.unusedSimpArgs false
set_option linter.unusedSectionVars false
open Go.RowKit Pl
section
attribute [local irreducible] z0t z0u z0A AnsP LeP W CvE
set_option maxRecDepth 100000 in
set_option maxHeartbeats 8000000 in
theorem z5M (names : List Bs) (bks : List (List Lf)) (sides : List Bs) (w : Int) (hn : names.length ≤ 1000) (hl : ∀ s ∈ names, (s.length : Int) ≤ 100000000) (hb : bks.length ≤ 1000) (hbk : ∀ b ∈ bks, leavesOk b = true) (hs : sides.length ≤ 1000) : CT Tryz.prog 83 [] [.agg [.sl 1 (strE names), .sl 1 (bkE bks), .sl 1 (strE sides)], .int .i64 w] (.tup [.str (bif z15 names bks sides w then z1Z names bks sides else []), .bool (z15 names bks sides w)]) [] := by
 have cR := z9o names bks sides w hn hl hb hbk hs
 cases hB : z15 names bks sides w with
 | false =>
   rw [hB] at cR
   show CT _ _ _ _ (.tup [.str [], .bool false]) _
   refine z0b z0p 1 rfl Tryz.func83 rfl rfl rfl ?_
   conv => arg 6; whnf
   repeat ((try conv => whnf); first | (with_reducible first | refine z0a (fun Qs hN hE hR => ?_) | refine z08 ?_ | refine z00 (fun Qb kN kE kX kR => ?_) | refine z04 ?_ | refine z05 ?_ | refine z09 ?_ | refine z06 ?_ | refine z07 ?_ | (show W _ _ _ (.cond _ _ _) _ _; refine z03 rfl ?_) | (refine hN _ ?_; try clear hN hE hR Qs; (try (conv => arg 6; dsimp only [ovl, List.set, List.map, ren0]))) | ((first | refine hE _ _ ?_ | refine hR _ ?_); try clear hN hE hR Qs) | ((first | refine kN _ ?_ | refine kE _ ?_ | refine kX _ _ rfl ?_ | refine kR _ ?_); try clear kN kE kX kR Qb)) | (refine ccA ([]) (cR) ?_) | (refine And.intro (by kernel_rfl) ?_) | (refine stpQ ?_))
   (refine z02 (by rfl) ?_ ?_ (by rfl)) <;> (repeat' (first | (exact eqA) | (refine And.intro ?_ ?_) | ((fail_if_success (with_reducible (show _ = _))); (show _ = _))))
 | true =>
 rw [hB] at cR
 show CT _ _ _ _ (.tup [.str (z1Z names bks sides), .bool true]) _
 obtain ⟨n1, n8, nm, b8, bl, w0, sw, s64⟩ := z21 hB
 have hne := z0h names
 have hbe := z2c bks
 have hse := z0h sides
 have v1 := z3K names.length (by omega)
 have v2 := z3K bks.length (by omega)
 have v3 := z3K sides.length (by omega)
 have k1 := z10 (n := names.length) (by omega)
 have k2 := z10 (n := bks.length) (by omega)
 have k3 := z10 (n := sides.length) (by omega)
 have a1 : ∀ i, ((names.take i).flatMap z0e).length ≤ 200 := fun i => by
  have := z8q (f := z0e) (c := 22) (l := names.take i) fun x hx => by
   have h1 := nm x (List.mem_of_mem_take hx)
   have := z1q (l := x) (by omega)
   omega
  rw [List.length_take] at this
  omega
 have a2 : ∀ i, ((bks.take i).flatMap bkT).length ≤ 9000 := fun i => by
  have := z8q (f := bkT) (c := 1110) (l := bks.take i) fun x hx => zaw (bl x (List.mem_of_mem_take hx))
  rw [List.length_take] at this
  omega
 have a3 : ∀ i, ((sides.take i).flatten).length ≤ 3000 := fun i => by
  have := ze0 (c := 32) (l := sides.take i) fun x hx => by have := sw x (List.mem_of_mem_take hx); omega
  rw [List.length_take] at this
  omega
 have z1 := a1 names.length
 rw [List.take_length] at z1
 have z2 := a2 bks.length
 rw [List.take_length] at z2
 have z3 := a3 sides.length
 rw [List.take_length] at z3
 have eT : z1Z names bks sides = ((((z0f names.length ++ names.flatMap z0e) ++ z0f bks.length) ++ bks.flatMap bkT) ++ z0f sides.length) ++ sides.flatten := by simp [z1Z]
 rw [eT]
 clear eT hB
 have q1 : ∀ i (h : i < names.length), names[i].length ≤ 12 := fun i h => nm _ (List.getElem_mem h)
 have q2 : ∀ i (h : i < bks.length), leavesOk bks[i] = true := fun i h => bl _ (List.getElem_mem h)
 have q3 : ∀ i (h : i < sides.length), sides[i].length ≤ 32 := fun i h => by have := sw _ (List.getElem_mem h); omega
 generalize z0f names.length = V1 at *
 generalize z0f bks.length = V2 at *
 generalize z0f sides.length = V3 at *
 refine z0b z0p 1 rfl Tryz.func83 rfl rfl rfl ?_
 conv => arg 6; whnf
 repeat ((try conv => whnf); first | (with_reducible first | refine z0a (fun Qs hN hE hR => ?_) | refine z08 ?_ | refine z00 (fun Qb kN kE kX kR => ?_) | refine z04 ?_ | refine z05 ?_ | refine z09 ?_ | refine z06 ?_ | refine z07 ?_ | (show W _ _ _ (.cond _ _ _) _ _; refine z03 rfl ?_) | (refine hN _ ?_; try clear hN hE hR Qs; (try (conv => arg 6; dsimp only [ovl, List.set, List.map, ren0]))) | ((first | refine hE _ _ ?_ | refine hR _ ?_); try clear hN hE hR Qs) | ((first | refine kN _ ?_ | refine kE _ ?_ | refine kX _ _ rfl ?_ | refine kR _ ?_); try clear kN kE kX kR Qb)) | (refine ccA ([]) (cR) ?_) | (refine Exists.intro names.length (And.intro hne ?_)) | (refine ccA ([]) (v1) ?_) | (refine And.intro (by kernel_rfl) ?_) | (refine stpQ ?_))
 refine z0g 0 ⟨[(2, .ptr 1 0 0), (8, .str (V1 ++ names.flatMap z0e))], [(1, some (.box [.sl 1 (strE names), .sl 1 (bkE bks), .sl 1 (strE sides)]))], 2⟩ Nat (fun i => ⟨[(2, .ptr 1 0 0), (8, .str (V1 ++ (names.take i).flatMap z0e)), (9, .int .i64 (i : Int))], [(1, some (.box [.sl 1 (strE names), .sl 1 (bkE bks), .sl 1 (strE sides)]))], 2⟩) (fun i => i ≤ names.length) (fun i => names.length - i) 0 (Nat.zero_le _) ?_ ?_ ?_
 ·(refine z01 (by rfl) ?_ ?_) <;> (repeat' (first | (exact eqA) | (refine And.intro ?_ ?_) | ((fail_if_success (with_reducible (show _ = _))); (show _ = _)))) <;> first | rfl | (simp; done)
 ·intro i hi
  by_cases hlt : i < names.length
  ·have f1 : (i : Int) < ((names.length : Nat) : Int) := by omega
   have gi := z1T hlt
   have h1 := q1 i hlt
   have h2 := a1 i
   have cS := z3K names[i].length (by omega)
   have h3 := z10 (n := names[i].length) (by omega)
   have hnx : (names.take (i + 1)).flatMap z0e = (names.take i).flatMap z0e ++ (z0f names[i].length ++ names[i]) := z7n (f := z0e) hlt
   generalize (names.take i).flatMap z0e = u at *
   generalize names[i] = y at *
   generalize z0f y.length = sy at *
   repeat ((try conv => whnf); first | (with_reducible first | refine z0a (fun Qs hN hE hR => ?_) | refine z08 ?_ | refine z00 (fun Qb kN kE kX kR => ?_) | refine z04 ?_ | refine z05 ?_ | refine z09 ?_ | refine z06 ?_ | refine z07 ?_ | (show W _ _ _ (.cond _ _ _) _ _; refine z03 rfl ?_) | (refine hN _ ?_; try clear hN hE hR Qs; (try (conv => arg 6; dsimp only [ovl, List.set, List.map, ren0]))) | ((first | refine hE _ _ ?_ | refine hR _ ?_); try clear hN hE hR Qs) | ((first | refine kN _ ?_ | refine kE _ ?_ | refine kX _ _ rfl ?_ | refine kR _ ?_); try clear kN kE kX kR Qb)) | (refine Exists.intro names.length (And.intro hne ?_)) | (refine z0c f1 ?_) | (refine i_at gi ?_) | (refine ccA ([]) (cS) ?_) | (refine And.intro (by simp only [List.length_append]; omega) ?_) | (refine And.intro (by kernel_rfl) ?_) | (refine stpQ ?_))
   refine ⟨i + 1, hlt, by omega, ?_⟩
   rw [hnx]
   (refine z01 (by rfl) ?_ ?_) <;> (repeat' (first | (exact eqA) | (refine And.intro ?_ ?_) | ((fail_if_success (with_reducible (show _ = _))); (show _ = _)))) <;> first | rfl | (simp only [List.append_assoc])
  ·obtain rfl : i = names.length := by omega
   have f1 : ¬ ((names.length : Nat) : Int) < ((names.length : Nat) : Int) := by omega
   repeat ((try conv => whnf); first | (with_reducible first | refine z0a (fun Qs hN hE hR => ?_) | refine z08 ?_ | refine z00 (fun Qb kN kE kX kR => ?_) | refine z04 ?_ | refine z05 ?_ | refine z09 ?_ | refine z06 ?_ | refine z07 ?_ | (show W _ _ _ (.cond _ _ _) _ _; refine z03 rfl ?_) | (refine hN _ ?_; try clear hN hE hR Qs; (try (conv => arg 6; dsimp only [ovl, List.set, List.map, ren0]))) | ((first | refine hE _ _ ?_ | refine hR _ ?_); try clear hN hE hR Qs) | ((first | refine kN _ ?_ | refine kE _ ?_ | refine kX _ _ rfl ?_ | refine kR _ ?_); try clear kN kE kX kR Qb)) | (refine Exists.intro names.length (And.intro hne ?_)) | (refine z0d f1 ?_) | (refine stpQ ?_))
   rw [List.take_length]
   (refine z01 (by rfl) ?_ ?_) <;> (repeat' (first | (exact eqA) | (refine And.intro ?_ ?_) | ((fail_if_success (with_reducible (show _ = _))); (show _ = _)))) <;> rfl
 ·have hp : (V1 ++ names.flatMap z0e).length ≤ 300 := by simp only [List.length_append]; omega
  generalize V1 ++ names.flatMap z0e = P1 at *
  repeat ((try conv => whnf); first | (with_reducible first | refine z0a (fun Qs hN hE hR => ?_) | refine z08 ?_ | refine z00 (fun Qb kN kE kX kR => ?_) | refine z04 ?_ | refine z05 ?_ | refine z09 ?_ | refine z06 ?_ | refine z07 ?_ | (show W _ _ _ (.cond _ _ _) _ _; refine z03 rfl ?_) | (refine hN _ ?_; try clear hN hE hR Qs; (try (conv => arg 6; dsimp only [ovl, List.set, List.map, ren0]))) | ((first | refine hE _ _ ?_ | refine hR _ ?_); try clear hN hE hR Qs) | ((first | refine kN _ ?_ | refine kE _ ?_ | refine kX _ _ rfl ?_ | refine kR _ ?_); try clear kN kE kX kR Qb)) | (refine Exists.intro bks.length (And.intro hbe ?_)) | (refine ccA ([]) (v2) ?_) | (refine And.intro (by simp only [List.length_append]; omega) ?_) | (refine And.intro (by kernel_rfl) ?_) | (refine stpQ ?_))
  have hp2 : (P1 ++ V2).length ≤ 310 := by simp only [List.length_append]; omega
  refine z0g 2 ⟨[(2, .ptr 1 0 0), (8, .str ((P1 ++ V2) ++ bks.flatMap bkT))], [(1, some (.box [.sl 1 (strE names), .sl 1 (bkE bks), .sl 1 (strE sides)]))], 2⟩ Nat (fun i => ⟨[(2, .ptr 1 0 0), (8, .str ((P1 ++ V2) ++ (bks.take i).flatMap bkT)), (10, .int .i64 (i : Int))], [(1, some (.box [.sl 1 (strE names), .sl 1 (bkE bks), .sl 1 (strE sides)]))], 2⟩) (fun i => i ≤ bks.length) (fun i => bks.length - i) 0 (Nat.zero_le _) ?_ ?_ ?_
  ·(refine z01 (by rfl) ?_ ?_) <;> (repeat' (first | (exact eqA) | (refine And.intro ?_ ?_) | ((fail_if_success (with_reducible (show _ = _))); (show _ = _)))) <;> first | rfl | (simp; done)
  ·intro i hi
   by_cases hlt : i < bks.length
   ·have f1 : (i : Int) < ((bks.length : Nat) : Int) := by omega
    have gi := z2T hlt
    have h1 := q2 i hlt
    have h2 := a2 i
    have h4 := z2U h1
    have cL := zcI bks[i] (z5A h1)
    have cS := z3K (z0l bks[i]).length (by omega)
    have h3 := z10 (n := (z0l bks[i]).length) (by omega)
    have hnx : (bks.take (i + 1)).flatMap bkT = (bks.take i).flatMap bkT ++ (z0f (z0l bks[i]).length ++ z0l bks[i]) := z7n (f := bkT) hlt
    generalize (bks.take i).flatMap bkT = u at *
    generalize z0l bks[i] = lt at *
    generalize z0f lt.length = sy at *
    generalize lvE bks[i] = BB at *
    generalize P1 ++ V2 = P2 at *
    repeat ((try conv => whnf); first | (with_reducible first | refine z0a (fun Qs hN hE hR => ?_) | refine z08 ?_ | refine z00 (fun Qb kN kE kX kR => ?_) | refine z04 ?_ | refine z05 ?_ | refine z09 ?_ | refine z06 ?_ | refine z07 ?_ | (show W _ _ _ (.cond _ _ _) _ _; refine z03 rfl ?_) | (refine hN _ ?_; try clear hN hE hR Qs; (try (conv => arg 6; dsimp only [ovl, List.set, List.map, ren0]))) | ((first | refine hE _ _ ?_ | refine hR _ ?_); try clear hN hE hR Qs) | ((first | refine kN _ ?_ | refine kE _ ?_ | refine kX _ _ rfl ?_ | refine kR _ ?_); try clear kN kE kX kR Qb)) | (refine Exists.intro bks.length (And.intro hbe ?_)) | (refine z0c f1 ?_) | (refine i_at gi ?_) | (refine ccA ([]) (cL) ?_) | (refine ccA ([]) (cS) ?_) | (refine And.intro (by simp only [List.length_append]; omega) ?_) | (refine And.intro (by kernel_rfl) ?_) | (refine stpQ ?_))
    refine ⟨i + 1, hlt, by omega, ?_⟩
    rw [hnx]
    (refine z01 (by rfl) ?_ ?_) <;> (repeat' (first | (exact eqA) | (refine And.intro ?_ ?_) | ((fail_if_success (with_reducible (show _ = _))); (show _ = _)))) <;> first | rfl | (simp only [List.append_assoc])
   ·obtain rfl : i = bks.length := by omega
    have f1 : ¬ ((bks.length : Nat) : Int) < ((bks.length : Nat) : Int) := by omega
    repeat ((try conv => whnf); first | (with_reducible first | refine z0a (fun Qs hN hE hR => ?_) | refine z08 ?_ | refine z00 (fun Qb kN kE kX kR => ?_) | refine z04 ?_ | refine z05 ?_ | refine z09 ?_ | refine z06 ?_ | refine z07 ?_ | (show W _ _ _ (.cond _ _ _) _ _; refine z03 rfl ?_) | (refine hN _ ?_; try clear hN hE hR Qs; (try (conv => arg 6; dsimp only [ovl, List.set, List.map, ren0]))) | ((first | refine hE _ _ ?_ | refine hR _ ?_); try clear hN hE hR Qs) | ((first | refine kN _ ?_ | refine kE _ ?_ | refine kX _ _ rfl ?_ | refine kR _ ?_); try clear kN kE kX kR Qb)) | (refine Exists.intro bks.length (And.intro hbe ?_)) | (refine z0d f1 ?_) | (refine stpQ ?_))
    rw [List.take_length]
    (refine z01 (by rfl) ?_ ?_) <;> (repeat' (first | (exact eqA) | (refine And.intro ?_ ?_) | ((fail_if_success (with_reducible (show _ = _))); (show _ = _)))) <;> rfl
  ·have hp3 : ((P1 ++ V2) ++ bks.flatMap bkT).length ≤ 9400 := by simp only [List.length_append] at hp2 ⊢; omega
   generalize (P1 ++ V2) ++ bks.flatMap bkT = P3 at *
   repeat ((try conv => whnf); first | (with_reducible first | refine z0a (fun Qs hN hE hR => ?_) | refine z08 ?_ | refine z00 (fun Qb kN kE kX kR => ?_) | refine z04 ?_ | refine z05 ?_ | refine z09 ?_ | refine z06 ?_ | refine z07 ?_ | (show W _ _ _ (.cond _ _ _) _ _; refine z03 rfl ?_) | (refine hN _ ?_; try clear hN hE hR Qs; (try (conv => arg 6; dsimp only [ovl, List.set, List.map, ren0]))) | ((first | refine hE _ _ ?_ | refine hR _ ?_); try clear hN hE hR Qs) | ((first | refine kN _ ?_ | refine kE _ ?_ | refine kX _ _ rfl ?_ | refine kR _ ?_); try clear kN kE kX kR Qb)) | (refine Exists.intro sides.length (And.intro hse ?_)) | (refine ccA ([]) (v3) ?_) | (refine And.intro (by simp only [List.length_append]; omega) ?_) | (refine And.intro (by kernel_rfl) ?_) | (refine stpQ ?_))
   have hp4 : (P3 ++ V3).length ≤ 9410 := by simp only [List.length_append]; omega
   generalize P3 ++ V3 = P4 at *
   refine z0g 4 ⟨[(8, .str (P4 ++ sides.flatten))], [], 1⟩ Nat (fun i => ⟨[(2, .ptr 1 0 0), (8, .str (P4 ++ (sides.take i).flatten)), (12, .int .i64 (i : Int))], [(1, some (.box [.sl 1 (strE names), .sl 1 (bkE bks), .sl 1 (strE sides)]))], 2⟩) (fun i => i ≤ sides.length) (fun i => sides.length - i) 0 (Nat.zero_le _) ?_ ?_ ?_
   ·(refine z01 (by rfl) ?_ ?_) <;> (repeat' (first | (exact eqA) | (refine And.intro ?_ ?_) | ((fail_if_success (with_reducible (show _ = _))); (show _ = _)))) <;> first | rfl | (simp; done)
   ·intro i hi
    by_cases hlt : i < sides.length
    ·have f1 : (i : Int) < ((sides.length : Nat) : Int) := by omega
     have gi := z1T hlt
     have h1 := q3 i hlt
     have h2 := a3 i
     have hnx := zfx hlt
     generalize (sides.take i).flatten = u at *
     generalize sides[i] = y at *
     repeat ((try conv => whnf); first | (with_reducible first | refine z0a (fun Qs hN hE hR => ?_) | refine z08 ?_ | refine z00 (fun Qb kN kE kX kR => ?_) | refine z04 ?_ | refine z05 ?_ | refine z09 ?_ | refine z06 ?_ | refine z07 ?_ | (show W _ _ _ (.cond _ _ _) _ _; refine z03 rfl ?_) | (refine hN _ ?_; try clear hN hE hR Qs; (try (conv => arg 6; dsimp only [ovl, List.set, List.map, ren0]))) | ((first | refine hE _ _ ?_ | refine hR _ ?_); try clear hN hE hR Qs) | ((first | refine kN _ ?_ | refine kE _ ?_ | refine kX _ _ rfl ?_ | refine kR _ ?_); try clear kN kE kX kR Qb)) | (refine Exists.intro sides.length (And.intro hse ?_)) | (refine z0c f1 ?_) | (refine i_at gi ?_) | (refine And.intro (by simp only [List.length_append]; omega) ?_) | (refine And.intro (by kernel_rfl) ?_) | (refine stpQ ?_))
     refine ⟨i + 1, hlt, by omega, ?_⟩
     rw [hnx]
     (refine z01 (by rfl) ?_ ?_) <;> (repeat' (first | (exact eqA) | (refine And.intro ?_ ?_) | ((fail_if_success (with_reducible (show _ = _))); (show _ = _)))) <;> first | rfl | (simp only [List.append_assoc])
    ·obtain rfl : i = sides.length := by omega
     have f1 : ¬ ((sides.length : Nat) : Int) < ((sides.length : Nat) : Int) := by omega
     repeat ((try conv => whnf); first | (with_reducible first | refine z0a (fun Qs hN hE hR => ?_) | refine z08 ?_ | refine z00 (fun Qb kN kE kX kR => ?_) | refine z04 ?_ | refine z05 ?_ | refine z09 ?_ | refine z06 ?_ | refine z07 ?_ | (show W _ _ _ (.cond _ _ _) _ _; refine z03 rfl ?_) | (refine hN _ ?_; try clear hN hE hR Qs; (try (conv => arg 6; dsimp only [ovl, List.set, List.map, ren0]))) | ((first | refine hE _ _ ?_ | refine hR _ ?_); try clear hN hE hR Qs) | ((first | refine kN _ ?_ | refine kE _ ?_ | refine kX _ _ rfl ?_ | refine kR _ ?_); try clear kN kE kX kR Qb)) | (refine Exists.intro sides.length (And.intro hse ?_)) | (refine z0d f1 ?_) | (refine stpQ ?_))
     rw [List.take_length]
     (refine z01 (by rfl) ?_ ?_) <;> (repeat' (first | (exact eqA) | (refine And.intro ?_ ?_) | ((fail_if_success (with_reducible (show _ = _))); (show _ = _)))) <;> rfl
   ·repeat ((try conv => whnf); first | (with_reducible first | refine z0a (fun Qs hN hE hR => ?_) | refine z08 ?_ | refine z00 (fun Qb kN kE kX kR => ?_) | refine z04 ?_ | refine z05 ?_ | refine z09 ?_ | refine z06 ?_ | refine z07 ?_ | (show W _ _ _ (.cond _ _ _) _ _; refine z03 rfl ?_) | (refine hN _ ?_; try clear hN hE hR Qs; (try (conv => arg 6; dsimp only [ovl, List.set, List.map, ren0]))) | ((first | refine hE _ _ ?_ | refine hR _ ?_); try clear hN hE hR Qs) | ((first | refine kN _ ?_ | refine kE _ ?_ | refine kX _ _ rfl ?_ | refine kR _ ?_); try clear kN kE kX kR Qb)) | (refine stpQ ?_))
    (refine z02 (by rfl) ?_ ?_ (by rfl)) <;> (repeat' (first | (exact eqA) | (refine And.intro ?_ ?_) | ((fail_if_success (with_reducible (show _ = _))); (show _ = _)))) <;> rfl
end
end Go.Proofs.YtfjbinbpgdiafaaGreatDoor
