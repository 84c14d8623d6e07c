/- Functions by content: a drawn complete proof. -/
import Derived.Test.YtgmbkbggnlponaaGreatDoorSiR
import Derived.Test.YtgmbkbggnlponaaGreatDoorPs
import Derived.Test.YtgmbkbggnlponaaGreatDoorVe
namespace Go.Proofs.YtgmbkbggnlponaaGreatDoor
set_option linter.unusedVariables false
set_option linter.unusedSimpArgs false
set_option linter.unusedSectionVars false
open Go.RowKit Pl
attribute [local irreducible] z0t z0u z0y AnsP LeP W
set_option maxRecDepth 100000 in
set_option maxHeartbeats 16000000 in
theorem zdS (c : Bs) (i : Nat) (h : Int) (hc : (c.length : Int) ≤ 1048576) (hi : i ≤ c.length) : ∃ (K need : Nat) (nm : Bs) (L : List Lf) (hd : Hd) (i' : Nat) (h' : Int),
 ((K < 3 ∧ need < 3) ∧ (z1d nm = true ∧ nm.length ≤ 9) ∧ (leavesOk L = true ∧ Small9 L ∧ L.length ≤ 9) ∧ hd.good ∧ hd.ro = z0w L 16 8 0) ∧ i' ≤ c.length ∧
 CT Tryz.prog 60 [curE c i h] [.ptr 1 0 0] (.tup [.agg [.ref 2, .int .i64 (K : Int), .int .i64 (need : Int)], .int .i64 (hd.ho : Int), .str nm, .int .i64 (hd.ep : Int),
  .agg (whE ⟨z0v L (ixB nm : Int), z18 L 16 (ixB nm) (8 - K), (z18 L 16 (ixB nm) 8).drop (8 - K), hd, z3c (z26 hd.ho) (z1N hd.ho) (hd.ep - 1) (z1k hd), z1h hd 3⟩), .sl 2 (lvE L)]) [curE c i' h', .row 1 (strE (z1z 3))] := by
 obtain ⟨K, i1, h1, hK, hi1, k1⟩ := z15 c i h 3 hc hi (by omega)
 obtain ⟨need, i2, h2, hneed, hi2, k2⟩ := z15 c i1 h1 3 hc hi1 (by omega)
 obtain ⟨ho, i3, h3, hho, hi3, k3⟩ := z15 c i2 h2 3 hc hi2 (by omega)
 obtain ⟨nm, i4, h4, hn, hi4, k4⟩ := za0 c i3 h3 hc hi3
 obtain ⟨L, i5, h5, hL, hi5, k5⟩ := zf6 c i4 h4 hc hi4
 obtain ⟨e, i6, h6, he, hi6, k6⟩ := z15 c i5 h5 4 hc hi5 (by omega)
 have ka := zfe L 16 hL.1 (by omega)
 have kal := z4P (l := L) (w := 16) (by omega) 8 0
 have kb := zaq L nm 16 (8 - K) hL.1 hn.1 (by omega) (by omega)
 rw [show (8 : Int) - ((8 - K : Nat) : Int) = (K : Int) by omega] at kb
 have kc := z25 nm (by omega)
 have kd := zcM L 16 (ixB nm) 8 hL.1 (by omega) (z6J nm) (by omega)
 rw [show (8 : Int) - ((8 : Nat) : Int) = 0 by omega] at kd
 have kdl := z3a L 16 (ixB nm) 8
 have kE := z7e ho (by omega)
 have e1 : IntKind.i64.wrap (1 + (e : Int)) = ((e + 1 : Nat) : Int) := by rw [wrap_i64 (by omega) (by omega)]; omega
 have e8 : IntKind.i64.wrap (8 - (K : Int)) = ((8 - K : Nat) : Int) := by rw [wrap_i64 (by omega) (by omega)]; omega
 by_cases he0 : e = 0
 ·subst he0
  have hg : (⟨ho, 1, z0w L 16 8 0, []⟩ : Hd).good := ⟨by show ho ≤ 2; omega, by show 1 ≤ 1; omega, by show 1 ≤ 4; omega, kal, rfl⟩
  refine ⟨K, need, nm, L, (⟨ho, 1, z0w L 16 8 0, []⟩ : Hd), i6, h6, ⟨⟨hK, hneed⟩, hn, hL, hg, rfl⟩, hi6, ?_⟩
  have kS : CT Tryz.prog 116 [] [.str (z26 ho), .sl 1 (strE (z1N ho)), .agg (hdE (⟨ho, 1, z0w L 16 8 0, []⟩ : Hd))] (.tup [.agg (hdE (⟨ho, 1, z0w L 16 8 0, []⟩ : Hd) ++ sgE (z3c (z26 ho) (z1N ho) ((⟨ho, 1, z0w L 16 8 0, []⟩ : Hd).ep - 1) (z1k (⟨ho, 1, z0w L 16 8 0, []⟩ : Hd)))), .bool true]) [] := zft (z26 ho) (⟨ho, 1, z0w L 16 8 0, []⟩ : Hd) (z44 ho) hg
  have kT : ∀ n, CT Tryz.prog 117 [] [.str (z26 n), .sl 1 (strE (z1N n)), .agg (hdE (⟨ho, 1, z0w L 16 8 0, []⟩ : Hd))] (.tup [.agg (sgE (z2w n (⟨ho, 1, z0w L 16 8 0, []⟩ : Hd))), .bool true]) [] := fun n => zcN (z26 n) (⟨ho, 1, z0w L 16 8 0, []⟩ : Hd) (z44 n) hg
  have hst := z4t (⟨ho, 1, z0w L 16 8 0, []⟩ : Hd)
  have hsn : ∀ n, z1h (⟨ho, 1, z0w L 16 8 0, []⟩ : Hd) (n + 1) = z1h (⟨ho, 1, z0w L 16 8 0, []⟩ : Hd) n ++ (if n = ho then [] else [(n, z2w n (⟨ho, 1, z0w L 16 8 0, []⟩ : Hd))]) := fun n => rfl
  have hs0 : z1h (⟨ho, 1, z0w L 16 8 0, []⟩ : Hd) 0 = [] := rfl
  show CT _ _ _ _ (.tup [_, .int .i64 (ho : Int), _, .int .i64 ((1 : Nat) : Int), .agg ([.sl 2 (lvE (z0v L (ixB nm : Int))), .sl 1 (strE (z18 L 16 (ixB nm) (8 - K))), .sl 1 (strE ((z18 L 16 (ixB nm) 8).drop (8 - K)))] ++ hdE (⟨ho, 1, z0w L 16 8 0, []⟩ : Hd) ++ sgE (z3c (z26 ho) (z1N ho) ((⟨ho, 1, z0w L 16 8 0, []⟩ : Hd).ep - 1) (z1k (⟨ho, 1, z0w L 16 8 0, []⟩ : Hd))) ++ [.sl 5 (stE (z1h (⟨ho, 1, z0w L 16 8 0, []⟩ : Hd) 3))]), _]) _
  generalize z3c (z26 ho) (z1N ho) ((⟨ho, 1, z0w L 16 8 0, []⟩ : Hd).ep - 1) (z1k (⟨ho, 1, z0w L 16 8 0, []⟩ : Hd)) = SG at kS ⊢
  obtain ⟨sa, so, ss, si⟩ := SG
  generalize z1h (⟨ho, 1, z0w L 16 8 0, []⟩ : Hd) = ST at hst hsn hs0 ⊢
  generalize hSS : (fun n => z2w n (⟨ho, 1, z0w L 16 8 0, []⟩ : Hd)) = SS
  have hSS2 : ∀ n, z2w n (⟨ho, 1, z0w L 16 8 0, []⟩ : Hd) = SS n := fun n => congrFun hSS n
  simp only [hSS2] at kT hsn
  clear hSS hSS2
  clear hg
  generalize z0w L 16 8 0 = root at ka kal kS kT ⊢
  generalize z0v L (ixB nm : Int) = B at kb ⊢
  generalize z18 L 16 (ixB nm) (8 - K) = S at kb ⊢
  generalize z18 L 16 (ixB nm) 8 = D at kd kdl ⊢
  generalize ixB nm = ix at kc kd
  have hDl := z0c D
  have hdrop : (strE D).drop (8 - K) = strE (D.drop (8 - K)) := by simp [strE, List.map_drop]
  have gp := z3e (n := 3) (i := ho) hho
  unfold hdE sgE at kS kT ⊢
  simp only [List.cons_append, List.nil_append] at kS kT ⊢
  refine z01 z0d 2 rfl Tryz.func60 rfl rfl rfl ?_
  conv => arg 6; whnf
  repeat ((try conv => whnf); first | (with_reducible first | refine z0b (fun Qs hN hE hR => ?_) | refine z09 ?_ | refine z03 (fun Qb kN kE kX kR => ?_) | refine z05 ?_ | refine z06 ?_ | refine z0a ?_ | refine z07 ?_ | refine z08 ?_ | (show W _ _ _ (.cond _ _ _) _ _; refine z04 rfl ?_) | (refine hN _ ?_; try clear hN hE hR Qs; (try (conv => arg 6; dsimp only [ovl, List.set, List.map, ren0]))) | ((first | refine hE _ _ ?_ | refine hR _ ?_); try clear hN hE hR Qs) | ((first | refine kN _ ?_ | refine kE _ ?_ | refine kX _ _ rfl ?_ | refine kR _ ?_); try clear kN kE kX kR Qb)) | (refine ccB ([1]) (k1) ?_) | (refine ccB ([1]) (k2) ?_) | (refine stpQ ?_))
  refine z0h 0 ⟨[(0, .ptr 1 0 0), (2, .ptr 2 0 0), (6, .ptr 3 0 0), (8, .ptr 4 0 0), (9, .ref 5)], [(1, some (curE c i2 h2)), (2, some (.box [.val nilV, .int .i64 0, .int .i64 0])), (3, some (.box [.val nilV, .val nilV, .val nilV, .int .i64 0, .int .i64 0, .str [], .str [], .int .i64 0, .val nilV, .val nilV, .val nilV, .val nilV])), (4, some (.box [.ref 6, .int .i64 (K : Int), .int .i64 (need : Int)])), (5, some (.row 1 (z2v 3))), (6, some (.row 1 (strE (z1z 3))))], 7⟩ Nat (fun n => ⟨[(0, .ptr 1 0 0), (2, .ptr 2 0 0), (6, .ptr 3 0 0), (8, .ptr 4 0 0), (9, .ref 5), (10, .int .i64 (n : Int))], [(1, some (curE c i2 h2)), (2, some (.box [.val nilV, .int .i64 0, .int .i64 0])), (3, some (.box [.val nilV, .val nilV, .val nilV, .int .i64 0, .int .i64 0, .str [], .str [], .int .i64 0, .val nilV, .val nilV, .val nilV, .val nilV])), (4, some (.box [.ref 6, .int .i64 (K : Int), .int .i64 (need : Int)])), (5, some (.row 1 (z2v n))), (6, some (.row 1 (strE (z1z n))))], 7⟩) (fun n => n ≤ 3) (fun n => 3 - n) 0 (by omega) ?_ ?_ ?_
  ·(refine z02 (by rfl) ?_ ?_) <;> (repeat' (first | (exact eqA) | (refine And.intro ?_ ?_) | ((fail_if_success (with_reducible (show _ = _))); (show _ = _)))) <;> first | rfl | decide
  ·intro n hn3
   by_cases hlt : n < 3
   ·have hn4 : (n : Int) < 3 := by omega
    have q1 := z7e n (by omega)
    have q2 : CT Tryz.prog 107 [] [.str (z26 n)] (.ref 1) [.row 1 (strE (z1N n))] := zfr (z26 n) (z44 n)
    have q3 := z7b (z1N n) (z3W n) z3d
    have n1 := z72 n
    have n2 := z73 n
    have l1 := z2L n
    have l2 := z45 n
    have l3 := z2L (n + 1)
    have g1 := z3e (n := n + 1) (i := n) (by omega)
    generalize z6Y (z1N n) = r0 at q3 n2
    generalize z1N n = P at q2 q3 n1 g1
    generalize z26 n = sd at q1 q2
    rw [n1] at g1 l3
    generalize z2v n = o1 at n1 l1 l3 g1 ⊢
    generalize z1z n = o2 at n2 l2 ⊢
    have ho2 := z0c o2
    have l4 : n < (o1 ++ [[T.sl 1 (strE P)]]).length := by omega
    repeat ((try conv => whnf); first | (with_reducible first | refine z0b (fun Qs hN hE hR => ?_) | refine z09 ?_ | refine z03 (fun Qb kN kE kX kR => ?_) | refine z05 ?_ | refine z06 ?_ | refine z0a ?_ | refine z07 ?_ | refine z08 ?_ | (show W _ _ _ (.cond _ _ _) _ _; refine z04 rfl ?_) | (refine hN _ ?_; try clear hN hE hR Qs; (try (conv => arg 6; dsimp only [ovl, List.set, List.map, ren0]))) | ((first | refine hE _ _ ?_ | refine hR _ ?_); try clear hN hE hR Qs) | ((first | refine kN _ ?_ | refine kE _ ?_ | refine kX _ _ rfl ?_ | refine kR _ ?_); try clear kN kE kX kR Qb)) | (refine ccA ([]) (q1) ?_) | (refine ccA ([]) (q2) ?_) | (refine And.intro (by simp only [List.length_append, List.length_cons, List.length_nil, List.length_set, List.length_replicate]; omega) ?_) | (refine i_lt l4 ?_) | (refine Exists.intro _ (And.intro g1 ?_)) | (refine ccA ([]) (q3) ?_) | (refine And.intro (by kernel_rfl) ?_) | (refine stpQ ?_))
    refine ⟨n + 1, by omega, by omega, ?_⟩
    rw [n1, n2]
    (refine z02 (by rfl) ?_ ?_) <;> (repeat' (first | (exact eqA) | (refine And.intro ?_ ?_) | ((fail_if_success (with_reducible (show _ = _))); (show _ = _))))
    all_goals first
     | (rw [z0R]; rfl)
     | rfl
   ·obtain rfl : n = 3 := by omega
    repeat ((try conv => whnf); first | (with_reducible first | refine z0b (fun Qs hN hE hR => ?_) | refine z09 ?_ | refine z03 (fun Qb kN kE kX kR => ?_) | refine z05 ?_ | refine z06 ?_ | refine z0a ?_ | refine z07 ?_ | refine z08 ?_ | (show W _ _ _ (.cond _ _ _) _ _; refine z04 rfl ?_) | (refine hN _ ?_; try clear hN hE hR Qs; (try (conv => arg 6; dsimp only [ovl, List.set, List.map, ren0]))) | ((first | refine hE _ _ ?_ | refine hR _ ?_); try clear hN hE hR Qs) | ((first | refine kN _ ?_ | refine kE _ ?_ | refine kX _ _ rfl ?_ | refine kR _ ?_); try clear kN kE kX kR Qb)) | (refine stpQ ?_))
    (refine z02 (by rfl) ?_ ?_) <;> (repeat' (first | (exact eqA) | (refine And.intro ?_ ?_) | ((fail_if_success (with_reducible (show _ = _))); (show _ = _))))
  ·repeat ((try conv => whnf); first | (with_reducible first | refine z0b (fun Qs hN hE hR => ?_) | refine z09 ?_ | refine z03 (fun Qb kN kE kX kR => ?_) | refine z05 ?_ | refine z06 ?_ | refine z0a ?_ | refine z07 ?_ | refine z08 ?_ | (show W _ _ _ (.cond _ _ _) _ _; refine z04 rfl ?_) | (refine hN _ ?_; try clear hN hE hR Qs; (try (conv => arg 6; dsimp only [ovl, List.set, List.map, ren0]))) | ((first | refine hE _ _ ?_ | refine hR _ ?_); try clear hN hE hR Qs) | ((first | refine kN _ ?_ | refine kE _ ?_ | refine kX _ _ rfl ?_ | refine kR _ ?_); try clear kN kE kX kR Qb)) | (refine ccB ([1]) (k3) ?_) | (refine ccB ([1]) (k4) ?_) | (refine ccB ([1]) (k5) ?_) | (refine ccB ([1]) (k6) ?_) | (refine Exists.intro _ (And.intro e1.symm ?_)) | (refine ccA ([]) (ka) ?_) | (refine z29 ([]) (kb) (by ((repeat' (first | (exact trivial) | (exact rfl) | (refine And.intro ?_ ?_))); first | done | fail)) (by ((repeat' (first | (exact trivial) | (exact rfl) | (refine And.intro ?_ ?_))); first | done | fail)) (by decide) (by rfl) (by first | exact .inl rfl | (refine .inr ⟨by simp [own2, own1, own0], fun e he => ?_⟩; simp only [List.mem_cons, List.not_mem_nil, or_false] at he <;> first | exact he.elim | (subst he; (first | exact z0C _ | exact z0q _)) | (rcases he with rfl | rfl <;> (first | exact z0C _ | exact z0q _)))) ?_) | (refine ccA ([]) (kc) ?_) | (refine z29 ([]) (kd) (by ((repeat' (first | (exact trivial) | (exact rfl) | (refine And.intro ?_ ?_))); first | done | fail)) (by ((repeat' (first | (exact trivial) | (exact rfl) | (refine And.intro ?_ ?_))); first | done | fail)) (by decide) (by rfl) (by first | exact .inl rfl | (refine .inr ⟨by simp [own2, own1, own0], fun e he => ?_⟩; simp only [List.mem_cons, List.not_mem_nil, or_false] at he <;> first | exact he.elim | (subst he; (first | exact z0C _ | exact z0q _)) | (rcases he with rfl | rfl <;> (first | exact z0C _ | exact z0q _)))) ?_) | (refine Exists.intro _ (And.intro e8.symm ?_)) | (refine Exists.intro (8 - K) (And.intro rfl (And.intro (by omega) ?_))) | (refine ccA ([]) (kE) ?_) | (refine i_lt (by rw [z2L]; omega) ?_) | (refine Exists.intro _ (And.intro gp ?_)) | (refine ccA ([]) (kS) ?_) | (refine And.intro (by kernel_rfl) ?_) | (refine stpQ ?_))
   refine z0h 2 ⟨[(2, .ptr 2 0 0), (6, .ptr 3 0 0), (8, .ptr 4 0 0), (9, .sl 1 (z2v 3)), (11, .int .i64 (ho : Int)), (12, .str nm), (13, .sl 2 (lvE L)), (14, .ptr 5 0 0), (15, .ptr 6 0 0)], [(1, some (curE c i6 h6)), (2, some (.box [.val nilV, .int .i64 0, .int .i64 0])), (3, some (.box [.val nilV, .val nilV, .val nilV, .int .i64 0, .int .i64 0, .str [], .str [], .int .i64 0, .val nilV, .val nilV, .val nilV, .val nilV])), (4, some (.box [.ref 8, .int .i64 (K : Int), .int .i64 (need : Int)])), (5, some (.box [.int .i64 (ho : Int), .int .i64 ((1 : Nat) : Int), .str root, .str []])), (6, some (.box [.sl 2 (lvE B), .sl 1 (strE S), .sl 1 (strE (D.drop (8 - K))), .int .i64 (ho : Int), .int .i64 ((1 : Nat) : Int), .str root, .str [], .int .i64 (sa : Int), .sl 1 (strE so), .sl 1 (strE ss), .sl 1 (strE si), .ref 7])), (7, some (.row 5 (stE (ST 3)))), (8, some (.row 1 (strE (z1z 3))))], 9⟩ Nat (fun n => ⟨[(2, .ptr 2 0 0), (6, .ptr 3 0 0), (8, .ptr 4 0 0), (9, .sl 1 (z2v 3)), (11, .int .i64 (ho : Int)), (12, .str nm), (13, .sl 2 (lvE L)), (14, .ptr 5 0 0), (15, .ptr 6 0 0), (17, .int .i64 (n : Int))], [(1, some (curE c i6 h6)), (2, some (.box [.val nilV, .int .i64 0, .int .i64 0])), (3, some (.box [.val nilV, .val nilV, .val nilV, .int .i64 0, .int .i64 0, .str [], .str [], .int .i64 0, .val nilV, .val nilV, .val nilV, .val nilV])), (4, some (.box [.ref 8, .int .i64 (K : Int), .int .i64 (need : Int)])), (5, some (.box [.int .i64 (ho : Int), .int .i64 ((1 : Nat) : Int), .str root, .str []])), (6, some (.box [.sl 2 (lvE B), .sl 1 (strE S), .sl 1 (strE (D.drop (8 - K))), .int .i64 (ho : Int), .int .i64 ((1 : Nat) : Int), .str root, .str [], .int .i64 (sa : Int), .sl 1 (strE so), .sl 1 (strE ss), .sl 1 (strE si), .ref 7])), (7, some (.row 5 (stE (ST n)))), (8, some (.row 1 (strE (z1z 3))))], 9⟩) (fun n => n ≤ 3) (fun n => 3 - n) 0 (by omega) ?_ ?_ ?_
   ·rw [hs0]
    (refine z02 (by rfl) ?_ ?_) <;> (repeat' (first | (exact eqA) | (refine And.intro ?_ ?_) | ((fail_if_success (with_reducible (show _ = _))); (show _ = _)))) <;> first | rfl | decide | exact hdrop
   ·intro n hn3
    have hln := hst n
    by_cases hlt : n < 3
    ·have hn4 : (n : Int) < 3 := by omega
     by_cases heq : n = ho
     ·have hx := hsn n
      rw [if_pos heq, List.append_nil] at hx
      have hn5 : (n : Int) = (ho : Int) := by omega
      generalize ST n = o at hx hln ⊢
      repeat ((try conv => whnf); first | (with_reducible first | refine z0b (fun Qs hN hE hR => ?_) | refine z09 ?_ | refine z03 (fun Qb kN kE kX kR => ?_) | refine z05 ?_ | refine z06 ?_ | refine z0a ?_ | refine z07 ?_ | refine z08 ?_ | (show W _ _ _ (.cond _ _ _) _ _; refine z04 rfl ?_) | (refine hN _ ?_; try clear hN hE hR Qs; (try (conv => arg 6; dsimp only [ovl, List.set, List.map, ren0]))) | ((first | refine hE _ _ ?_ | refine hR _ ?_); try clear hN hE hR Qs) | ((first | refine kN _ ?_ | refine kE _ ?_ | refine kX _ _ rfl ?_ | refine kR _ ?_); try clear kN kE kX kR Qb)) | (refine stpQ ?_))
      refine ⟨n + 1, by omega, by omega, ?_⟩
      rw [hx]
      (refine z02 (by rfl) ?_ ?_) <;> (repeat' (first | (exact eqA) | (refine And.intro ?_ ?_) | ((fail_if_success (with_reducible (show _ = _))); (show _ = _))))
     ·have hx := hsn n
      rw [if_neg heq] at hx
      have hn5 : ¬ (n : Int) = (ho : Int) := by omega
      have q1 := z7e n (by omega)
      have q2 := kT n
      have g1 := z3e (n := 3) (i := n) hlt
      generalize z1N n = P at q2 g1
      generalize z26 n = sd at q1 q2
      generalize SS n = s0 at q2 hx
      obtain ⟨ta, to, ts, ti⟩ := s0
      generalize ST n = o at hx hln ⊢
      have hol := z3V o
      repeat ((try conv => whnf); first | (with_reducible first | refine z0b (fun Qs hN hE hR => ?_) | refine z09 ?_ | refine z03 (fun Qb kN kE kX kR => ?_) | refine z05 ?_ | refine z06 ?_ | refine z0a ?_ | refine z07 ?_ | refine z08 ?_ | (show W _ _ _ (.cond _ _ _) _ _; refine z04 rfl ?_) | (refine hN _ ?_; try clear hN hE hR Qs; (try (conv => arg 6; dsimp only [ovl, List.set, List.map, ren0]))) | ((first | refine hE _ _ ?_ | refine hR _ ?_); try clear hN hE hR Qs) | ((first | refine kN _ ?_ | refine kE _ ?_ | refine kX _ _ rfl ?_ | refine kR _ ?_); try clear kN kE kX kR Qb)) | (refine ccA ([]) (q1) ?_) | (refine i_at g1 ?_) | (refine ccA ([]) (q2) ?_) | (refine And.intro (by simp only [List.length_append, List.length_cons, List.length_nil, List.length_set, List.length_replicate, z3V]; omega) ?_) | (refine And.intro (by kernel_rfl) ?_) | (refine stpQ ?_))
      refine ⟨n + 1, by omega, by omega, ?_⟩
      rw [hx]
      (refine z02 (by rfl) ?_ ?_) <;> (repeat' (first | (exact eqA) | (refine And.intro ?_ ?_) | ((fail_if_success (with_reducible (show _ = _))); (show _ = _))))
      all_goals first
       | (rw [zbE]; rfl)
       | rfl
    ·obtain rfl : n = 3 := by omega
     repeat ((try conv => whnf); first | (with_reducible first | refine z0b (fun Qs hN hE hR => ?_) | refine z09 ?_ | refine z03 (fun Qb kN kE kX kR => ?_) | refine z05 ?_ | refine z06 ?_ | refine z0a ?_ | refine z07 ?_ | refine z08 ?_ | (show W _ _ _ (.cond _ _ _) _ _; refine z04 rfl ?_) | (refine hN _ ?_; try clear hN hE hR Qs; (try (conv => arg 6; dsimp only [ovl, List.set, List.map, ren0]))) | ((first | refine hE _ _ ?_ | refine hR _ ?_); try clear hN hE hR Qs) | ((first | refine kN _ ?_ | refine kE _ ?_ | refine kX _ _ rfl ?_ | refine kR _ ?_); try clear kN kE kX kR Qb)) | (refine stpQ ?_))
     (refine z02 (by rfl) ?_ ?_) <;> (repeat' (first | (exact eqA) | (refine And.intro ?_ ?_) | ((fail_if_success (with_reducible (show _ = _))); (show _ = _))))
   ·repeat ((try conv => whnf); first | (with_reducible first | refine z0b (fun Qs hN hE hR => ?_) | refine z09 ?_ | refine z03 (fun Qb kN kE kX kR => ?_) | refine z05 ?_ | refine z06 ?_ | refine z0a ?_ | refine z07 ?_ | refine z08 ?_ | (show W _ _ _ (.cond _ _ _) _ _; refine z04 rfl ?_) | (refine hN _ ?_; try clear hN hE hR Qs; (try (conv => arg 6; dsimp only [ovl, List.set, List.map, ren0]))) | ((first | refine hE _ _ ?_ | refine hR _ ?_); try clear hN hE hR Qs) | ((first | refine kN _ ?_ | refine kE _ ?_ | refine kX _ _ rfl ?_ | refine kR _ ?_); try clear kN kE kX kR Qb)) | (refine And.intro (by kernel_rfl) ?_) | (refine stpQ ?_))
    (refine z00 (by rfl) ?_ ?_ (by rfl)) <;> (repeat' (first | (exact eqA) | (refine And.intro ?_ ?_) | ((fail_if_success (with_reducible (show _ = _))); (show _ = _)))) <;> first | rfl | decide
 ·obtain ⟨pr, i7, h7, hpr, hi7, k7⟩ := zax c i6 h6 hc hi6
  have hg : (⟨ho, e + 1, z0w L 16 8 0, pr⟩ : Hd).good := ⟨by show ho ≤ 2; omega, by show 1 ≤ e + 1; omega, by show e + 1 ≤ 4; omega, kal, by show (if e + 1 = 1 then pr = [] else pr.length = 16); rw [if_neg (by omega)]; exact hpr⟩
  refine ⟨K, need, nm, L, (⟨ho, e + 1, z0w L 16 8 0, pr⟩ : Hd), i7, h7, ⟨⟨hK, hneed⟩, hn, hL, hg, rfl⟩, hi7, ?_⟩
  have kS : CT Tryz.prog 116 [] [.str (z26 ho), .sl 1 (strE (z1N ho)), .agg (hdE (⟨ho, e + 1, z0w L 16 8 0, pr⟩ : Hd))] (.tup [.agg (hdE (⟨ho, e + 1, z0w L 16 8 0, pr⟩ : Hd) ++ sgE (z3c (z26 ho) (z1N ho) ((⟨ho, e + 1, z0w L 16 8 0, pr⟩ : Hd).ep - 1) (z1k (⟨ho, e + 1, z0w L 16 8 0, pr⟩ : Hd)))), .bool true]) [] := zft (z26 ho) (⟨ho, e + 1, z0w L 16 8 0, pr⟩ : Hd) (z44 ho) hg
  have kT : ∀ n, CT Tryz.prog 117 [] [.str (z26 n), .sl 1 (strE (z1N n)), .agg (hdE (⟨ho, e + 1, z0w L 16 8 0, pr⟩ : Hd))] (.tup [.agg (sgE (z2w n (⟨ho, e + 1, z0w L 16 8 0, pr⟩ : Hd))), .bool true]) [] := fun n => zcN (z26 n) (⟨ho, e + 1, z0w L 16 8 0, pr⟩ : Hd) (z44 n) hg
  have hst := z4t (⟨ho, e + 1, z0w L 16 8 0, pr⟩ : Hd)
  have hsn : ∀ n, z1h (⟨ho, e + 1, z0w L 16 8 0, pr⟩ : Hd) (n + 1) = z1h (⟨ho, e + 1, z0w L 16 8 0, pr⟩ : Hd) n ++ (if n = ho then [] else [(n, z2w n (⟨ho, e + 1, z0w L 16 8 0, pr⟩ : Hd))]) := fun n => rfl
  have hs0 : z1h (⟨ho, e + 1, z0w L 16 8 0, pr⟩ : Hd) 0 = [] := rfl
  show CT _ _ _ _ (.tup [_, .int .i64 (ho : Int), _, .int .i64 ((e + 1 : Nat) : Int), .agg ([.sl 2 (lvE (z0v L (ixB nm : Int))), .sl 1 (strE (z18 L 16 (ixB nm) (8 - K))), .sl 1 (strE ((z18 L 16 (ixB nm) 8).drop (8 - K)))] ++ hdE (⟨ho, e + 1, z0w L 16 8 0, pr⟩ : Hd) ++ sgE (z3c (z26 ho) (z1N ho) ((⟨ho, e + 1, z0w L 16 8 0, pr⟩ : Hd).ep - 1) (z1k (⟨ho, e + 1, z0w L 16 8 0, pr⟩ : Hd))) ++ [.sl 5 (stE (z1h (⟨ho, e + 1, z0w L 16 8 0, pr⟩ : Hd) 3))]), _]) _
  generalize z3c (z26 ho) (z1N ho) ((⟨ho, e + 1, z0w L 16 8 0, pr⟩ : Hd).ep - 1) (z1k (⟨ho, e + 1, z0w L 16 8 0, pr⟩ : Hd)) = SG at kS ⊢
  obtain ⟨sa, so, ss, si⟩ := SG
  generalize z1h (⟨ho, e + 1, z0w L 16 8 0, pr⟩ : Hd) = ST at hst hsn hs0 ⊢
  generalize hSS : (fun n => z2w n (⟨ho, e + 1, z0w L 16 8 0, pr⟩ : Hd)) = SS
  have hSS2 : ∀ n, z2w n (⟨ho, e + 1, z0w L 16 8 0, pr⟩ : Hd) = SS n := fun n => congrFun hSS n
  simp only [hSS2] at kT hsn
  clear hSS hSS2
  clear hg
  generalize z0w L 16 8 0 = root at ka kal kS kT ⊢
  generalize z0v L (ixB nm : Int) = B at kb ⊢
  generalize z18 L 16 (ixB nm) (8 - K) = S at kb ⊢
  generalize z18 L 16 (ixB nm) 8 = D at kd kdl ⊢
  generalize ixB nm = ix at kc kd
  have hDl := z0c D
  have hdrop : (strE D).drop (8 - K) = strE (D.drop (8 - K)) := by simp [strE, List.map_drop]
  have gp := z3e (n := 3) (i := ho) hho
  unfold hdE sgE at kS kT ⊢
  simp only [List.cons_append, List.nil_append] at kS kT ⊢
  refine z01 z0d 2 rfl Tryz.func60 rfl rfl rfl ?_
  conv => arg 6; whnf
  repeat ((try conv => whnf); first | (with_reducible first | refine z0b (fun Qs hN hE hR => ?_) | refine z09 ?_ | refine z03 (fun Qb kN kE kX kR => ?_) | refine z05 ?_ | refine z06 ?_ | refine z0a ?_ | refine z07 ?_ | refine z08 ?_ | (show W _ _ _ (.cond _ _ _) _ _; refine z04 rfl ?_) | (refine hN _ ?_; try clear hN hE hR Qs; (try (conv => arg 6; dsimp only [ovl, List.set, List.map, ren0]))) | ((first | refine hE _ _ ?_ | refine hR _ ?_); try clear hN hE hR Qs) | ((first | refine kN _ ?_ | refine kE _ ?_ | refine kX _ _ rfl ?_ | refine kR _ ?_); try clear kN kE kX kR Qb)) | (refine ccB ([1]) (k1) ?_) | (refine ccB ([1]) (k2) ?_) | (refine stpQ ?_))
  refine z0h 0 ⟨[(0, .ptr 1 0 0), (2, .ptr 2 0 0), (6, .ptr 3 0 0), (8, .ptr 4 0 0), (9, .ref 5)], [(1, some (curE c i2 h2)), (2, some (.box [.val nilV, .int .i64 0, .int .i64 0])), (3, some (.box [.val nilV, .val nilV, .val nilV, .int .i64 0, .int .i64 0, .str [], .str [], .int .i64 0, .val nilV, .val nilV, .val nilV, .val nilV])), (4, some (.box [.ref 6, .int .i64 (K : Int), .int .i64 (need : Int)])), (5, some (.row 1 (z2v 3))), (6, some (.row 1 (strE (z1z 3))))], 7⟩ Nat (fun n => ⟨[(0, .ptr 1 0 0), (2, .ptr 2 0 0), (6, .ptr 3 0 0), (8, .ptr 4 0 0), (9, .ref 5), (10, .int .i64 (n : Int))], [(1, some (curE c i2 h2)), (2, some (.box [.val nilV, .int .i64 0, .int .i64 0])), (3, some (.box [.val nilV, .val nilV, .val nilV, .int .i64 0, .int .i64 0, .str [], .str [], .int .i64 0, .val nilV, .val nilV, .val nilV, .val nilV])), (4, some (.box [.ref 6, .int .i64 (K : Int), .int .i64 (need : Int)])), (5, some (.row 1 (z2v n))), (6, some (.row 1 (strE (z1z n))))], 7⟩) (fun n => n ≤ 3) (fun n => 3 - n) 0 (by omega) ?_ ?_ ?_
  ·(refine z02 (by rfl) ?_ ?_) <;> (repeat' (first | (exact eqA) | (refine And.intro ?_ ?_) | ((fail_if_success (with_reducible (show _ = _))); (show _ = _)))) <;> first | rfl | decide
  ·intro n hn3
   by_cases hlt : n < 3
   ·have hn4 : (n : Int) < 3 := by omega
    have q1 := z7e n (by omega)
    have q2 : CT Tryz.prog 107 [] [.str (z26 n)] (.ref 1) [.row 1 (strE (z1N n))] := zfr (z26 n) (z44 n)
    have q3 := z7b (z1N n) (z3W n) z3d
    have n1 := z72 n
    have n2 := z73 n
    have l1 := z2L n
    have l2 := z45 n
    have l3 := z2L (n + 1)
    have g1 := z3e (n := n + 1) (i := n) (by omega)
    generalize z6Y (z1N n) = r0 at q3 n2
    generalize z1N n = P at q2 q3 n1 g1
    generalize z26 n = sd at q1 q2
    rw [n1] at g1 l3
    generalize z2v n = o1 at n1 l1 l3 g1 ⊢
    generalize z1z n = o2 at n2 l2 ⊢
    have ho2 := z0c o2
    have l4 : n < (o1 ++ [[T.sl 1 (strE P)]]).length := by omega
    repeat ((try conv => whnf); first | (with_reducible first | refine z0b (fun Qs hN hE hR => ?_) | refine z09 ?_ | refine z03 (fun Qb kN kE kX kR => ?_) | refine z05 ?_ | refine z06 ?_ | refine z0a ?_ | refine z07 ?_ | refine z08 ?_ | (show W _ _ _ (.cond _ _ _) _ _; refine z04 rfl ?_) | (refine hN _ ?_; try clear hN hE hR Qs; (try (conv => arg 6; dsimp only [ovl, List.set, List.map, ren0]))) | ((first | refine hE _ _ ?_ | refine hR _ ?_); try clear hN hE hR Qs) | ((first | refine kN _ ?_ | refine kE _ ?_ | refine kX _ _ rfl ?_ | refine kR _ ?_); try clear kN kE kX kR Qb)) | (refine ccA ([]) (q1) ?_) | (refine ccA ([]) (q2) ?_) | (refine And.intro (by simp only [List.length_append, List.length_cons, List.length_nil, List.length_set, List.length_replicate]; omega) ?_) | (refine i_lt l4 ?_) | (refine Exists.intro _ (And.intro g1 ?_)) | (refine ccA ([]) (q3) ?_) | (refine And.intro (by kernel_rfl) ?_) | (refine stpQ ?_))
    refine ⟨n + 1, by omega, by omega, ?_⟩
    rw [n1, n2]
    (refine z02 (by rfl) ?_ ?_) <;> (repeat' (first | (exact eqA) | (refine And.intro ?_ ?_) | ((fail_if_success (with_reducible (show _ = _))); (show _ = _))))
    all_goals first
     | (rw [z0R]; rfl)
     | rfl
   ·obtain rfl : n = 3 := by omega
    repeat ((try conv => whnf); first | (with_reducible first | refine z0b (fun Qs hN hE hR => ?_) | refine z09 ?_ | refine z03 (fun Qb kN kE kX kR => ?_) | refine z05 ?_ | refine z06 ?_ | refine z0a ?_ | refine z07 ?_ | refine z08 ?_ | (show W _ _ _ (.cond _ _ _) _ _; refine z04 rfl ?_) | (refine hN _ ?_; try clear hN hE hR Qs; (try (conv => arg 6; dsimp only [ovl, List.set, List.map, ren0]))) | ((first | refine hE _ _ ?_ | refine hR _ ?_); try clear hN hE hR Qs) | ((first | refine kN _ ?_ | refine kE _ ?_ | refine kX _ _ rfl ?_ | refine kR _ ?_); try clear kN kE kX kR Qb)) | (refine stpQ ?_))
    (refine z02 (by rfl) ?_ ?_) <;> (repeat' (first | (exact eqA) | (refine And.intro ?_ ?_) | ((fail_if_success (with_reducible (show _ = _))); (show _ = _))))
  ·repeat ((try conv => whnf); first | (with_reducible first | refine z0b (fun Qs hN hE hR => ?_) | refine z09 ?_ | refine z03 (fun Qb kN kE kX kR => ?_) | refine z05 ?_ | refine z06 ?_ | refine z0a ?_ | refine z07 ?_ | refine z08 ?_ | (show W _ _ _ (.cond _ _ _) _ _; refine z04 rfl ?_) | (refine hN _ ?_; try clear hN hE hR Qs; (try (conv => arg 6; dsimp only [ovl, List.set, List.map, ren0]))) | ((first | refine hE _ _ ?_ | refine hR _ ?_); try clear hN hE hR Qs) | ((first | refine kN _ ?_ | refine kE _ ?_ | refine kX _ _ rfl ?_ | refine kR _ ?_); try clear kN kE kX kR Qb)) | (refine ccB ([1]) (k3) ?_) | (refine ccB ([1]) (k4) ?_) | (refine ccB ([1]) (k5) ?_) | (refine ccB ([1]) (k6) ?_) | (refine Exists.intro _ (And.intro e1.symm ?_)) | (refine ccA ([]) (ka) ?_) | (refine ccB ([1]) (k7) ?_) | (refine z29 ([]) (kb) (by ((repeat' (first | (exact trivial) | (exact rfl) | (refine And.intro ?_ ?_))); first | done | fail)) (by ((repeat' (first | (exact trivial) | (exact rfl) | (refine And.intro ?_ ?_))); first | done | fail)) (by decide) (by rfl) (by first | exact .inl rfl | (refine .inr ⟨by simp [own2, own1, own0], fun e he => ?_⟩; simp only [List.mem_cons, List.not_mem_nil, or_false] at he <;> first | exact he.elim | (subst he; (first | exact z0C _ | exact z0q _)) | (rcases he with rfl | rfl <;> (first | exact z0C _ | exact z0q _)))) ?_) | (refine ccA ([]) (kc) ?_) | (refine z29 ([]) (kd) (by ((repeat' (first | (exact trivial) | (exact rfl) | (refine And.intro ?_ ?_))); first | done | fail)) (by ((repeat' (first | (exact trivial) | (exact rfl) | (refine And.intro ?_ ?_))); first | done | fail)) (by decide) (by rfl) (by first | exact .inl rfl | (refine .inr ⟨by simp [own2, own1, own0], fun e he => ?_⟩; simp only [List.mem_cons, List.not_mem_nil, or_false] at he <;> first | exact he.elim | (subst he; (first | exact z0C _ | exact z0q _)) | (rcases he with rfl | rfl <;> (first | exact z0C _ | exact z0q _)))) ?_) | (refine Exists.intro _ (And.intro e8.symm ?_)) | (refine Exists.intro (8 - K) (And.intro rfl (And.intro (by omega) ?_))) | (refine ccA ([]) (kE) ?_) | (refine i_lt (by rw [z2L]; omega) ?_) | (refine Exists.intro _ (And.intro gp ?_)) | (refine ccA ([]) (kS) ?_) | (refine And.intro (by kernel_rfl) ?_) | (refine stpQ ?_))
   refine z0h 2 ⟨[(2, .ptr 2 0 0), (6, .ptr 3 0 0), (8, .ptr 4 0 0), (9, .sl 1 (z2v 3)), (11, .int .i64 (ho : Int)), (12, .str nm), (13, .sl 2 (lvE L)), (14, .ptr 5 0 0), (15, .ptr 6 0 0)], [(1, some (curE c i7 h7)), (2, some (.box [.val nilV, .int .i64 0, .int .i64 0])), (3, some (.box [.val nilV, .val nilV, .val nilV, .int .i64 0, .int .i64 0, .str [], .str [], .int .i64 0, .val nilV, .val nilV, .val nilV, .val nilV])), (4, some (.box [.ref 8, .int .i64 (K : Int), .int .i64 (need : Int)])), (5, some (.box [.int .i64 (ho : Int), .int .i64 ((e + 1 : Nat) : Int), .str root, .str pr])), (6, some (.box [.sl 2 (lvE B), .sl 1 (strE S), .sl 1 (strE (D.drop (8 - K))), .int .i64 (ho : Int), .int .i64 ((e + 1 : Nat) : Int), .str root, .str pr, .int .i64 (sa : Int), .sl 1 (strE so), .sl 1 (strE ss), .sl 1 (strE si), .ref 7])), (7, some (.row 5 (stE (ST 3)))), (8, some (.row 1 (strE (z1z 3))))], 9⟩ Nat (fun n => ⟨[(2, .ptr 2 0 0), (6, .ptr 3 0 0), (8, .ptr 4 0 0), (9, .sl 1 (z2v 3)), (11, .int .i64 (ho : Int)), (12, .str nm), (13, .sl 2 (lvE L)), (14, .ptr 5 0 0), (15, .ptr 6 0 0), (17, .int .i64 (n : Int))], [(1, some (curE c i7 h7)), (2, some (.box [.val nilV, .int .i64 0, .int .i64 0])), (3, some (.box [.val nilV, .val nilV, .val nilV, .int .i64 0, .int .i64 0, .str [], .str [], .int .i64 0, .val nilV, .val nilV, .val nilV, .val nilV])), (4, some (.box [.ref 8, .int .i64 (K : Int), .int .i64 (need : Int)])), (5, some (.box [.int .i64 (ho : Int), .int .i64 ((e + 1 : Nat) : Int), .str root, .str pr])), (6, some (.box [.sl 2 (lvE B), .sl 1 (strE S), .sl 1 (strE (D.drop (8 - K))), .int .i64 (ho : Int), .int .i64 ((e + 1 : Nat) : Int), .str root, .str pr, .int .i64 (sa : Int), .sl 1 (strE so), .sl 1 (strE ss), .sl 1 (strE si), .ref 7])), (7, some (.row 5 (stE (ST n)))), (8, some (.row 1 (strE (z1z 3))))], 9⟩) (fun n => n ≤ 3) (fun n => 3 - n) 0 (by omega) ?_ ?_ ?_
   ·rw [hs0]
    (refine z02 (by rfl) ?_ ?_) <;> (repeat' (first | (exact eqA) | (refine And.intro ?_ ?_) | ((fail_if_success (with_reducible (show _ = _))); (show _ = _)))) <;> first | rfl | decide | exact hdrop
   ·intro n hn3
    have hln := hst n
    by_cases hlt : n < 3
    ·have hn4 : (n : Int) < 3 := by omega
     by_cases heq : n = ho
     ·have hx := hsn n
      rw [if_pos heq, List.append_nil] at hx
      have hn5 : (n : Int) = (ho : Int) := by omega
      generalize ST n = o at hx hln ⊢
      repeat ((try conv => whnf); first | (with_reducible first | refine z0b (fun Qs hN hE hR => ?_) | refine z09 ?_ | refine z03 (fun Qb kN kE kX kR => ?_) | refine z05 ?_ | refine z06 ?_ | refine z0a ?_ | refine z07 ?_ | refine z08 ?_ | (show W _ _ _ (.cond _ _ _) _ _; refine z04 rfl ?_) | (refine hN _ ?_; try clear hN hE hR Qs; (try (conv => arg 6; dsimp only [ovl, List.set, List.map, ren0]))) | ((first | refine hE _ _ ?_ | refine hR _ ?_); try clear hN hE hR Qs) | ((first | refine kN _ ?_ | refine kE _ ?_ | refine kX _ _ rfl ?_ | refine kR _ ?_); try clear kN kE kX kR Qb)) | (refine stpQ ?_))
      refine ⟨n + 1, by omega, by omega, ?_⟩
      rw [hx]
      (refine z02 (by rfl) ?_ ?_) <;> (repeat' (first | (exact eqA) | (refine And.intro ?_ ?_) | ((fail_if_success (with_reducible (show _ = _))); (show _ = _))))
     ·have hx := hsn n
      rw [if_neg heq] at hx
      have hn5 : ¬ (n : Int) = (ho : Int) := by omega
      have q1 := z7e n (by omega)
      have q2 := kT n
      have g1 := z3e (n := 3) (i := n) hlt
      generalize z1N n = P at q2 g1
      generalize z26 n = sd at q1 q2
      generalize SS n = s0 at q2 hx
      obtain ⟨ta, to, ts, ti⟩ := s0
      generalize ST n = o at hx hln ⊢
      have hol := z3V o
      repeat ((try conv => whnf); first | (with_reducible first | refine z0b (fun Qs hN hE hR => ?_) | refine z09 ?_ | refine z03 (fun Qb kN kE kX kR => ?_) | refine z05 ?_ | refine z06 ?_ | refine z0a ?_ | refine z07 ?_ | refine z08 ?_ | (show W _ _ _ (.cond _ _ _) _ _; refine z04 rfl ?_) | (refine hN _ ?_; try clear hN hE hR Qs; (try (conv => arg 6; dsimp only [ovl, List.set, List.map, ren0]))) | ((first | refine hE _ _ ?_ | refine hR _ ?_); try clear hN hE hR Qs) | ((first | refine kN _ ?_ | refine kE _ ?_ | refine kX _ _ rfl ?_ | refine kR _ ?_); try clear kN kE kX kR Qb)) | (refine ccA ([]) (q1) ?_) | (refine i_at g1 ?_) | (refine ccA ([]) (q2) ?_) | (refine And.intro (by simp only [List.length_append, List.length_cons, List.length_nil, List.length_set, List.length_replicate, z3V]; omega) ?_) | (refine And.intro (by kernel_rfl) ?_) | (refine stpQ ?_))
      refine ⟨n + 1, by omega, by omega, ?_⟩
      rw [hx]
      (refine z02 (by rfl) ?_ ?_) <;> (repeat' (first | (exact eqA) | (refine And.intro ?_ ?_) | ((fail_if_success (with_reducible (show _ = _))); (show _ = _))))
      all_goals first
       | (rw [zbE]; rfl)
       | rfl
    ·obtain rfl : n = 3 := by omega
     repeat ((try conv => whnf); first | (with_reducible first | refine z0b (fun Qs hN hE hR => ?_) | refine z09 ?_ | refine z03 (fun Qb kN kE kX kR => ?_) | refine z05 ?_ | refine z06 ?_ | refine z0a ?_ | refine z07 ?_ | refine z08 ?_ | (show W _ _ _ (.cond _ _ _) _ _; refine z04 rfl ?_) | (refine hN _ ?_; try clear hN hE hR Qs; (try (conv => arg 6; dsimp only [ovl, List.set, List.map, ren0]))) | ((first | refine hE _ _ ?_ | refine hR _ ?_); try clear hN hE hR Qs) | ((first | refine kN _ ?_ | refine kE _ ?_ | refine kX _ _ rfl ?_ | refine kR _ ?_); try clear kN kE kX kR Qb)) | (refine stpQ ?_))
     (refine z02 (by rfl) ?_ ?_) <;> (repeat' (first | (exact eqA) | (refine And.intro ?_ ?_) | ((fail_if_success (with_reducible (show _ = _))); (show _ = _))))
   ·repeat ((try conv => whnf); first | (with_reducible first | refine z0b (fun Qs hN hE hR => ?_) | refine z09 ?_ | refine z03 (fun Qb kN kE kX kR => ?_) | refine z05 ?_ | refine z06 ?_ | refine z0a ?_ | refine z07 ?_ | refine z08 ?_ | (show W _ _ _ (.cond _ _ _) _ _; refine z04 rfl ?_) | (refine hN _ ?_; try clear hN hE hR Qs; (try (conv => arg 6; dsimp only [ovl, List.set, List.map, ren0]))) | ((first | refine hE _ _ ?_ | refine hR _ ?_); try clear hN hE hR Qs) | ((first | refine kN _ ?_ | refine kE _ ?_ | refine kX _ _ rfl ?_ | refine kR _ ?_); try clear kN kE kX kR Qb)) | (refine And.intro (by kernel_rfl) ?_) | (refine stpQ ?_))
    (refine z00 (by rfl) ?_ ?_ (by rfl)) <;> (repeat' (first | (exact eqA) | (refine And.intro ?_ ?_) | ((fail_if_success (with_reducible (show _ = _))); (show _ = _)))) <;> first | rfl | decide
end Go.Proofs.YtgmbkbggnlponaaGreatDoor
