/- Functions by content: the law that a shard commits nothing that it did not vote for. -/
import Derived.Test.YthbdlnogojcnmaaGreatDoorLsw
import Derived.Test.YthbdlnogojcnmaaGreatDoorLok
import Derived.Test.YthbdlnogojcnmaaGreatDoorIhr
import Derived.Test.YthbdlnogojcnmaaGreatDoorIhs
namespace Go.Proofs.YthbdlnogojcnmaaGreatDoor
set_option linter.unusedVariables false
set_option linter.unusedSimpArgs false
set_option linter.unusedSectionVars false
open Go.RowKit Pl
section
attribute [local irreducible] z0p z0r z0y AnsP LeP W CvE z0J
set_option maxRecDepth 100000 in
set_option maxHeartbeats 32000000 in
theorem zhu (c : Bs) : CT Tryz.prog 5 [] [.sl 1 (z0k c)] (.bool true) [] := by
 have cb := c_big c
 by_cases hc : (c.length : Int) ≤ 1048576
 rotate_left
 ·rw [decide_eq_true (show (1048576 : Int) < (c.length : Int) by omega)] at cb
  refine z01 z0j 1 rfl Tryz.func5 rfl rfl rfl ?_
  conv => arg 6; whnf
  repeat ((try conv => whnf); first | (with_reducible first | refine z0e (fun Qs hN hE hR => ?_) | refine z0c ?_ | refine z05 (fun Qb kN kE kX kR => ?_) | refine z07 ?_ | refine z08 ?_ | refine z0d ?_ | refine z09 ?_ | refine z0a ?_ | (show W _ _ _ (.cond _ _ _) _ _; refine z06 rfl ?_) | (refine hN _ ?_; try clear hN hE hR Qs; (try (conv => arg 6; dsimp only [ovl, List.set, List.map, ren0]))) | ((first | refine hE _ _ ?_ | refine hR _ ?_); try clear hN hE hR Qs) | ((first | refine kN _ ?_ | refine kE _ ?_ | refine kX _ _ rfl ?_ | refine kR _ ?_); try clear kN kE kX kR Qb)) | (refine ccA ([]) (cb) ?_) | (refine stpQ ?_))
  (refine z00 (by rfl) ?_ ?_ (by rfl)) <;> (repeat' (first | (exact eqA) | (refine And.intro ?_ ?_) | ((fail_if_success (with_reducible (show _ = _))); (show _ = _))))
 rw [decide_eq_false (show ¬ (1048576 : Int) < (c.length : Int) by omega)] at cb
 obtain ⟨a, K, ts, ⟨hK, ha, h, hrt⟩, cS⟩ := z9f c hc
 generalize svOf (a : Int) (K : Int) ts = s at *
 have g := h.ok
 have g1 := g.ep
 have hp : (2 : Nat) ^ K ≤ 4 := by rcases (show K = 0 ∨ K = 1 ∨ K = 2 by omega) with h | h | h <;> subst h <;> decide
 have cO := zeT a K h (by decide) hK ha true
 by_cases h4 : 4 ≤ s.ep
 ·have f4 : (s.ep : Int) ≥ 4 := by omega
  clear h g
  unfold svE at *
  generalize dkOf shardN ts = d0 at *
  refine z01 z0j 1 rfl Tryz.func5 rfl rfl rfl ?_
  conv => arg 6; whnf
  repeat ((try conv => whnf); first | (with_reducible first | refine z0e (fun Qs hN hE hR => ?_) | refine z0c ?_ | refine z05 (fun Qb kN kE kX kR => ?_) | refine z07 ?_ | refine z08 ?_ | refine z0d ?_ | refine z09 ?_ | refine z0a ?_ | (show W _ _ _ (.cond _ _ _) _ _; refine z06 rfl ?_) | (refine hN _ ?_; try clear hN hE hR Qs; (try (conv => arg 6; dsimp only [ovl, List.set, List.map, ren0]))) | ((first | refine hE _ _ ?_ | refine hR _ ?_); try clear hN hE hR Qs) | ((first | refine kN _ ?_ | refine kE _ ?_ | refine kX _ _ rfl ?_ | refine kR _ ?_); try clear kN kE kX kR Qb)) | (refine ccA ([]) (cb) ?_) | (refine ccA ([]) (cS) ?_) | (refine z0g f4 ?_) | (refine ccA ([]) (cO) ?_) | (refine And.intro (by kernel_rfl) ?_) | (refine stpQ ?_))
  (refine z00 (by rfl) ?_ ?_ (by rfl)) <;> (repeat' (first | (exact eqA) | (refine And.intro ?_ ?_) | ((fail_if_success (with_reducible (show _ = _))); (show _ = _))))
 have f4 : ¬ (s.ep : Int) ≥ 4 := by omega
 obtain ⟨e, he⟩ : ∃ e, e = s.ep + 1 := ⟨_, rfl⟩
 obtain ⟨y, hy⟩ : ∃ y, y = s.rt + 2 := ⟨_, rfl⟩
 have o1 := zcJ (k := 1) (t := ((a + 1 : Nat) : Int)) (e := e) (y := y) (.inl rfl) (by omega) (by omega) (by omega)
 have o3 := zcJ (k := 3) (t := ((a + 1 : Nat) : Int)) (e := e) (y := y) (.inr (.inl rfl)) (by omega) (by omega) (by omega)
 have o4 := zcJ (k := 4) (t := ((a + 1 : Nat) : Int)) (e := e) (y := y) (.inr (.inr rfl)) (by omega) (by omega) (by omega)
 have p1 := zcJ (k := 1) (t := ((a + 1 : Nat) : Int)) (e := e) (y := y - 1) (.inl rfl) (by omega) (by omega) (by omega)
 have p3 := zcJ (k := 3) (t := ((a + 1 : Nat) : Int)) (e := e) (y := y - 1) (.inr (.inl rfl)) (by omega) (by omega) (by omega)
 have p4 := zcJ (k := 4) (t := ((a + 1 : Nat) : Int)) (e := e) (y := y - 1) (.inr (.inr rfl)) (by omega) (by omega) (by omega)
 have r0 : Rec 89 ts := h.rc.up (by decide)
 have c1 := z6C a K ts s g (by decide) hK ha r0 1 0 ((a + 1 : Nat) : Int) e y [] o1 rfl rfl (by omega) (by omega) (by omega)
 have L1 := z1w h (by decide) (k := 1) (f := 0) (t := ((a + 1 : Nat) : Int)) (e := (e : Int)) (y := (y : Int)) (r := []) (x := .prep) (by rw [o1]; exact zht (by omega) (by omega) (by omega))
 change LogOk (a : Int) (K : Int) 23 (ts ++ [2 :: (z03 e ++ z03 y ++ z03 s.al.length)]) { s with re := e, rt := y, rk := s.al.length } at L1
 obtain ⟨s1, es1⟩ : ∃ s1 : Sv, s1 = { s with re := e, rt := y, rk := s.al.length } := ⟨_, rfl⟩
 obtain ⟨ts1, et1⟩ : ∃ ts1, ts1 = ts ++ [2 :: (z03 e ++ z03 y ++ z03 s.al.length)] := ⟨_, rfl⟩
 rw [← es1, ← et1] at L1 c1
 have x1 : s1.ep = s.ep := by rw [es1]
 have x2 : s1.re = e := by rw [es1]
 have x3 : s1.rt = y := by rw [es1]
 have G1 := L1.ok
 have r1 : Rec 89 ts1 := L1.rc.up (by decide)
 have c2 := z86 a K ts1 s1 G1 (by decide) hK ha r1 1 0 ((a + 1 : Nat) : Int) e (y - 1) [] p1 rfl rfl (by omega) (by omega)
 have c3 := z6i a K ts1 s1 G1 (by decide) hK ha r1 4 0 ((a + 1 : Nat) : Int) e (y - 1) [] p4 rfl rfl (by omega) (by omega)
 have c4 := zax a K ts1 s1 G1 (by decide) hK ha r1 3 0 ((a + 1 : Nat) : Int) e y [] o3 rfl rfl (by omega) (by omega) (by omega)
 have L2 := z1w L1 (by decide) (k := 3) (f := 0) (t := ((a + 1 : Nat) : Int)) (e := (e : Int)) (y := (y : Int)) (r := []) (x := .abort) (by rw [o3]; exact hk_abo (by omega) (by omega) (by omega))
 change LogOk (a : Int) (K : Int) 24 (ts1 ++ [4 :: (z03 e ++ z03 y)]) { s1 with re := 0, rt := 0, rk := 0 } at L2
 have c6 := zaw a K ts1 s1 G1 (by decide) hK ha r1 3 0 ((a + 1 : Nat) : Int) e (y - 1) [] p3 rfl rfl (by omega)
 obtain ⟨s2, es2⟩ : ∃ s2 : Sv, s2 = { s1 with re := 0, rt := 0, rk := 0 } := ⟨_, rfl⟩
 obtain ⟨ts2, et2⟩ : ∃ ts2, ts2 = ts1 ++ [4 :: (z03 e ++ z03 y)] := ⟨_, rfl⟩
 rw [← es2, ← et2] at L2 c4
 have x4 : s2.ep = s.ep := by rw [es2]; exact x1
 have x5 : s2.re = 0 := by rw [es2]
 have x6 : s2.rt = 0 := by rw [es2]
 have G2 := L2.ok
 have r2 : Rec 89 ts2 := L2.rc.up (by decide)
 have c5 := z6i a K ts2 s2 G2 (by decide) hK ha r2 4 0 ((a + 1 : Nat) : Int) e y [] o4 rfl rfl (by omega) (by omega)
 have z1 := zeS L1 (by decide)
 have z2 := zeS L2 (by decide)
 have cQ := z9g (a : Int) (K : Int) true (dkOf shardN ts1) s1 z1.1 z1.2
 have cR := z9g (a : Int) (K : Int) true (dkOf shardN ts2) s2 z2.1 z2.2
 have cT := zeT a K L2 (by decide) hK ha true
 have ea : IntKind.i64.wrap ((a : Int) + 1) = ((a + 1 : Nat) : Int) := by rw [wrap_i64 (by omega) (by omega)]; omega
 have ee : IntKind.i64.wrap ((s.ep : Int) + 1) = ((e : Nat) : Int) := by rw [wrap_i64 (by omega) (by omega)]; omega
 have ey : IntKind.i64.wrap ((s.rt : Int) + 2) = ((y : Nat) : Int) := by rw [wrap_i64 (by omega) (by omega)]; omega
 have ey1 : IntKind.i64.wrap (((y : Nat) : Int) - 1) = ((y - 1 : Nat) : Int) := by rw [wrap_i64 (by omega) (by omega)]; omega
 have f1 : (1 : Int) = 1 := rfl
 have f0 : (0 : Int) = 0 := rfl
 have f6 : (s2.rt : Int) = 0 := by omega
 generalize z2S a K s1 = vt at *
 clear h g L1 L2 G1 G2 r0 r1 r2 o1 o3 o4 p1 p3 p4 z1 z2 es1 es2 et1 et2
 generalize hd0 : dkOf shardN ts = d0 at *
 generalize hd1 : dkOf shardN ts1 = d1 at *
 generalize hd2 : dkOf shardN ts2 = d2 at *
 clear hd0 hd1 hd2 ts ts1 ts2
 simp only [svE, ltL] at *
 refine z01 z0j 1 rfl Tryz.func5 rfl rfl rfl ?_
 conv => arg 6; whnf
 repeat ((try conv => whnf); first | (with_reducible first | refine z0e (fun Qs hN hE hR => ?_) | refine z0c ?_ | refine z05 (fun Qb kN kE kX kR => ?_) | refine z07 ?_ | refine z08 ?_ | refine z0d ?_ | refine z09 ?_ | refine z0a ?_ | (show W _ _ _ (.cond _ _ _) _ _; refine z06 rfl ?_) | (refine hN _ ?_; try clear hN hE hR Qs; (try (conv => arg 6; dsimp only [ovl, List.set, List.map, ren0]))) | ((first | refine hE _ _ ?_ | refine hR _ ?_); try clear hN hE hR Qs) | ((first | refine kN _ ?_ | refine kE _ ?_ | refine kX _ _ rfl ?_ | refine kR _ ?_); try clear kN kE kX kR Qb)) | (refine ccA ([]) (cb) ?_) | (refine ccA ([]) (cS) ?_) | (refine z0b f4 ?_) | (refine Exists.intro _ (And.intro ea.symm ?_)) | (refine Exists.intro _ (And.intro ee.symm ?_)) | (refine Exists.intro _ (And.intro ey.symm ?_)) | (refine Exists.intro _ (And.intro ey1.symm ?_)) | (refine ccA ([]) (c1) ?_) | (refine ccA ([]) (c2) ?_) | (refine ccA ([]) (c3) ?_) | (refine ccA ([]) (c4) ?_) | (refine ccA ([]) (c5) ?_) | (refine ccA ([]) (c6) ?_) | (refine ccA ([]) (cQ) ?_) | (refine ccA ([]) (cR) ?_) | (refine ccA ([]) (cT) ?_) | (refine Exists.intro 1 (And.intro rfl ?_)) | (refine Exists.intro 0 (And.intro rfl ?_)) | (refine z0g f1 ?_) | (refine z0g f0 ?_) | (refine z0g f6 ?_) | (refine And.intro (by kernel_rfl) ?_) | (refine stpQ ?_))
 (refine z00 (by rfl) ?_ ?_ (by rfl)) <;> (repeat' (first | (exact eqA) | (refine And.intro ?_ ?_) | ((fail_if_success (with_reducible (show _ = _))); (show _ = _)))) <;> rfl
end
end Go.Proofs.YthbdlnogojcnmaaGreatDoor
