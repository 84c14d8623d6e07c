/- Functions by content: the law that a shard votes for what it would commit. -/
import Derived.Test.YthbdlnogojcnmaaGreatDoorLsw
import Derived.Test.YthbdlnogojcnmaaGreatDoorLok
import Derived.Test.YthbdlnogojcnmaaGreatDoorIhx
import Derived.Test.YthbdlnogojcnmaaGreatDoorItx
namespace Go.Proofs.YthbdlnogojcnmaaGreatDoor
set_option linter.unusedVariables false
set_option linter.unusedSimpArgs false
set_option linter.unusedSectionVars false
open Go.RowKit Pl
def zhy : Ch := (91, [97, 110, 110], [109, 111, 114, 101])
theorem zhN : z0h zhy.1 zhy.2.1 zhy.2.2 = true := by decide
theorem zhR {a K : Int} {s : Sv} {u : Ch} (h : s.rk ≤ s.al.length) : z1s (tkS a K s u) = z1s s := by
 unfold tkS
 split
 ·unfold z1s
  simp only
  rw [List.take_append_of_le_length h]
 ·rfl
theorem zhS (a K : Int) (s : Sv) (u : Ch) : (tkS a K s u).ep = s.ep ∧ (tkS a K s u).re = s.re ∧ (tkS a K s u).rt = s.rt ∧ (tkS a K s u).rk = s.rk ∧ (tkS a K s u).vs = s.vs ∧ (tkS a K s u).tk = s.tk := by
 unfold tkS
 split <;> exact ⟨rfl, rfl, rfl, rfl, rfl, rfl⟩
theorem tkC_le (a K : Int) (s : Sv) (u : Ch) : tkC a K s u = 0 ∨ tkC a K s u = 1 := by
 unfold tkC
 split
 ·exact .inr rfl
 ·split <;> split <;> first | exact .inl rfl | exact .inr rfl
section
attribute [local irreducible] z0p z0r z0y AnsP LeP W CvE z0J
set_option maxRecDepth 100000 in
set_option maxHeartbeats 32000000 in
theorem zhX (c : Bs) : CT Tryz.prog 6 [] [.sl 1 (z0k c)] (.bool true) [] := by
 have cb := c_big c
 by_cases hc : (c.length : Int) ≤ 1048576
 rotate_left
 ·rw [decide_eq_true (show (1048576 : Int) < (c.length : Int) by omega)] at cb
  refine z01 z0j 1 rfl Tryz.func6 rfl rfl rfl ?_
  conv => arg 6; whnf
  repeat ((try conv => whnf); first | (with_reducible first | refine z0e (fun Qs hN hE hR => ?_) | refine z0c ?_ | refine z05 (fun Qb kN kE kX kR => ?_) | refine z07 ?_ | refine z08 ?_ | refine z0d ?_ | refine z09 ?_ | refine z0a ?_ | (show W _ _ _ (.cond _ _ _) _ _; refine z06 rfl ?_) | (refine hN _ ?_; try clear hN hE hR Qs; (try (conv => arg 6; dsimp only [ovl, List.set, List.map, ren0]))) | ((first | refine hE _ _ ?_ | refine hR _ ?_); try clear hN hE hR Qs) | ((first | refine kN _ ?_ | refine kE _ ?_ | refine kX _ _ rfl ?_ | refine kR _ ?_); try clear kN kE kX kR Qb)) | (refine ccA ([]) (cb) ?_) | (refine stpQ ?_))
  (refine z00 (by rfl) ?_ ?_ (by rfl)) <;> (repeat' (first | (exact eqA) | (refine And.intro ?_ ?_) | ((fail_if_success (with_reducible (show _ = _))); (show _ = _))))
 rw [decide_eq_false (show ¬ (1048576 : Int) < (c.length : Int) by omega)] at cb
 obtain ⟨a, K, ts, ⟨hK, ha, h, hrt⟩, cS⟩ := z9f c hc
 generalize svOf (a : Int) (K : Int) ts = s at *
 have g := h.ok
 have g1 := g.ep
 have g4 := g.al
 have hp : (2 : Nat) ^ K ≤ 4 := by rcases (show K = 0 ∨ K = 1 ∨ K = 2 by omega) with h | h | h <;> subst h <;> decide
 have cO := zeT a K h (by decide) hK ha true
 by_cases h4 : 4 ≤ s.ep
 ·have f4 : (s.ep : Int) ≥ 4 := by omega
  clear h g
  unfold svE at *
  generalize dkOf shardN ts = d0 at *
  refine z01 z0j 1 rfl Tryz.func6 rfl rfl rfl ?_
  conv => arg 6; whnf
  repeat ((try conv => whnf); first | (with_reducible first | refine z0e (fun Qs hN hE hR => ?_) | refine z0c ?_ | refine z05 (fun Qb kN kE kX kR => ?_) | refine z07 ?_ | refine z08 ?_ | refine z0d ?_ | refine z09 ?_ | refine z0a ?_ | (show W _ _ _ (.cond _ _ _) _ _; refine z06 rfl ?_) | (refine hN _ ?_; try clear hN hE hR Qs; (try (conv => arg 6; dsimp only [ovl, List.set, List.map, ren0]))) | ((first | refine hE _ _ ?_ | refine hR _ ?_); try clear hN hE hR Qs) | ((first | refine kN _ ?_ | refine kE _ ?_ | refine kX _ _ rfl ?_ | refine kR _ ?_); try clear kN kE kX kR Qb)) | (refine ccA ([]) (cb) ?_) | (refine ccA ([]) (cS) ?_) | (refine z0g f4 ?_) | (refine ccA ([]) (cO) ?_) | (refine And.intro (by kernel_rfl) ?_) | (refine stpQ ?_))
  (refine z00 (by rfl) ?_ ?_ (by rfl)) <;> (repeat' (first | (exact eqA) | (refine And.intro ?_ ?_) | ((fail_if_success (with_reducible (show _ = _))); (show _ = _))))
 have f4 : ¬ (s.ep : Int) ≥ 4 := by omega
 obtain ⟨e, he⟩ : ∃ e, e = s.ep + 1 := ⟨_, rfl⟩
 obtain ⟨y, hy⟩ : ∃ y, y = s.rt + 1 := ⟨_, rfl⟩
 have o1 := zcJ (k := 1) (t := ((a + 1 : Nat) : Int)) (e := e) (y := y) (.inl rfl) (by omega) (by omega) (by omega)
 have o4 := zcJ (k := 4) (t := ((a + 1 : Nat) : Int)) (e := e) (y := y) (.inr (.inr rfl)) (by omega) (by omega) (by omega)
 have r0 : Rec 89 ts := h.rc.up (by decide)
 have c1 := z6C a K ts s g (by decide) hK ha r0 1 0 ((a + 1 : Nat) : Int) e y [] o1 rfl rfl (by omega) (by omega) (by omega)
 have L1 := z1w h (by decide) (k := 1) (f := 0) (t := ((a + 1 : Nat) : Int)) (e := (e : Int)) (y := (y : Int)) (r := []) (x := .prep) (by rw [o1]; exact zht (by omega) (by omega) (by omega))
 change LogOk (a : Int) (K : Int) 23 (ts ++ [2 :: (z03 e ++ z03 y ++ z03 s.al.length)]) { s with re := e, rt := y, rk := s.al.length } at L1
 have hrd : z1s { s with re := e, rt := y, rk := s.al.length } = s.al.foldl z1K [] := by show (s.al.take s.al.length).foldl z1K [] = _; rw [List.take_length]
 obtain ⟨s1, es1⟩ : ∃ s1 : Sv, s1 = { s with re := e, rt := y, rk := s.al.length } := ⟨_, rfl⟩
 obtain ⟨ts1, et1⟩ : ∃ ts1, ts1 = ts ++ [2 :: (z03 e ++ z03 y ++ z03 s.al.length)] := ⟨_, rfl⟩
 rw [← es1] at hrd
 rw [← es1, ← et1] at L1 c1
 have x1 : s1.ep = s.ep := by rw [es1]
 have x2 : s1.re = e := by rw [es1]
 have x3 : s1.rt = y := by rw [es1]
 have x4 : s1.rk = s.al.length := by rw [es1]
 have G1 := L1.ok
 have r1 : Rec 89 ts1 := L1.rc.up (by decide)
 have c2 := zhW (a : Int) (K : Int) ts1 s1 zhy G1 (by decide) r1 zhN
 have L2 := z7S L1 zhy zhN
 have hno := tkC_le (a : Int) (K : Int) s1 zhy
 have hr2 := zhR (a := (a : Int)) (K := (K : Int)) (u := zhy) G1.rk
 obtain ⟨w1, w2, w3, w4, w5, w6⟩ := zhS (a : Int) (K : Int) s1 zhy
 generalize tkC (a : Int) (K : Int) s1 zhy = no at *
 generalize tkS (a : Int) (K : Int) s1 zhy = s2 at *
 generalize tkT (a : Int) (K : Int) ts1 s1 zhy = ts2 at *
 have G2 := L2.ok
 have r2 : Rec 89 ts2 := L2.rc.up (by decide)
 have c3 := zhB a K ts2 s2 G2 (by decide) hK ha r2 1 0 ((a + 1 : Nat) : Int) e y [] o1 rfl rfl (by omega) (by omega)
 have c4 := c_Fall (a : Int) (K : Int) true L2 (by decide) (vwE s2.vs) 0
 have c5 := c_Rise (a : Int) (K : Int) L2 (by decide) (vwE s2.vs)
 have c6 := zhI a K ts2 s2 G2 (by decide) hK ha r2 4 0 ((a + 1 : Nat) : Int) e y [] o4 rfl rfl (by omega) (by omega) (by omega) (by omega)
 have L3 := z1w L2 (by decide) (k := 4) (f := 0) (t := ((a + 1 : Nat) : Int)) (e := (e : Int)) (y := (y : Int)) (r := []) (x := .com) (by rw [o4]; exact hk_com (by omega) (by omega) (by omega) (by omega))
 change LogOk (a : Int) (K : Int) 25 (ts2 ++ [3 :: z03 e]) (z11 s2) at L3
 have cT := zeT a K L3 (by decide) hK ha true
 obtain ⟨ts3, et3⟩ : ∃ ts3, ts3 = ts2 ++ [3 :: z03 e] := ⟨_, rfl⟩
 rw [← et3] at cT c6
 have v1 : (z11 s2).ep = e := by show s2.ep + 1 = e; omega
 have hvl : s2.vs.length = e := by rw [G2.vl]; omega
 have htl : s2.tk.length = e := by rw [G2.tl]; omega
 have gV : (vwE (z11 s2).vs)[e]? = some [.sl 2 (lvE (z1s s1))] := by
  show (vwE (s2.vs ++ [z1s s2]))[e]? = _
  rw [zek, List.getElem?_append_right (by rw [z4i]; omega), z4i, hvl, Nat.sub_self, hr2]
  rfl
 have gT : (ntE (z11 s2).tk)[e]? = some [.int .i64 ((s.al.length : Nat) : Int)] := by
  show (ntE (s2.tk ++ [s2.rk]))[e]? = _
  rw [zgh, List.getElem?_append_right (by rw [z4T]; omega), z4T, htl, Nat.sub_self, w4, x4]
  rfl
 have eVt : z2S a K s2 = z2S a K s1 := by unfold z2S zhl; rw [hr2, w2, w3]
 rw [eVt] at c3
 have cRt := z7Z (z1s s1) K a (z63 s1) hK ha
 have hlv := (z0w (z63 s1)).1
 have cSm := z8I (z1s s1) (z1s s1) (by omega) (by omega)
 rw [decide_eq_true rfl] at cSm
 have cAp := z9Q [] s.al (by simp [z0f]) (by omega) (za2 g.ch)
 rw [zfG, ← hrd] at cAp
 have oL := zhr (z1i (k := 2) (z1s s1))
 have hal := z0D s.al
 unfold z2S zhl at *
 unfold zcE at *
 rw [x2, x3] at c1 c3
 generalize z0J (z1s s1) 16 (8 - K) a = R at *
 generalize lvE (z1s s1) = RL at *
 generalize hvs3 : vwE (z11 s2).vs = V3 at *
 generalize hse : z11 s2 = s3 at *
 have ea : IntKind.i64.wrap ((a : Int) + 1) = ((a + 1 : Nat) : Int) := by rw [wrap_i64 (by omega) (by omega)]; omega
 have ee : IntKind.i64.wrap ((s.ep : Int) + 1) = ((e : Nat) : Int) := by rw [wrap_i64 (by omega) (by omega)]; omega
 have ey : IntKind.i64.wrap ((s.rt : Int) + 1) = ((y : Nat) : Int) := by rw [wrap_i64 (by omega) (by omega)]; omega
 have f6 : (s3.ep : Int) = ((e : Nat) : Int) := by omega
 have f7 : ¬ no > 1 := by omega
 have eU : chL zhy = [.int .i64 91, .str [97, 110, 110], .str [109, 111, 114, 101]] := rfl
 rw [eU] at c2
 clear h g L1 L2 L3 G1 G2 r0 r1 r2 o1 o4 es1 et1 et3 hvs3 hse hrd hr2 eVt eU
 generalize hd0 : dkOf shardN ts = d0 at *
 generalize hd1 : dkOf shardN ts1 = d1 at *
 generalize hd2 : dkOf shardN ts2 = d2 at *
 generalize hd3 : dkOf shardN ts3 = d3 at *
 clear hd0 hd1 hd2 hd3 ts ts1 ts2 ts3
 simp only [svE, ltL] at *
 have f1 : (1 : Int) = 1 := rfl
 have f5 : (5 : Int) = 5 := rfl
 have f8 : R = R := rfl
 have f9 : ((s.al.length : Nat) : Int) = ((s.al.length : Nat) : Int) := rfl
 have gV0 : ([[.int .i64 2, .int .i64 ((a + 1 : Nat) : Int), .int .i64 0, .int .i64 (e : Int), .int .i64 (y : Int), .str R]] : List (List T))[0]? = some [.int .i64 2, .int .i64 ((a + 1 : Nat) : Int), .int .i64 0, .int .i64 (e : Int), .int .i64 (y : Int), .str R] := rfl
 have gD0 : ([[.int .i64 5, .int .i64 ((a + 1 : Nat) : Int), .int .i64 0, .int .i64 (e : Int), .int .i64 (y : Int), .str []]] : List (List T))[0]? = some [.int .i64 5, .int .i64 ((a + 1 : Nat) : Int), .int .i64 0, .int .i64 (e : Int), .int .i64 (y : Int), .str []] := rfl
 have fq : (!(eqC [.int .i64 2, .int .i64 ((a + 1 : Nat) : Int), .int .i64 0, .int .i64 (e : Int), .int .i64 (y : Int), .str R] [.int .i64 2, .int .i64 ((a + 1 : Nat) : Int), .int .i64 0, .int .i64 (e : Int), .int .i64 (y : Int), .str R])) = false := by simp [eqC]
 refine z01 z0j 1 rfl Tryz.func6 rfl rfl rfl ?_
 conv => arg 6; whnf
 repeat ((try conv => whnf); first | (with_reducible first | refine z0e (fun Qs hN hE hR => ?_) | refine z0c ?_ | refine z05 (fun Qb kN kE kX kR => ?_) | refine z07 ?_ | refine z08 ?_ | refine z0d ?_ | refine z09 ?_ | refine z0a ?_ | (show W _ _ _ (.cond _ _ _) _ _; refine z06 rfl ?_) | (refine hN _ ?_; try clear hN hE hR Qs; (try (conv => arg 6; dsimp only [ovl, List.set, List.map, ren0]))) | ((first | refine hE _ _ ?_ | refine hR _ ?_); try clear hN hE hR Qs) | ((first | refine kN _ ?_ | refine kE _ ?_ | refine kX _ _ rfl ?_ | refine kR _ ?_); try clear kN kE kX kR Qb)) | (refine ccA ([]) (cb) ?_) | (refine ccA ([]) (cS) ?_) | (refine z0b f4 ?_) | (refine Exists.intro _ (And.intro ea.symm ?_)) | (refine Exists.intro _ (And.intro ee.symm ?_)) | (refine Exists.intro _ (And.intro ey.symm ?_)) | (refine ccA ([]) (c1) ?_) | (refine ccA ([]) (c2) ?_) | (refine ccA ([]) (c3) ?_) | (refine z3c ([]) (c4) (by ((repeat' (first | (exact trivial) | (exact rfl) | (decide) | (refine And.intro ?_ ?_))); first | done | fail)) (by ((repeat' (first | (exact trivial) | (exact rfl) | (decide) | (refine And.intro ?_ ?_))); first | done | fail)) (by decide) (by rfl) (by first | exact .inl rfl | (refine .inr ⟨?_, ?_⟩ <;> simp [own2, own1, own0, ownE])) ?_) | (refine ccA ([]) (c5) ?_) | (refine ccA ([]) (c6) ?_) | (refine ccA ([]) (cRt) ?_) | (refine ccA [] (cAp) ?_ (h5 := .inr (And.intro (by simp [own2, own1, own0]) oL))) | (refine ccA ([]) (cSm) ?_) | (refine ccA ([]) (cT) ?_) | (refine i_at gV0 ?_) | (refine i_at gD0 ?_) | (refine i_at gV ?_) | (refine i_at gT ?_) | (refine Exists.intro 1 (And.intro rfl ?_)) | (refine Exists.intro s.al.length (And.intro hal ?_)) | (refine z0G f1 ?_) | (refine cb_f fq ?_) | (refine z0G f5 ?_) | (refine z0G f6 ?_) | (refine z0b f7 ?_) | (refine z0g f8 ?_) | (refine z0g f9 ?_) | (refine And.intro (by kernel_rfl) ?_) | (refine stpQ ?_))
 (refine z00 (by rfl) ?_ ?_ (by rfl)) <;> (repeat' (first | (exact eqA) | (refine And.intro ?_ ?_) | ((fail_if_success (with_reducible (show _ = _))); (show _ = _)))) <;> first | rfl | exact decide_eq_true f9
end
end Go.Proofs.YthbdlnogojcnmaaGreatDoor
