/- Functions by content: the law that a shard falls and rises. -/
import Derived.Test.YthbdlnogojcnmaaGreatDoorLsw
import Derived.Test.YthbdlnogojcnmaaGreatDoorLok
import Derived.Test.YthbdlnogojcnmaaGreatDoorItx
import Derived.Test.YthbdlnogojcnmaaGreatDoorDpl
namespace Go.Proofs.YthbdlnogojcnmaaGreatDoor
set_option linter.unusedVariables false
set_option linter.unusedSimpArgs false
set_option linter.unusedSectionVars false
open Go.RowKit Pl
theorem zia {l : List Ch} {x : Int} (h : ∀ u ∈ l, u.1 ≠ x) : idIx l x = none := by
 unfold idIx
 rw [List.findIdx?_eq_none_iff]
 intro u hu
 simp only [beq_eq_false_iff_ne]
 exact h u hu
theorem zi3 {l : List Ch} {u : Ch} (h : idIx l u.1 = none) : idIx (l ++ [u]) u.1 = some l.length := by
 unfold idIx at *
 rw [List.findIdx?_append, h]
 simp
theorem zi4 (l : List Ch) (u : Ch) : chAt (l ++ [u]) l.length = u := by simp [chAt]
theorem zib {nm : Bs} (h : z10 nm = true) : z0h 90 nm [108, 97, 116, 101] = true := by
 unfold z0h
 rw [h]
 decide
theorem zi5 {nm : Bs} (h : z10 nm = true) : z0h 90 nm [111, 116, 104, 101, 114] = true := by
 unfold z0h
 rw [h]
 decide
section
attribute [local irreducible] z0p z0r z0y AnsP LeP W CvE z0J
set_option maxRecDepth 100000 in
set_option maxHeartbeats 32000000 in
theorem zic (c : Bs) : CT Tryz.prog 4 [] [.sl 1 (z0k c)] (.bool true) [] := by
 have cb := c_big c
 by_cases hc : (c.length : Int) ≤ 1048576
 rotate_left
 ·rw [decide_eq_true (show (1048576 : Int) < (c.length : Int) by omega)] at cb
  refine z01 z0j 1 rfl Tryz.func4 rfl rfl rfl ?_
  conv => arg 6; whnf
  repeat ((try conv => whnf); first | (with_reducible first | refine z0e (fun Qs hN hE hR => ?_) | refine z0c ?_ | refine z05 (fun Qb kN kE kX kR => ?_) | refine z07 ?_ | refine z08 ?_ | refine z0d ?_ | refine z09 ?_ | refine z0a ?_ | (show W _ _ _ (.cond _ _ _) _ _; refine z06 rfl ?_) | (refine hN _ ?_; try clear hN hE hR Qs; (try (conv => arg 6; dsimp only [ovl, List.set, List.map, ren0]))) | ((first | refine hE _ _ ?_ | refine hR _ ?_); try clear hN hE hR Qs) | ((first | refine kN _ ?_ | refine kE _ ?_ | refine kX _ _ rfl ?_ | refine kR _ ?_); try clear kN kE kX kR Qb)) | (refine ccA ([]) (cb) ?_) | (refine stpQ ?_))
  (refine z00 (by rfl) ?_ ?_ (by rfl)) <;> (repeat' (first | (exact eqA) | (refine And.intro ?_ ?_) | ((fail_if_success (with_reducible (show _ = _))); (show _ = _))))
 rw [decide_eq_false (show ¬ (1048576 : Int) < (c.length : Int) by omega)] at cb
 obtain ⟨a, K, ts, ⟨hK, ha, h, _, hid⟩, cS⟩ := z9f c hc
 obtain ⟨pl, ⟨_, hpl⟩, cP⟩ := zhY c hc
 obtain ⟨nm, ⟨hn1, hn2⟩, cN⟩ := zi0 c hc
 generalize svOf (a : Int) (K : Int) ts = s at *
 have g := h.ok
 have g1 := g.ep
 have g2 := g.vl
 have g3 := g.tl
 have g4 := g.al
 have gP : (plE pl)[0]? = some [.int .i64 ((pl.getD 0 0 : Nat) : Int)] := by
  cases pl with
  | nil => cases hpl
  | cons x l => rfl
 have hPL : 0 < (plE pl).length := by rw [zi2]; omega
 generalize pl.getD 0 0 = p0 at gP
 generalize plE pl = PL at *
 have ou := zib hn1
 have ow := zi5 hn1
 have hix : idIx s.al 90 = none := zia fun u hu e => by have := hid u hu; omega
 have r1 : Rec 89 ts := h.rc.up (by decide)
 have c4 := c_Fall (a : Int) (K : Int) true h (by decide) (vwE s.vs) ((p0 : Int).tmod 900)
 have c5 := c_Rise (a : Int) (K : Int) h (by decide) (vwE s.vs)
 have cO := zeT a K h (by decide) hK ha true
 have cA := zi6 s.al (by omega)
 have c6 := zhW (a : Int) (K : Int) ts s (90, nm, [108, 97, 116, 101]) g (by decide) r1 ou
 have cW := zhx (a : Int) (K : Int) true (dkOf shardN ts) (vwE s.vs) s g (by decide)
 have cH := zct nm (K : Int) (by omega)
 have lW := z0D (wtN s)
 have eU : chL (90, nm, [108, 97, 116, 101]) = [.int .i64 90, .str nm, .str [108, 97, 116, 101]] := rfl
 have eV : chL (90, nm, [111, 116, 104, 101, 114]) = [.int .i64 90, .str nm, .str [111, 116, 104, 101, 114]] := rfl
 by_cases hs : (z1L nm (K : Int) : Int) = (a : Int)
 rotate_left
 ·have hb : ∀ v, tkB (a : Int) (K : Int) s (90, nm, v) = false := fun v => by rw [tkB, decide_eq_false hs]; rfl
  have eC : ∀ v, tkC (a : Int) (K : Int) s (90, nm, v) = 1 := fun v => by rw [tkC, if_pos hs]
  have eT : ∀ v, tkT (a : Int) (K : Int) ts s (90, nm, v) = ts := fun v => by rw [tkT, hb, if_neg (by decide)]
  have eS : ∀ v, tkS (a : Int) (K : Int) s (90, nm, v) = s := fun v => by rw [tkS, hb, if_neg (by decide)]
  have c8 := zhW (a : Int) (K : Int) ts s (90, nm, [111, 116, 104, 101, 114]) g (by decide) r1 ow
  rw [eC, eT, eS, eU] at c6
  rw [eC, eT, eS, eV] at c8
  have c7 := c6
  clear h g r1 ou ow hid hix hb eC eT eS eU eV
  generalize z1L nm (K : Int) = sh at *
  generalize dkOf shardN ts = d0 at *
  clear ts
  simp only [svE] at *
  generalize chE (wtN s) = WL at *
  generalize (wtN s).length = wl at *
  have f1 : ((s.ep : Nat) : Int) = ((s.ep : Nat) : Int) := rfl
  have fR : (!(eqC [.int .i64 (s.re : Int), .int .i64 (s.rt : Int), .int .i64 (s.rk : Int)] [.int .i64 (s.re : Int), .int .i64 (s.rt : Int), .int .i64 (s.rk : Int)])) = false := by simp [eqC]
  have f0 : (0 : Int) = 0 := rfl
  have f9 : (1 : Int) = 1 := rfl
  have b1 : ¬ (1 : Int) = 0 := by decide
  by_cases hw : ((wl : Nat) : Int) ≥ 12
  ·refine z01 z0j 1 rfl Tryz.func4 rfl rfl rfl ?_
   repeat ((try conv => whnf); first | (with_reducible first | refine z0e (fun Qs hN hE hR => ?_) | refine z0c ?_ | refine z05 (fun Qb kN kE kX kR => ?_) | refine z07 ?_ | refine z08 ?_ | refine z0d ?_ | refine z09 ?_ | refine z0a ?_ | (show W _ _ _ (.cond _ _ _) _ _; refine z06 rfl ?_) | (refine hN _ ?_; try clear hN hE hR Qs; (try (conv => arg 6; dsimp only [ovl, List.set, List.map, ren0]))) | ((first | refine hE _ _ ?_ | refine hR _ ?_); try clear hN hE hR Qs) | ((first | refine kN _ ?_ | refine kE _ ?_ | refine kX _ _ rfl ?_ | refine kR _ ?_); try clear kN kE kX kR Qb)) | (refine ccA ([]) (cb) ?_) | (refine ccA ([]) (cS) ?_) | (refine ccA ([]) (cP) ?_) | (refine And.intro hPL ?_) | (refine Exists.intro _ (And.intro gP ?_)) | (refine Exists.intro _ (And.intro rfl ?_)) | (refine z3c ([]) (c4) (by ((repeat' (first | (exact trivial) | (exact rfl) | (decide) | (refine And.intro ?_ ?_))); first | done | fail)) (by ((repeat' (first | (exact trivial) | (exact rfl) | (decide) | (refine And.intro ?_ ?_))); first | done | fail)) (by decide) (by rfl) (by first | exact .inl rfl | (refine .inr ⟨?_, ?_⟩ <;> simp [own2, own1, own0, ownE])) ?_) | (refine ccA ([]) (c5) ?_) | (refine ccA ([]) (cN) ?_) | (refine ccA ([]) (c6) ?_) | (refine ccA ([]) (c7) ?_) | (refine ccA ([]) (c8) ?_) | (refine ccA ([]) (cO) ?_) | (refine ccA ([]) (cA) ?_) | (refine z0G f1 ?_) | (refine cb_f fR ?_) | (refine z2K b1 ?_) | (refine ccA ([]) (cW) ?_) | (refine Exists.intro wl (And.intro lW ?_)) | (refine z0g hw ?_) | (refine And.intro (by kernel_rfl) ?_) | (refine stpQ ?_))
   (refine z00 (by rfl) ?_ ?_ (by rfl)) <;> (repeat' (first | (exact eqA) | (refine And.intro ?_ ?_) | ((fail_if_success (with_reducible (show _ = _))); (show _ = _)))) <;> first | rfl | exact decide_eq_true hw
  ·refine z01 z0j 1 rfl Tryz.func4 rfl rfl rfl ?_
   repeat ((try conv => whnf); first | (with_reducible first | refine z0e (fun Qs hN hE hR => ?_) | refine z0c ?_ | refine z05 (fun Qb kN kE kX kR => ?_) | refine z07 ?_ | refine z08 ?_ | refine z0d ?_ | refine z09 ?_ | refine z0a ?_ | (show W _ _ _ (.cond _ _ _) _ _; refine z06 rfl ?_) | (refine hN _ ?_; try clear hN hE hR Qs; (try (conv => arg 6; dsimp only [ovl, List.set, List.map, ren0]))) | ((first | refine hE _ _ ?_ | refine hR _ ?_); try clear hN hE hR Qs) | ((first | refine kN _ ?_ | refine kE _ ?_ | refine kX _ _ rfl ?_ | refine kR _ ?_); try clear kN kE kX kR Qb)) | (refine ccA ([]) (cb) ?_) | (refine ccA ([]) (cS) ?_) | (refine ccA ([]) (cP) ?_) | (refine And.intro hPL ?_) | (refine Exists.intro _ (And.intro gP ?_)) | (refine Exists.intro _ (And.intro rfl ?_)) | (refine z3c ([]) (c4) (by ((repeat' (first | (exact trivial) | (exact rfl) | (decide) | (refine And.intro ?_ ?_))); first | done | fail)) (by ((repeat' (first | (exact trivial) | (exact rfl) | (decide) | (refine And.intro ?_ ?_))); first | done | fail)) (by decide) (by rfl) (by first | exact .inl rfl | (refine .inr ⟨?_, ?_⟩ <;> simp [own2, own1, own0, ownE])) ?_) | (refine ccA ([]) (c5) ?_) | (refine ccA ([]) (cN) ?_) | (refine ccA ([]) (c6) ?_) | (refine ccA ([]) (c7) ?_) | (refine ccA ([]) (c8) ?_) | (refine ccA ([]) (cO) ?_) | (refine ccA ([]) (cA) ?_) | (refine z0G f1 ?_) | (refine cb_f fR ?_) | (refine z2K b1 ?_) | (refine ccA ([]) (cW) ?_) | (refine Exists.intro wl (And.intro lW ?_)) | (refine z0b hw ?_) | (refine ccA ([]) (cH) ?_) | (refine z2K hs ?_) | (refine And.intro (by kernel_rfl) ?_) | (refine stpQ ?_))
   (refine z00 (by rfl) ?_ ?_ (by rfl)) <;> (repeat' (first | (exact eqA) | (refine And.intro ?_ ?_) | ((fail_if_success (with_reducible (show _ = _))); (show _ = _)))) <;> first | rfl | (simp [hs]; done)
 by_cases hw : (wtN s).length < 12
 rotate_left
 ·have hb : ∀ v, tkB (a : Int) (K : Int) s (90, nm, v) = false := fun v => by rw [tkB, decide_eq_false hw, Bool.and_false, Bool.and_false]
  have eC : ∀ v, tkC (a : Int) (K : Int) s (90, nm, v) = 1 := fun v => by rw [tkC, if_neg (fun c => c hs), hix]; simp only; rw [if_neg hw]
  have eT : ∀ v, tkT (a : Int) (K : Int) ts s (90, nm, v) = ts := fun v => by rw [tkT, hb, if_neg (by decide)]
  have eS : ∀ v, tkS (a : Int) (K : Int) s (90, nm, v) = s := fun v => by rw [tkS, hb, if_neg (by decide)]
  have c8 := zhW (a : Int) (K : Int) ts s (90, nm, [111, 116, 104, 101, 114]) g (by decide) r1 ow
  rw [eC, eT, eS, eU] at c6
  rw [eC, eT, eS, eV] at c8
  have c7 := c6
  clear h g r1 ou ow hid hix hb eC eT eS eU eV
  generalize z1L nm (K : Int) = sh at *
  generalize dkOf shardN ts = d0 at *
  clear ts
  simp only [svE] at *
  generalize chE (wtN s) = WL at *
  generalize (wtN s).length = wl at *
  have f1 : ((s.ep : Nat) : Int) = ((s.ep : Nat) : Int) := rfl
  have fR : (!(eqC [.int .i64 (s.re : Int), .int .i64 (s.rt : Int), .int .i64 (s.rk : Int)] [.int .i64 (s.re : Int), .int .i64 (s.rt : Int), .int .i64 (s.rk : Int)])) = false := by simp [eqC]
  have f0 : (0 : Int) = 0 := rfl
  have f9 : (1 : Int) = 1 := rfl
  have b1 : ¬ (1 : Int) = 0 := by decide
  have hw : ((wl : Nat) : Int) ≥ 12 := by omega
  refine z01 z0j 1 rfl Tryz.func4 rfl rfl rfl ?_
  conv => arg 6; whnf
  repeat ((try conv => whnf); first | (with_reducible first | refine z0e (fun Qs hN hE hR => ?_) | refine z0c ?_ | refine z05 (fun Qb kN kE kX kR => ?_) | refine z07 ?_ | refine z08 ?_ | refine z0d ?_ | refine z09 ?_ | refine z0a ?_ | (show W _ _ _ (.cond _ _ _) _ _; refine z06 rfl ?_) | (refine hN _ ?_; try clear hN hE hR Qs; (try (conv => arg 6; dsimp only [ovl, List.set, List.map, ren0]))) | ((first | refine hE _ _ ?_ | refine hR _ ?_); try clear hN hE hR Qs) | ((first | refine kN _ ?_ | refine kE _ ?_ | refine kX _ _ rfl ?_ | refine kR _ ?_); try clear kN kE kX kR Qb)) | (refine ccA ([]) (cb) ?_) | (refine ccA ([]) (cS) ?_) | (refine ccA ([]) (cP) ?_) | (refine And.intro hPL ?_) | (refine Exists.intro _ (And.intro gP ?_)) | (refine Exists.intro _ (And.intro rfl ?_)) | (refine z3c ([]) (c4) (by ((repeat' (first | (exact trivial) | (exact rfl) | (decide) | (refine And.intro ?_ ?_))); first | done | fail)) (by ((repeat' (first | (exact trivial) | (exact rfl) | (decide) | (refine And.intro ?_ ?_))); first | done | fail)) (by decide) (by rfl) (by first | exact .inl rfl | (refine .inr ⟨?_, ?_⟩ <;> simp [own2, own1, own0, ownE])) ?_) | (refine ccA ([]) (c5) ?_) | (refine ccA ([]) (cN) ?_) | (refine ccA ([]) (c6) ?_) | (refine ccA ([]) (c7) ?_) | (refine ccA ([]) (c8) ?_) | (refine ccA ([]) (cO) ?_) | (refine ccA ([]) (cA) ?_) | (refine z0G f1 ?_) | (refine cb_f fR ?_) | (refine z2K b1 ?_) | (refine ccA ([]) (cW) ?_) | (refine Exists.intro wl (And.intro lW ?_)) | (refine z0g hw ?_) | (refine And.intro (by kernel_rfl) ?_) | (refine stpQ ?_))
  (refine z00 (by rfl) ?_ ?_ (by rfl)) <;> (repeat' (first | (exact eqA) | (refine And.intro ?_ ?_) | ((fail_if_success (with_reducible (show _ = _))); (show _ = _)))) <;> first | rfl | exact decide_eq_true hw
 have hb : tkB (a : Int) (K : Int) s (90, nm, [108, 97, 116, 101]) = true := by rw [tkB, decide_eq_true hs, decide_eq_true hix, decide_eq_true hw]; rfl
 have eC : tkC (a : Int) (K : Int) s (90, nm, [108, 97, 116, 101]) = 0 := by rw [tkC, if_neg (fun c => c hs), hix]; simp only; rw [if_pos hw]
 have eT : tkT (a : Int) (K : Int) ts s (90, nm, [108, 97, 116, 101]) = ts ++ [1 :: z3h (90, nm, [108, 97, 116, 101])] := by rw [tkT, hb, if_pos rfl]
 have eS : tkS (a : Int) (K : Int) s (90, nm, [108, 97, 116, 101]) = { s with al := s.al ++ [(90, nm, [108, 97, 116, 101])] } := by rw [tkS, hb, if_pos rfl]
 have L2 := z7S h (90, nm, [108, 97, 116, 101]) ou
 rw [eC, eU, eT, eS] at c6
 rw [eT, eS] at L2
 obtain ⟨s2, es2⟩ : ∃ s2 : Sv, s2 = { s with al := s.al ++ [(90, nm, [108, 97, 116, 101])] } := ⟨_, rfl⟩
 obtain ⟨ts2, et2⟩ : ∃ ts2, ts2 = ts ++ [1 :: z3h (90, nm, [108, 97, 116, 101])] := ⟨_, rfl⟩
 rw [← es2, ← et2] at L2 c6
 have i2 : idIx s2.al 90 = some s.al.length := by rw [es2]; exact zi3 (u := (90, nm, [108, 97, 116, 101])) hix
 have q2 : chAt s2.al s.al.length = (90, nm, [108, 97, 116, 101]) := by rw [es2]; exact zi4 _ _
 have G2 := L2.ok
 have k1 := G2.ep
 have k2 := G2.vl
 have k3 := G2.tl
 have k4 := G2.al
 have kv : ∀ v ∈ s2.vs, v.length ≤ 1000 := fun v hv => by have := (z0w (G2.vo v hv)).1; omega
 have r2 : Rec 89 ts2 := L2.rc.up (by decide)
 have hb2 : ∀ v, tkB (a : Int) (K : Int) s2 (90, nm, v) = false := fun v => by
  have : decide (idIx s2.al (90 : Int) = none) = false := by rw [i2]; rfl
  show (decide _ && (decide (idIx s2.al (90 : Int) = none) && _)) = false
  rw [this, Bool.false_and, Bool.and_false]
 have eT2 : ∀ v, tkT (a : Int) (K : Int) ts2 s2 (90, nm, v) = ts2 := fun v => by rw [tkT, hb2, if_neg (by decide)]
 have eS2 : ∀ v, tkS (a : Int) (K : Int) s2 (90, nm, v) = s2 := fun v => by rw [tkS, hb2, if_neg (by decide)]
 have eC7 : tkC (a : Int) (K : Int) s2 (90, nm, [108, 97, 116, 101]) = 0 := by rw [tkC, if_neg (fun c => c hs), i2]; simp only; rw [if_pos q2]
 have eC8 : tkC (a : Int) (K : Int) s2 (90, nm, [111, 116, 104, 101, 114]) = 1 := by
  rw [tkC, if_neg (fun c => c hs), i2]
  simp only
  rw [if_neg (fun e => by rw [q2] at e; injection e with _ e; injection e with _ e; exact absurd e (by decide))]
 have c7 := zhW (a : Int) (K : Int) ts2 s2 (90, nm, [108, 97, 116, 101]) G2 (by decide) r2 ou
 have c8 := zhW (a : Int) (K : Int) ts2 s2 (90, nm, [111, 116, 104, 101, 114]) G2 (by decide) r2 ow
 rw [eT2, eS2, eC7, eU] at c7
 rw [eT2, eS2, eC8, eV] at c8
 have cX := zeT a K L2 (by decide) hK ha true
 have hfl : (dkOf shardN ts2).length ≤ 1000 := (z2p (n := shardN) (by decide) (L2.rc.up (by decide))).1
 have cQ := z9g (a : Int) (K : Int) true (dkOf shardN ts2) s2 hfl ⟨by omega, by omega, by omega, kv⟩
 have cY := zhx (a : Int) (K : Int) true (dkOf shardN ts2) (vwE s2.vs) s2 G2 (by decide)
 have lY := z0D (wtN s2)
 have eW : (wtN s2).length = (wtN s).length + 1 := by
  have hle := zbr g
  rw [es2]
  show ((s.al ++ [_]).drop (z3j s.tk)).length = (s.al.drop (z3j s.tk)).length + 1
  rw [List.length_drop, List.length_drop, List.length_append]
  simp only [List.length_cons, List.length_nil]
  omega
 have eA : (((wtN s2).length : Nat) : Int) = IntKind.i64.wrap ((((wtN s).length : Nat) : Int) + 1) := by rw [wrap_i64 (by omega) (by omega)]; omega
 clear h g r1 ou ow hid hix hb eC eT eS eU eV L2 es2 et2 i2 q2 G2 r2 hb2 eT2 eS2 eC7 eC8 kv hfl eW
 generalize z1L nm (K : Int) = sh at *
 generalize dkOf shardN ts2 = d2 at *
 generalize dkOf shardN ts = d0 at *
 clear ts ts2
 simp only [svE] at *
 generalize chE (wtN s) = WL at *
 generalize (wtN s).length = wl at *
 generalize chE (wtN s2) = WL2 at *
 generalize (wtN s2).length = wl2 at *
 have eZ : ((WL2.length : Nat) : Int) = IntKind.i64.wrap (((WL.length : Nat) : Int) + 1) := by rw [lY, lW]; exact eA
 have f1 : ((s.ep : Nat) : Int) = ((s.ep : Nat) : Int) := rfl
 have fR : (!(eqC [.int .i64 (s.re : Int), .int .i64 (s.rt : Int), .int .i64 (s.rk : Int)] [.int .i64 (s.re : Int), .int .i64 (s.rt : Int), .int .i64 (s.rk : Int)])) = false := by simp [eqC]
 have f0 : (0 : Int) = 0 := rfl
 have f9 : (1 : Int) = 1 := rfl
 refine z01 z0j 1 rfl Tryz.func4 rfl rfl rfl ?_
 conv => arg 6; whnf
 repeat ((try conv => whnf); first | (with_reducible first | refine z0e (fun Qs hN hE hR => ?_) | refine z0c ?_ | refine z05 (fun Qb kN kE kX kR => ?_) | refine z07 ?_ | refine z08 ?_ | refine z0d ?_ | refine z09 ?_ | refine z0a ?_ | (show W _ _ _ (.cond _ _ _) _ _; refine z06 rfl ?_) | (refine hN _ ?_; try clear hN hE hR Qs; (try (conv => arg 6; dsimp only [ovl, List.set, List.map, ren0]))) | ((first | refine hE _ _ ?_ | refine hR _ ?_); try clear hN hE hR Qs) | ((first | refine kN _ ?_ | refine kE _ ?_ | refine kX _ _ rfl ?_ | refine kR _ ?_); try clear kN kE kX kR Qb)) | (refine ccA ([]) (cb) ?_) | (refine ccA ([]) (cS) ?_) | (refine ccA ([]) (cP) ?_) | (refine And.intro hPL ?_) | (refine Exists.intro _ (And.intro gP ?_)) | (refine Exists.intro _ (And.intro rfl ?_)) | (refine z3c ([]) (c4) (by ((repeat' (first | (exact trivial) | (exact rfl) | (decide) | (refine And.intro ?_ ?_))); first | done | fail)) (by ((repeat' (first | (exact trivial) | (exact rfl) | (decide) | (refine And.intro ?_ ?_))); first | done | fail)) (by decide) (by rfl) (by first | exact .inl rfl | (refine .inr ⟨?_, ?_⟩ <;> simp [own2, own1, own0, ownE])) ?_) | (refine ccA ([]) (c5) ?_) | (refine ccA ([]) (cN) ?_) | (refine ccA ([]) (c6) ?_) | (refine ccA ([]) (c7) ?_) | (refine ccA ([]) (c8) ?_) | (refine ccA ([]) (cO) ?_) | (refine ccA ([]) (cA) ?_) | (refine z0G f1 ?_) | (refine cb_f fR ?_) | (refine z0G f0 ?_) | (refine z0g f0 ?_) | (refine ccA ([]) (cQ) ?_) | (refine z0g f9 ?_) | (refine ccA ([]) (cY) ?_) | (refine Exists.intro wl2 (And.intro lY ?_)) | (refine ccA ([]) (cW) ?_) | (refine Exists.intro wl (And.intro lW ?_)) | (refine z0g eZ ?_) | (refine ccA ([]) (cX) ?_) | (refine And.intro (by kernel_rfl) ?_) | (refine stpQ ?_))
 (refine z00 (by rfl) ?_ ?_ (by rfl)) <;> (repeat' (first | (exact eqA) | (refine And.intro ?_ ?_) | ((fail_if_success (with_reducible (show _ = _))); (show _ = _)))) <;> first | rfl | (simp; done)
end
end Go.Proofs.YthbdlnogojcnmaaGreatDoor
