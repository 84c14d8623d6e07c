/- Functions by content: a shard of the program hears a letter (nothing done, votes). -/
import Derived.Test.YthbdlnogojcnmaaGreatDoorIhc
import Derived.Test.YthbdlnogojcnmaaGreatDoorLA
import Derived.Test.YthbdlnogojcnmaaGreatDoorShr
namespace Go.Proofs.YthbdlnogojcnmaaGreatDoor
set_option maxRecDepth 100000
set_option maxHeartbeats 16000000
set_option linter.unusedVariables false
set_option linter.unusedSimpArgs false
set_option linter.unusedSectionVars false
open Go.RowKit Pl
section
attribute [local irreducible] z0p z0r z0y AnsP LeP W CvE z0J
theorem z86 (a K : Nat) (ts : List Bs) (s : Sv) {n : Nat} (g : SvOk n s) (hn : n ≤ 1000) (hK : K ≤ 2) (ha : a < 2 ^ K) (hr : Rec 89 ts) (k f t : Int) (e y : Nat) (r : Bs) (ho : z02 k f t (e : Int) (y : Int) r = true) (ht : t = ((a + 1 : Nat) : Int)) (hk : k = 1) (he : (e : Int) = (s.ep : Int) + 1) (hy : (y : Int) < (s.rt : Int)) : CT Tryz.prog 27 [] [.agg (svE (a : Int) (K : Int) true (dkOf shardN ts) (vwE s.vs) s), .agg (ltL k f t (e : Int) (y : Int) r)] (.tup [.agg (svE (a : Int) (K : Int) true (dkOf shardN ts) (vwE (s).vs) (s)), .sl 6 []]) [] := by
 have hp : (2 : Nat) ^ K ≤ 4 := by rcases (show K = 0 ∨ K = 1 ∨ K = 2 by omega) with h | h | h <;> subst h <;> decide
 have g1 := g.ep
 have g4 := g.al
 have g5 := g.rk
 have hcl := z0D s.al
 have cO := z2H k f t (e : Int) (y : Int) r
 have cC := z6h (a : Int) (K : Int) true (dkOf shardN ts) s (z2p (n := shardN) (by decide) (hr.up (by decide))).1 ⟨by have := g.vl; omega, by have := g.tl; omega, by omega, fun v hv => by have := (z0w (g.vo v hv)).1; omega⟩
 have ea : IntKind.i64.wrap ((a : Int) + 1) = ((a + 1 : Nat) : Int) := by rw [wrap_i64 (by omega) (by omega)]; omega
 have eE : IntKind.i64.wrap ((s.ep : Int) + 1) = (s.ep : Int) + 1 := by rw [wrap_i64 (by omega) (by omega)]
 rw [ho] at cO
 subst ht
 subst hk
 have ht0 : ((a + 1 : Nat) : Int) = ((a + 1 : Nat) : Int) := rfl
 have q1 : (1 : Int) = 1 := by decide
 have n3 : ¬ (1 : Int) = 3 := by decide
 have n4 : ¬ (1 : Int) = 4 := by decide
 have hy2 : ¬ (s.rt : Int) < (y : Int) := by omega
 have hy3 : ¬ (y : Int) = (s.rt : Int) := by omega
 simp only [svE, svR, svRw, ltL] at cO cC ⊢
 by_cases me : (e : Int) = (s.re : Int)
 ·by_cases my : (y : Int) = (s.rt : Int)
  ·skip
   refine z01 z0j 1 rfl Tryz.func27 rfl rfl rfl ?_
   conv => arg 6; whnf
   repeat ((try conv => whnf); first | (with_reducible first | refine z0e (fun Qs hN hE hR => ?_) | refine z0c ?_ | refine z05 (fun Qb kN kE kX kR => ?_) | refine z07 ?_ | refine z08 ?_ | refine z0d ?_ | refine z09 ?_ | refine z0a ?_ | (show W _ _ _ (.cond _ _ _) _ _; refine z06 rfl ?_) | (refine hN _ ?_; try clear hN hE hR Qs; (try (conv => arg 6; dsimp only [ovl, List.set, List.map, ren0]))) | ((first | refine hE _ _ ?_ | refine hR _ ?_); try clear hN hE hR Qs) | ((first | refine kN _ ?_ | refine kE _ ?_ | refine kX _ _ rfl ?_ | refine kR _ ?_); try clear kN kE kX kR Qb)) | (refine ccA ([]) (cC) ?_) | (refine ccA ([]) (cO) ?_) | (refine Exists.intro _ (And.intro ea.symm ?_)) | (refine Exists.intro _ (And.intro eE.symm ?_)) | (refine z0G ht0 ?_) | (refine z0g q1 ?_) | (refine z0b n3 ?_) | (refine z0b n4 ?_) | (refine z0g he ?_) | (refine z0b hy2 ?_) | (refine z2K hy3 ?_) | (refine z0g me ?_) | (refine z0b me ?_) | (refine z0g my ?_) | (refine z0b my ?_) | (refine And.intro (by simp only [List.length_append, List.length_set, List.length_replicate, List.length_cons, List.length_nil, List.nil_append]; omega) ?_) | (refine And.intro (by kernel_rfl) ?_) | (refine stpQ ?_))
   (refine z00 (by rfl) ?_ ?_ (by rfl)) <;> (repeat' (first | (exact eqA) | (refine And.intro ?_ ?_) | ((fail_if_success (with_reducible (show _ = _))); (show _ = _)))) <;> first | rfl | (simp; done)
  ·skip
   refine z01 z0j 1 rfl Tryz.func27 rfl rfl rfl ?_
   conv => arg 6; whnf
   repeat ((try conv => whnf); first | (with_reducible first | refine z0e (fun Qs hN hE hR => ?_) | refine z0c ?_ | refine z05 (fun Qb kN kE kX kR => ?_) | refine z07 ?_ | refine z08 ?_ | refine z0d ?_ | refine z09 ?_ | refine z0a ?_ | (show W _ _ _ (.cond _ _ _) _ _; refine z06 rfl ?_) | (refine hN _ ?_; try clear hN hE hR Qs; (try (conv => arg 6; dsimp only [ovl, List.set, List.map, ren0]))) | ((first | refine hE _ _ ?_ | refine hR _ ?_); try clear hN hE hR Qs) | ((first | refine kN _ ?_ | refine kE _ ?_ | refine kX _ _ rfl ?_ | refine kR _ ?_); try clear kN kE kX kR Qb)) | (refine ccA ([]) (cC) ?_) | (refine ccA ([]) (cO) ?_) | (refine Exists.intro _ (And.intro ea.symm ?_)) | (refine Exists.intro _ (And.intro eE.symm ?_)) | (refine z0G ht0 ?_) | (refine z0g q1 ?_) | (refine z0b n3 ?_) | (refine z0b n4 ?_) | (refine z0g he ?_) | (refine z0b hy2 ?_) | (refine z2K hy3 ?_) | (refine z0g me ?_) | (refine z0b me ?_) | (refine z0g my ?_) | (refine z0b my ?_) | (refine And.intro (by simp only [List.length_append, List.length_set, List.length_replicate, List.length_cons, List.length_nil, List.nil_append]; omega) ?_) | (refine And.intro (by kernel_rfl) ?_) | (refine stpQ ?_))
   (refine z00 (by rfl) ?_ ?_ (by rfl)) <;> (repeat' (first | (exact eqA) | (refine And.intro ?_ ?_) | ((fail_if_success (with_reducible (show _ = _))); (show _ = _)))) <;> first | rfl | (simp; done)
 ·skip
  refine z01 z0j 1 rfl Tryz.func27 rfl rfl rfl ?_
  conv => arg 6; whnf
  repeat ((try conv => whnf); first | (with_reducible first | refine z0e (fun Qs hN hE hR => ?_) | refine z0c ?_ | refine z05 (fun Qb kN kE kX kR => ?_) | refine z07 ?_ | refine z08 ?_ | refine z0d ?_ | refine z09 ?_ | refine z0a ?_ | (show W _ _ _ (.cond _ _ _) _ _; refine z06 rfl ?_) | (refine hN _ ?_; try clear hN hE hR Qs; (try (conv => arg 6; dsimp only [ovl, List.set, List.map, ren0]))) | ((first | refine hE _ _ ?_ | refine hR _ ?_); try clear hN hE hR Qs) | ((first | refine kN _ ?_ | refine kE _ ?_ | refine kX _ _ rfl ?_ | refine kR _ ?_); try clear kN kE kX kR Qb)) | (refine ccA ([]) (cC) ?_) | (refine ccA ([]) (cO) ?_) | (refine Exists.intro _ (And.intro ea.symm ?_)) | (refine Exists.intro _ (And.intro eE.symm ?_)) | (refine z0G ht0 ?_) | (refine z0g q1 ?_) | (refine z0b n3 ?_) | (refine z0b n4 ?_) | (refine z0g he ?_) | (refine z0b hy2 ?_) | (refine z2K hy3 ?_) | (refine z0g me ?_) | (refine z0b me ?_) | (refine z0g my ?_) | (refine z0b my ?_) | (refine And.intro (by simp only [List.length_append, List.length_set, List.length_replicate, List.length_cons, List.length_nil, List.nil_append]; omega) ?_) | (refine And.intro (by kernel_rfl) ?_) | (refine stpQ ?_))
  (refine z00 (by rfl) ?_ ?_ (by rfl)) <;> (repeat' (first | (exact eqA) | (refine And.intro ?_ ?_) | ((fail_if_success (with_reducible (show _ = _))); (show _ = _)))) <;> first | rfl | (simp; done)
theorem z6C (a K : Nat) (ts : List Bs) (s : Sv) {n : Nat} (g : SvOk n s) (hn : n ≤ 1000) (hK : K ≤ 2) (ha : a < 2 ^ K) (hr : Rec 89 ts) (k f t : Int) (e y : Nat) (r : Bs) (ho : z02 k f t (e : Int) (y : Int) r = true) (ht : t = ((a + 1 : Nat) : Int)) (hk : k = 1) (he : (e : Int) = (s.ep : Int) + 1) (hy2 : (s.rt : Int) < (y : Int)) (hb : e ≤ 1000 ∧ y ≤ 1000) : CT Tryz.prog 27 [] [.agg (svE (a : Int) (K : Int) true (dkOf shardN ts) (vwE s.vs) s), .agg (ltL k f t (e : Int) (y : Int) r)] (.tup [.agg (svE (a : Int) (K : Int) true (dkOf shardN (ts ++ [2 :: (z03 e ++ z03 y ++ z03 s.al.length)])) (vwE ({ s with re := e, rt := y, rk := s.al.length }).vs) ({ s with re := e, rt := y, rk := s.al.length })), .sl 6 [z2S a K { s with re := e, rt := y, rk := s.al.length }]]) [] := by
 have hp : (2 : Nat) ^ K ≤ 4 := by rcases (show K = 0 ∨ K = 1 ∨ K = 2 by omega) with h | h | h <;> subst h <;> decide
 have g1 := g.ep
 have g4 := g.al
 have g5 := g.rk
 have hcl := z0D s.al
 have cO := z2H k f t (e : Int) (y : Int) r
 have cC := z6h (a : Int) (K : Int) true (dkOf shardN ts) s (z2p (n := shardN) (by decide) (hr.up (by decide))).1 ⟨by have := g.vl; omega, by have := g.tl; omega, by omega, fun v hv => by have := (z0w (g.vo v hv)).1; omega⟩
 have ea : IntKind.i64.wrap ((a : Int) + 1) = ((a + 1 : Nat) : Int) := by rw [wrap_i64 (by omega) (by omega)]; omega
 have eE : IntKind.i64.wrap ((s.ep : Int) + 1) = (s.ep : Int) + 1 := by rw [wrap_i64 (by omega) (by omega)]
 rw [ho] at cO
 subst ht
 subst hk
 have ht0 : ((a + 1 : Nat) : Int) = ((a + 1 : Nat) : Int) := rfl
 have q1 : (1 : Int) = 1 := by decide
 have n3 : ¬ (1 : Int) = 3 := by decide
 have n4 : ¬ (1 : Int) = 4 := by decide
 have hy3 : ((y : Nat) : Int) = ((y : Nat) : Int) := rfl
 have rn := z2o (k := 2) (x := e) (y := y) (z := s.al.length) ⟨by omega, by omega, by omega⟩
 have cW := zbJ shardN 2 [e, y, s.al.length] ts (by simp) (fun x hx => by simp only [List.mem_cons, List.not_mem_nil, or_false] at hx; rcases hx with rfl | rfl | rfl <;> omega) (by decide) (by decide) (by rw [zgd]; exact rn.1) hr
 rw [zgd] at cW
 unfold shardN at cW
 have eN : shardN = [115, 104, 97, 114, 100] := rfl
 rw [← eN] at cW
 have c1 := z4k (a : Int) (K : Int) true (dkOf shardN (ts ++ [2 :: (z03 e ++ z03 y ++ z03 s.al.length)])) (vwE s.vs) { s with re := e, rt := y, rk := s.al.length } ⟨Nat.le_refl _, by (try simp only); omega⟩ g.ch
 have c2 := z95 (z1s { s with re := e, rt := y, rk := s.al.length }) K a (z63 _) hK ha
 have oL := zhr (z1i (k := 2) (z1s { s with re := e, rt := y, rk := s.al.length }))
 unfold z2S zhl
 generalize z0J (z1s { s with re := e, rt := y, rk := s.al.length }) 16 (8 - K) a = R at *
 generalize lvE (z1s { s with re := e, rt := y, rk := s.al.length }) = RL at *
 simp only [svE] at c1
 generalize dkOf shardN (ts ++ [2 :: (z03 e ++ z03 y ++ z03 s.al.length)]) = d2 at *
 simp only [svE, svR, svRw, ltL] at cO cC ⊢
 by_cases me : (e : Int) = (s.re : Int)
 ·by_cases my : (y : Int) = (s.rt : Int)
  ·skip
   refine z01 z0j 1 rfl Tryz.func27 rfl rfl rfl ?_
   conv => arg 6; whnf
   repeat ((try conv => whnf); first | (with_reducible first | refine z0e (fun Qs hN hE hR => ?_) | refine z0c ?_ | refine z05 (fun Qb kN kE kX kR => ?_) | refine z07 ?_ | refine z08 ?_ | refine z0d ?_ | refine z09 ?_ | refine z0a ?_ | (show W _ _ _ (.cond _ _ _) _ _; refine z06 rfl ?_) | (refine hN _ ?_; try clear hN hE hR Qs; (try (conv => arg 6; dsimp only [ovl, List.set, List.map, ren0]))) | ((first | refine hE _ _ ?_ | refine hR _ ?_); try clear hN hE hR Qs) | ((first | refine kN _ ?_ | refine kE _ ?_ | refine kX _ _ rfl ?_ | refine kR _ ?_); try clear kN kE kX kR Qb)) | (refine ccA ([]) (cC) ?_) | (refine ccA ([]) (cO) ?_) | (refine Exists.intro _ (And.intro ea.symm ?_)) | (refine Exists.intro _ (And.intro eE.symm ?_)) | (refine z0G ht0 ?_) | (refine z0g q1 ?_) | (refine z0b n3 ?_) | (refine z0b n4 ?_) | (refine z0g he ?_) | (refine z0g hy2 ?_) | (refine z0G hy3 ?_) | (refine Exists.intro s.al.length (And.intro hcl ?_)) | (refine z3c ([]) (cW) (by ((repeat' (first | (exact trivial) | (exact rfl) | (decide) | (refine And.intro ?_ ?_))); first | done | fail)) (by ((repeat' (first | (exact trivial) | (exact rfl) | (decide) | (refine And.intro ?_ ?_))); first | done | fail)) (by decide) (by rfl) (by first | exact .inl rfl | (refine .inr ⟨?_, ?_⟩ <;> simp [own2, own1, own0, ownE])) ?_) | (refine ccA [] (c1) ?_ (h5 := .inr (And.intro (by simp [own2, own1, own0]) oL))) | (refine ccA ([]) (c2) ?_) | (refine z0g me ?_) | (refine z0b me ?_) | (refine z0g my ?_) | (refine z0b my ?_) | (refine And.intro (by simp only [List.length_append, List.length_set, List.length_replicate, List.length_cons, List.length_nil, List.nil_append]; omega) ?_) | (refine And.intro (by kernel_rfl) ?_) | (refine stpQ ?_))
   (refine z00 (by rfl) ?_ ?_ (by rfl)) <;> (repeat' (first | (exact eqA) | (refine And.intro ?_ ?_) | ((fail_if_success (with_reducible (show _ = _))); (show _ = _)))) <;> first | rfl | (simp; done)
  ·skip
   refine z01 z0j 1 rfl Tryz.func27 rfl rfl rfl ?_
   conv => arg 6; whnf
   repeat ((try conv => whnf); first | (with_reducible first | refine z0e (fun Qs hN hE hR => ?_) | refine z0c ?_ | refine z05 (fun Qb kN kE kX kR => ?_) | refine z07 ?_ | refine z08 ?_ | refine z0d ?_ | refine z09 ?_ | refine z0a ?_ | (show W _ _ _ (.cond _ _ _) _ _; refine z06 rfl ?_) | (refine hN _ ?_; try clear hN hE hR Qs; (try (conv => arg 6; dsimp only [ovl, List.set, List.map, ren0]))) | ((first | refine hE _ _ ?_ | refine hR _ ?_); try clear hN hE hR Qs) | ((first | refine kN _ ?_ | refine kE _ ?_ | refine kX _ _ rfl ?_ | refine kR _ ?_); try clear kN kE kX kR Qb)) | (refine ccA ([]) (cC) ?_) | (refine ccA ([]) (cO) ?_) | (refine Exists.intro _ (And.intro ea.symm ?_)) | (refine Exists.intro _ (And.intro eE.symm ?_)) | (refine z0G ht0 ?_) | (refine z0g q1 ?_) | (refine z0b n3 ?_) | (refine z0b n4 ?_) | (refine z0g he ?_) | (refine z0g hy2 ?_) | (refine z0G hy3 ?_) | (refine Exists.intro s.al.length (And.intro hcl ?_)) | (refine z3c ([]) (cW) (by ((repeat' (first | (exact trivial) | (exact rfl) | (decide) | (refine And.intro ?_ ?_))); first | done | fail)) (by ((repeat' (first | (exact trivial) | (exact rfl) | (decide) | (refine And.intro ?_ ?_))); first | done | fail)) (by decide) (by rfl) (by first | exact .inl rfl | (refine .inr ⟨?_, ?_⟩ <;> simp [own2, own1, own0, ownE])) ?_) | (refine ccA [] (c1) ?_ (h5 := .inr (And.intro (by simp [own2, own1, own0]) oL))) | (refine ccA ([]) (c2) ?_) | (refine z0g me ?_) | (refine z0b me ?_) | (refine z0g my ?_) | (refine z0b my ?_) | (refine And.intro (by simp only [List.length_append, List.length_set, List.length_replicate, List.length_cons, List.length_nil, List.nil_append]; omega) ?_) | (refine And.intro (by kernel_rfl) ?_) | (refine stpQ ?_))
   (refine z00 (by rfl) ?_ ?_ (by rfl)) <;> (repeat' (first | (exact eqA) | (refine And.intro ?_ ?_) | ((fail_if_success (with_reducible (show _ = _))); (show _ = _)))) <;> first | rfl | (simp; done)
 ·skip
  refine z01 z0j 1 rfl Tryz.func27 rfl rfl rfl ?_
  conv => arg 6; whnf
  repeat ((try conv => whnf); first | (with_reducible first | refine z0e (fun Qs hN hE hR => ?_) | refine z0c ?_ | refine z05 (fun Qb kN kE kX kR => ?_) | refine z07 ?_ | refine z08 ?_ | refine z0d ?_ | refine z09 ?_ | refine z0a ?_ | (show W _ _ _ (.cond _ _ _) _ _; refine z06 rfl ?_) | (refine hN _ ?_; try clear hN hE hR Qs; (try (conv => arg 6; dsimp only [ovl, List.set, List.map, ren0]))) | ((first | refine hE _ _ ?_ | refine hR _ ?_); try clear hN hE hR Qs) | ((first | refine kN _ ?_ | refine kE _ ?_ | refine kX _ _ rfl ?_ | refine kR _ ?_); try clear kN kE kX kR Qb)) | (refine ccA ([]) (cC) ?_) | (refine ccA ([]) (cO) ?_) | (refine Exists.intro _ (And.intro ea.symm ?_)) | (refine Exists.intro _ (And.intro eE.symm ?_)) | (refine z0G ht0 ?_) | (refine z0g q1 ?_) | (refine z0b n3 ?_) | (refine z0b n4 ?_) | (refine z0g he ?_) | (refine z0g hy2 ?_) | (refine z0G hy3 ?_) | (refine Exists.intro s.al.length (And.intro hcl ?_)) | (refine z3c ([]) (cW) (by ((repeat' (first | (exact trivial) | (exact rfl) | (decide) | (refine And.intro ?_ ?_))); first | done | fail)) (by ((repeat' (first | (exact trivial) | (exact rfl) | (decide) | (refine And.intro ?_ ?_))); first | done | fail)) (by decide) (by rfl) (by first | exact .inl rfl | (refine .inr ⟨?_, ?_⟩ <;> simp [own2, own1, own0, ownE])) ?_) | (refine ccA [] (c1) ?_ (h5 := .inr (And.intro (by simp [own2, own1, own0]) oL))) | (refine ccA ([]) (c2) ?_) | (refine z0g me ?_) | (refine z0b me ?_) | (refine z0g my ?_) | (refine z0b my ?_) | (refine And.intro (by simp only [List.length_append, List.length_set, List.length_replicate, List.length_cons, List.length_nil, List.nil_append]; omega) ?_) | (refine And.intro (by kernel_rfl) ?_) | (refine stpQ ?_))
  (refine z00 (by rfl) ?_ ?_ (by rfl)) <;> (repeat' (first | (exact eqA) | (refine And.intro ?_ ?_) | ((fail_if_success (with_reducible (show _ = _))); (show _ = _)))) <;> first | rfl | (simp; done)
end
end Go.Proofs.YthbdlnogojcnmaaGreatDoor
