/- Functions by content: the law of looks. -/
import Derived.Test.YtfjbinbpgdiafaaGreatDoorLdm
import Derived.Test.YtfjbinbpgdiafaaGreatDoorLkc
import Derived.Test.YtfjbinbpgdiafaaGreatDoorShr
import Derived.Test.YtfjbinbpgdiafaaGreatDoorTt
import Derived.Test.YtfjbinbpgdiafaaGreatDoorHb
import Derived.Test.YtfjbinbpgdiafaaGreatDoorLok
import Derived.Test.YtfjbinbpgdiafaaGreatDoorLsw
namespace Go.Proofs.YtfjbinbpgdiafaaGreatDoor
set_option linter.unusedVariables false
set_option linter.unusedSimpArgs false
set_option linter.unusedSectionVars false
open Go.RowKit Pl
section
attribute [local irreducible] z0r z0s z0z AnsP LeP W CvE z0A
theorem lk_yes {a K ep i : Int} {up : Bool} {vs : List (List Lf)} {nm : Bs} (h : lkB a K up ep vs i nm = true) : up = true ∧ (1 ≤ i ∧ i ≤ ep) ∧ i < (vs.length : Int) ∧ (0 ≤ K ∧ K ≤ 2) ∧ z0C nm = true ∧ (z18 nm K : Int) = a := by
 unfold lkB at h
 simp only [Bool.and_eq_true, z0W, decide_eq_true_eq] at h
 exact ⟨h.1, h.2.1, h.2.2.1, h.2.2.2.1, h.2.2.2.2.1, h.2.2.2.2.2⟩
set_option maxRecDepth 100000 in
set_option maxHeartbeats 32000000 in
theorem zhm (c : Bs) : CT Tryz.prog 3 [] [.sl 1 (z0k c)] (.bool true) [] := by
 have cb := c_big c
 by_cases hc : (c.length : Int) ≤ 1048576
 rotate_left
 ·rw [decide_eq_true (show (1048576 : Int) < (c.length : Int) by omega)] at cb
  refine z01 z0i 1 rfl Tryz.func3 rfl rfl rfl ?_
  conv => arg 6; whnf
  repeat ((try conv => whnf); first | (with_reducible first | refine z0f (fun Qs hN hE hR => ?_) | refine z0d ?_ | refine z04 (fun Qb kN kE kX kR => ?_) | refine z06 ?_ | refine z07 ?_ | refine z0e ?_ | refine z08 ?_ | refine z09 ?_ | (show W _ _ _ (.cond _ _ _) _ _; refine z05 rfl ?_) | (refine hN _ ?_; try clear hN hE hR Qs; (try (conv => arg 6; dsimp only [ovl, List.set, List.map, ren0]))) | ((first | refine hE _ _ ?_ | refine hR _ ?_); try clear hN hE hR Qs) | ((first | refine kN _ ?_ | refine kE _ ?_ | refine kX _ _ rfl ?_ | refine kR _ ?_); try clear kN kE kX kR Qb)) | (refine ccA ([]) (cb) ?_) | (refine stpQ ?_))
  (refine z00 (by rfl) ?_ ?_ (by rfl)) <;> (repeat' (first | (exact eqA) | (refine And.intro ?_ ?_) | ((fail_if_success (with_reducible (show _ = _))); (show _ = _))))
 rw [decide_eq_false (show ¬ (1048576 : Int) < (c.length : Int) by omega)] at cb
 obtain ⟨a, K, ts, ⟨hK, ha, h, _, _⟩, cS⟩ := z9j c hc
 obtain ⟨nm, ⟨hn1, hn2⟩, cN⟩ := zcl c hc
 obtain ⟨a', K', up', fs', ep', vs', tk', al', re', rt', rk', j', nm', ⟨hv', hl'⟩, hn', cD⟩ := zcx c hc
 have hn3 := z0D hn'
 generalize svOf (a : Int) (K : Int) ts = s at *
 have cO := zhj a K h (by decide) hK ha true
 have g := h.ok
 have g1 := g.ep
 have g2 := g.vl
 have cH := z3q nm (K : Int) (by omega)
 have cZ := z4L (a : Int) (K : Int) (s.ep : Int) ((s.ep + 1 : Nat) : Int) true (dkOf shardN ts) s.vs (ntE s.tk) (chE s.al) (s.re : Int) (s.rt : Int) (s.rk : Int) nm (by omega) (by rw [lkB, z4F (by omega), Bool.false_and, Bool.and_false])
 have cL0 : (z18 nm (K : Int) : Int) ≠ (a : Int) → ∀ k : Nat, CT Tryz.prog 8 [] [.agg [.int .i64 (a : Int), .int .i64 (K : Int), .bool true, .sl 3 (flE (dkOf shardN ts)), .int .i64 (s.ep : Int), .sl 1 (vwE s.vs), .sl 1 (ntE s.tk), .sl 3 (chE s.al), .int .i64 (s.re : Int), .int .i64 (s.rt : Int), .int .i64 (s.rk : Int)], .int .i64 (k : Int), .str nm] (.tup [.agg [.val nilV, .val nilV], .bool false]) [] := fun hs k =>
  z4L (a : Int) (K : Int) (s.ep : Int) (k : Int) true (dkOf shardN ts) s.vs (ntE s.tk) (chE s.al) (s.re : Int) (s.rt : Int) (s.rk : Int) nm (by omega) (by rw [lkB, decide_eq_false hs]; simp)
 have cL1 : (z18 nm (K : Int) : Int) = (a : Int) → ∀ k : Nat, 1 ≤ k → k ≤ s.ep → ∃ (B : List (List T)) (S : List (List T)) (V2 : List (List T)) (N : Bs), (vwE s.vs)[k]? = some [.sl 2 V2] ∧
  CT Tryz.prog 8 [] [.agg [.int .i64 (a : Int), .int .i64 (K : Int), .bool true, .sl 3 (flE (dkOf shardN ts)), .int .i64 (s.ep : Int), .sl 1 (vwE s.vs), .sl 1 (ntE s.tk), .sl 3 (chE s.al), .int .i64 (s.re : Int), .int .i64 (s.rt : Int), .int .i64 (s.rk : Int)], .int .i64 (k : Int), .str nm] (.tup [.agg [.ref 1, .ref 2], .bool true]) [.row 2 B, .row 1 S] ∧
  CT Tryz.prog 11 [] [.str nm, .agg [.sl 2 B, .sl 1 S], .int .i64 16] (.str N) [] ∧
  CT Tryz.prog 10 [] [.str N, .int .i64 (ixB nm : Int), .int .i64 (K : Int), .sl 1 [], .int .i64 16] (.str N) [] ∧
  CT Tryz.prog 13 [] [.sl 2 V2, .int .i64 (K : Int), .int .i64 (a : Int), .int .i64 16] (.str N) [] := fun hs k h1 h2 => by
  have hk : k < s.vs.length := by omega
  have hok := g.vo _ (List.getElem_mem hk)
  have hv : s.vs[k]? = some s.vs[k] := List.getElem?_eq_getElem hk
  have cP := zfw nm (z0q s.vs[k] (ixB nm : Int)) (z14 s.vs[k] 16 (ixB nm) (8 - K)) 16 (zgj hok hn1 (by omega))
  rw [zhl hok hn1 hK hs] at cP
  exact ⟨_, _, _, _, by unfold vwE; rw [List.getElem?_map, hv]; rfl, z6m (a : Int) (s.ep : Int) K k (dkOf shardN ts) s.vs (ntE s.tk) (chE s.al) (s.re : Int) (s.rt : Int) (s.rk : Int) nm hK ⟨h1, by omega, hk⟩ hn1 hs hv hok, cP, zfH _ (ixB nm : Int) K hK, z4t s.vs[k] K a hok hK ha⟩
 have cI := z1E nm (by omega)
 have hvl := z3D s.vs
 have hF : ∃ (R : T) (He : List Ent) (b : Bool), CT Tryz.prog 8 [] [.agg [.int .i64 a', .int .i64 K', .bool up', .sl 3 (flE fs'), .int .i64 ep', .sl 1 (vwE vs'), .sl 1 tk', .sl 3 al', .int .i64 re', .int .i64 rt', .int .i64 rk'], .int .i64 j', .str nm'] (.tup [R, .bool b]) He ∧
  CT Tryz.prog 15 [] [.agg [.int .i64 a', .int .i64 K', .bool up', .sl 3 (flE fs'), .int .i64 ep', .sl 1 (vwE vs'), .sl 1 tk', .sl 3 al', .int .i64 re', .int .i64 rt', .int .i64 rk'], .int .i64 j', .str nm'] (.tup [R, .bool b]) He ∧
  ((R = .agg [.val nilV, .val nilV] ∧ He = [] ∧ CT Tryz.prog 16 [] [.agg [.val nilV, .val nilV], .agg [.val nilV, .val nilV]] (.bool true) []) ∨
   ∃ B S, R = .agg [.ref 1, .ref 2] ∧ He = [.row 2 B, .row 1 S] ∧ CT Tryz.prog 16 [] [.agg [.sl 2 B, .sl 1 S], .agg [.sl 2 B, .sl 1 S]] (.bool true) []) := by
  cases hq : lkB a' K' up' ep' vs' j' nm' with
  | false =>
    refine ⟨_, _, _, z4L a' K' ep' j' up' fs' vs' tk' al' re' rt' rk' nm' (by omega) hq, zcy a' K' ep' j' up' fs' vs' tk' al' re' rt' rk' nm' (by omega) hq hn', .inl ⟨rfl, rfl, ?_⟩⟩
    have cp := z6j [] [] [] [] (by decide) (by decide) (by decide) (by decide)
    refine z01 z0i 1 rfl Tryz.func16 rfl rfl rfl ?_
    conv => arg 6; whnf
    have cs := z4Y [] [] (by decide) (by decide)
    have ct := z6i [] [] (by decide) (by decide)
    repeat ((try conv => whnf); first | (with_reducible first | refine z0f (fun Qs hN hE hR => ?_) | refine z0d ?_ | refine z04 (fun Qb kN kE kX kR => ?_) | refine z06 ?_ | refine z07 ?_ | refine z0e ?_ | refine z08 ?_ | refine z09 ?_ | (show W _ _ _ (.cond _ _ _) _ _; refine z05 rfl ?_) | (refine hN _ ?_; try clear hN hE hR Qs; (try (conv => arg 6; dsimp only [ovl, List.set, List.map, ren0]))) | ((first | refine hE _ _ ?_ | refine hR _ ?_); try clear hN hE hR Qs) | ((first | refine kN _ ?_ | refine kE _ ?_ | refine kX _ _ rfl ?_ | refine kR _ ?_); try clear kN kE kX kR Qb)) | (refine ccA ([]) (cs) ?_) | (refine ccA ([]) (ct) ?_) | (refine And.intro (by kernel_rfl) ?_) | (refine stpQ ?_))
    (refine z00 (by rfl) ?_ ?_ (by rfl)) <;> (repeat' (first | (exact eqA) | (refine And.intro ?_ ?_) | ((fail_if_success (with_reducible (show _ = _))); (show _ = _)))) <;> rfl
  | true =>
    obtain ⟨rfl, ⟨q1, q2⟩, q3, ⟨q4, q5⟩, _, q6⟩ := lk_yes hq
    obtain ⟨k2, rfl⟩ : ∃ k2 : Nat, K' = (k2 : Int) := ⟨K'.toNat, by omega⟩
    obtain ⟨j2, rfl⟩ : ∃ j2 : Nat, j' = (j2 : Int) := ⟨j'.toNat, by omega⟩
    have hj : j2 < vs'.length := by omega
    have hok := hv' _ (List.getElem_mem hj)
    have hv : vs'[j2]? = some vs'[j2] := List.getElem?_eq_getElem hj
    have z := zgj (n := 8 - k2) hok hn' (by omega)
    have cp := z6j (z0q vs'[j2] (ixB nm' : Int)) (z0q vs'[j2] (ixB nm' : Int)) (z14 vs'[j2] 16 (ixB nm') (8 - k2)) (z14 vs'[j2] 16 (ixB nm') (8 - k2)) (by have := (z0n (zfG (ix := (ixB nm' : Int)) hok)).1; omega) (by have := (z0n (zfG (ix := (ixB nm' : Int)) hok)).1; omega) (by rw [z2b]; omega) (by rw [z2b]; omega)
    rw [decide_eq_true rfl, decide_eq_true rfl] at cp
    exact ⟨_, _, _, z6m a' ep' k2 j2 fs' vs' tk' al' re' rt' rk' nm' (by omega) ⟨by omega, q2, hj⟩ hn' q6 hv hok, zau a' ep' k2 j2 fs' vs' tk' al' re' rt' rk' nm' (by omega) ⟨by omega, q2, hj⟩ hn' q6 hv hok, .inr ⟨_, _, rfl, rfl, cp⟩⟩
 obtain ⟨R, He, b, cA, cB, hR0⟩ := hF
 clear hv' hl' hn' hn3 g h
 unfold svE at cS cO
 generalize flE (dkOf shardN ts) = FS at *
 generalize vwE s.vs = V at *
 generalize ntE s.tk = TK at *
 generalize chE s.al = AL at *
 generalize flE fs' = FS' at *
 generalize vwE vs' = V' at *
 generalize hsh : z18 nm (K : Int) = sh at *
 clear hsh ts
 have fE : ((s.ep + 1 : Nat) : Int) = IntKind.i64.wrap ((s.ep : Int) + 1) := by rw [wrap_i64 (by omega) (by omega)]; omega
 have f0 : (!(decide ((false : Bool) = false))) = false := rfl
 have round : ∀ (Q : Pst) (k : Nat), 1 ≤ k → k ≤ s.ep → True := fun _ _ _ _ => trivial
 refine z01 z0i 1 rfl Tryz.func3 rfl rfl rfl ?_
 conv => arg 6; whnf
 repeat ((try conv => whnf); first | (with_reducible first | refine z0f (fun Qs hN hE hR => ?_) | refine z0d ?_ | refine z04 (fun Qb kN kE kX kR => ?_) | refine z06 ?_ | refine z07 ?_ | refine z0e ?_ | refine z08 ?_ | refine z09 ?_ | (show W _ _ _ (.cond _ _ _) _ _; refine z05 rfl ?_) | (refine hN _ ?_; try clear hN hE hR Qs; (try (conv => arg 6; dsimp only [ovl, List.set, List.map, ren0]))) | ((first | refine hE _ _ ?_ | refine hR _ ?_); try clear hN hE hR Qs) | ((first | refine kN _ ?_ | refine kE _ ?_ | refine kX _ _ rfl ?_ | refine kR _ ?_); try clear kN kE kX kR Qb)) | (refine ccA ([]) (cb) ?_) | (refine ccA ([]) (cS) ?_) | (refine ccA ([]) (cN) ?_) | (refine And.intro (by kernel_rfl) ?_) | (refine stpQ ?_))
 refine z0l 0 ⟨[(0, .sl 1 (z0k c)), (3, .ptr 1 0 0), (4, .str nm)], [(1, some (.box [.int .i64 (a : Int), .int .i64 (K : Int), .bool true, .sl 3 FS, .int .i64 (s.ep : Int), .sl 1 V, .sl 1 TK, .sl 3 AL, .int .i64 (s.re : Int), .int .i64 (s.rt : Int), .int .i64 (s.rk : Int)]))], 2⟩ Nat (fun k => ⟨[(0, .sl 1 (z0k c)), (3, .ptr 1 0 0), (4, .str nm), (5, .int .i64 (k : Int))], [(1, some (.box [.int .i64 (a : Int), .int .i64 (K : Int), .bool true, .sl 3 FS, .int .i64 (s.ep : Int), .sl 1 V, .sl 1 TK, .sl 3 AL, .int .i64 (s.re : Int), .int .i64 (s.rt : Int), .int .i64 (s.rk : Int)]))], 2⟩) (fun k => 1 ≤ k ∧ k ≤ s.ep + 1) (fun k => s.ep + 1 - k) 1 (by omega) ?_ ?_ ?_
 ·(refine z02 (by rfl) ?_ ?_) <;> (repeat' (first | (exact eqA) | (refine And.intro ?_ ?_) | ((fail_if_success (with_reducible (show _ = _))); (show _ = _)))) <;> first | rfl | decide
 ·intro k hk
  by_cases hlt : k ≤ s.ep
  rotate_left
  ·obtain rfl : k = s.ep + 1 := by omega
   have f1 : ¬ ((s.ep + 1 : Nat) : Int) ≤ (s.ep : Int) := by omega
   clear cL1 cL0
   repeat ((try conv => whnf); first | (with_reducible first | refine z0f (fun Qs hN hE hR => ?_) | refine z0d ?_ | refine z04 (fun Qb kN kE kX kR => ?_) | refine z06 ?_ | refine z07 ?_ | refine z0e ?_ | refine z08 ?_ | refine z09 ?_ | (show W _ _ _ (.cond _ _ _) _ _; refine z05 rfl ?_) | (refine hN _ ?_; try clear hN hE hR Qs; (try (conv => arg 6; dsimp only [ovl, List.set, List.map, ren0]))) | ((first | refine hE _ _ ?_ | refine hR _ ?_); try clear hN hE hR Qs) | ((first | refine kN _ ?_ | refine kE _ ?_ | refine kX _ _ rfl ?_ | refine kR _ ?_); try clear kN kE kX kR Qb)) | (refine z0c f1 ?_) | (refine And.intro (by kernel_rfl) ?_) | (refine stpQ ?_))
   (refine z02 (by rfl) ?_ ?_) <;> (repeat' (first | (exact eqA) | (refine And.intro ?_ ?_) | ((fail_if_success (with_reducible (show _ = _))); (show _ = _)))) <;> rfl
  have f1 : ((k : Nat) : Int) ≤ (s.ep : Int) := by omega
  by_cases hs : (sh : Int) = (a : Int)
  ·obtain ⟨B, S, V2, N, gv, c1, c2, c3, c4⟩ := cL1 hs k hk.1 hlt
   have hkl : k < V.length := by rw [hvl]; omega
   have fB : (!(decide (true = decide ((sh : Int) = (a : Int))))) = false := by rw [decide_eq_true hs]; rfl
   have fN : N = N := rfl
   clear cL1 cL0
   repeat ((try conv => whnf); first | (with_reducible first | refine z0f (fun Qs hN hE hR => ?_) | refine z0d ?_ | refine z04 (fun Qb kN kE kX kR => ?_) | refine z06 ?_ | refine z07 ?_ | refine z0e ?_ | refine z08 ?_ | refine z09 ?_ | (show W _ _ _ (.cond _ _ _) _ _; refine z05 rfl ?_) | (refine hN _ ?_; try clear hN hE hR Qs; (try (conv => arg 6; dsimp only [ovl, List.set, List.map, ren0]))) | ((first | refine hE _ _ ?_ | refine hR _ ?_); try clear hN hE hR Qs) | ((first | refine kN _ ?_ | refine kE _ ?_ | refine kX _ _ rfl ?_ | refine kR _ ?_); try clear kN kE kX kR Qb)) | (refine z0h f1 ?_) | (refine ccA ([]) (c1) ?_) | (refine ccA ([]) (cH) ?_) | (refine cb_f fB ?_) | (refine ccA ([]) (c2) ?_) | (refine ccA ([]) (cI) ?_) | (refine ccA ([]) (c3) ?_) | (refine i_at gv ?_) | (refine And.intro hkl ?_) | (refine Exists.intro _ (And.intro gv ?_)) | (refine ccA ([]) (c4) ?_) | (refine z1g fN ?_) | (refine And.intro (by kernel_rfl) ?_) | (refine stpQ ?_))
   refine ⟨k + 1, (by (try dsimp only); omega), (by (try dsimp only); omega), ?_⟩
   (refine z02 (by rfl) ?_ ?_) <;> (repeat' (first | (exact eqA) | (refine And.intro ?_ ?_) | ((fail_if_success (with_reducible (show _ = _))); (show _ = _)))) <;> rfl
  ·have c1 := cL0 hs k
   have fB : (!(decide (false = decide ((sh : Int) = (a : Int))))) = false := by rw [decide_eq_false hs]; rfl
   clear cL1 cL0
   repeat ((try conv => whnf); first | (with_reducible first | refine z0f (fun Qs hN hE hR => ?_) | refine z0d ?_ | refine z04 (fun Qb kN kE kX kR => ?_) | refine z06 ?_ | refine z07 ?_ | refine z0e ?_ | refine z08 ?_ | refine z09 ?_ | (show W _ _ _ (.cond _ _ _) _ _; refine z05 rfl ?_) | (refine hN _ ?_; try clear hN hE hR Qs; (try (conv => arg 6; dsimp only [ovl, List.set, List.map, ren0]))) | ((first | refine hE _ _ ?_ | refine hR _ ?_); try clear hN hE hR Qs) | ((first | refine kN _ ?_ | refine kE _ ?_ | refine kX _ _ rfl ?_ | refine kR _ ?_); try clear kN kE kX kR Qb)) | (refine z0h f1 ?_) | (refine ccA ([]) (c1) ?_) | (refine ccA ([]) (cH) ?_) | (refine cb_f fB ?_) | (refine And.intro (by kernel_rfl) ?_) | (refine stpQ ?_))
   refine ⟨k + 1, (by (try dsimp only); omega), (by (try dsimp only); omega), ?_⟩
   (refine z02 (by rfl) ?_ ?_) <;> (repeat' (first | (exact eqA) | (refine And.intro ?_ ?_) | ((fail_if_success (with_reducible (show _ = _))); (show _ = _)))) <;> rfl
 ·clear cL1 cL0
  have fb : (decide (b = b)) = true := decide_eq_true rfl
  rcases hR0 with ⟨rfl, rfl, cp⟩ | ⟨B, S, rfl, rfl, cp⟩
  ·repeat ((try conv => whnf); first | (with_reducible first | refine z0f (fun Qs hN hE hR => ?_) | refine z0d ?_ | refine z04 (fun Qb kN kE kX kR => ?_) | refine z06 ?_ | refine z07 ?_ | refine z0e ?_ | refine z08 ?_ | refine z09 ?_ | (show W _ _ _ (.cond _ _ _) _ _; refine z05 rfl ?_) | (refine hN _ ?_; try clear hN hE hR Qs; (try (conv => arg 6; dsimp only [ovl, List.set, List.map, ren0]))) | ((first | refine hE _ _ ?_ | refine hR _ ?_); try clear hN hE hR Qs) | ((first | refine kN _ ?_ | refine kE _ ?_ | refine kX _ _ rfl ?_ | refine kR _ ?_); try clear kN kE kX kR Qb)) | (refine ccA ([]) (cZ) ?_) | (refine ccA ([]) (cD) ?_) | (refine ccA ([]) (cA) ?_) | (refine ccA ([]) (cB) ?_) | (refine ccA ([]) (cp) ?_) | (refine ccA ([]) (cO) ?_) | (refine cb_t fb ?_) | (refine And.intro (by kernel_rfl) ?_) | (refine stpQ ?_))
   (refine z00 (by rfl) ?_ ?_ (by rfl)) <;> (repeat' (first | (exact eqA) | (refine And.intro ?_ ?_) | ((fail_if_success (with_reducible (show _ = _))); (show _ = _)))) <;> first | rfl | (simp; done)
  ·repeat ((try conv => whnf); first | (with_reducible first | refine z0f (fun Qs hN hE hR => ?_) | refine z0d ?_ | refine z04 (fun Qb kN kE kX kR => ?_) | refine z06 ?_ | refine z07 ?_ | refine z0e ?_ | refine z08 ?_ | refine z09 ?_ | (show W _ _ _ (.cond _ _ _) _ _; refine z05 rfl ?_) | (refine hN _ ?_; try clear hN hE hR Qs; (try (conv => arg 6; dsimp only [ovl, List.set, List.map, ren0]))) | ((first | refine hE _ _ ?_ | refine hR _ ?_); try clear hN hE hR Qs) | ((first | refine kN _ ?_ | refine kE _ ?_ | refine kX _ _ rfl ?_ | refine kR _ ?_); try clear kN kE kX kR Qb)) | (refine ccA ([]) (cZ) ?_) | (refine ccA ([]) (cD) ?_) | (refine ccA ([]) (cA) ?_) | (refine ccA ([]) (cB) ?_) | (refine ccA ([]) (cp) ?_) | (refine ccA ([]) (cO) ?_) | (refine cb_t fb ?_) | (refine And.intro (by kernel_rfl) ?_) | (refine stpQ ?_))
   (refine z00 (by rfl) ?_ ?_ (by rfl)) <;> (repeat' (first | (exact eqA) | (refine And.intro ?_ ?_) | ((fail_if_success (with_reducible (show _ = _))); (show _ = _)))) <;> first | rfl | (simp; done)
end
end Go.Proofs.YtfjbinbpgdiafaaGreatDoor
