/- Functions by content: a look at a shard, both sides. Functions by content: where a look leads. -/
import Derived.Test.YtfjbinbpgdiafaaGreatDoorSzd
import Derived.Test.YtfjbinbpgdiafaaGreatDoorPs
import Derived.Test.YtfjbinbpgdiafaaGreatDoorTt
import Derived.Test.YtfjbinbpgdiafaaGreatDoorTyL
import Derived.Test.YtfjbinbpgdiafaaGreatDoorSvw
namespace Go.Proofs.YtfjbinbpgdiafaaGreatDoor
set_option maxRecDepth 100000
set_option maxHeartbeats 32000000
set_option linter.unusedVariables false
set_option linter.unusedSimpArgs false
set_option linter.unusedSectionVars false
open Go.RowKit Pl
def lkB (a K : Int) (up : Bool) (ep : Int) (vs : List (List Lf)) (i : Int) (nm : Bs) : Bool := up && (inB i 1 ep && (decide (i < (vs.length : Int)) && (inB K 0 2 && (z0C nm && decide ((z18 nm K : Int) = a)))))
section
attribute [local irreducible] z0r z0s z0z AnsP LeP W CvE z0A
theorem z4L (a K ep i : Int) (up : Bool) (fs : List Fl) (vs : List (List Lf)) (tk al : List (List T)) (re rt rk : Int) (nm : Bs) (hn : (nm.length : Int) ≤ 100000000) (hb : lkB a K up ep vs i nm = false) : CT Tryz.prog 8 [] [.agg [.int .i64 a, .int .i64 K, .bool up, .sl 3 (flE fs), .int .i64 ep, .sl 1 (vwE vs), .sl 1 tk, .sl 3 al, .int .i64 re, .int .i64 rt, .int .i64 rk], .int .i64 i, .str nm] (.tup [.agg [.val nilV, .val nilV], .bool false]) [] := by
 unfold lkB at hb
 have c1 := c_in i 1 ep
 have c2 := z3p K
 have c4 := z6c nm K hn
 have c3 := z5h nm (by omega)
 have hvl := z3D vs
 generalize inB i 1 ep = x1 at *
 generalize inB K 0 2 = x2 at *
 generalize z0C nm = x3 at *
 generalize z18 nm K = sh at *
 have walk : True := trivial
 cases up
 ·clear hb
  refine z01 z0i 1 rfl Tryz.func8 rfl rfl rfl ?_
  conv => arg 6; whnf
  repeat ((try conv => whnf); first | (with_reducible first | refine z0f (fun Qs hN hE hR => ?_) | refine z0d ?_ | refine z04 (fun Qb kN kE kX kR => ?_) | refine z06 ?_ | refine z07 ?_ | refine z0e ?_ | refine z08 ?_ | refine z09 ?_ | (show W _ _ _ (.cond _ _ _) _ _; refine z05 rfl ?_) | (refine hN _ ?_; try clear hN hE hR Qs; (try (conv => arg 6; dsimp only [ovl, List.set, List.map, ren0]))) | ((first | refine hE _ _ ?_ | refine hR _ ?_); try clear hN hE hR Qs) | ((first | refine kN _ ?_ | refine kE _ ?_ | refine kX _ _ rfl ?_ | refine kR _ ?_); try clear kN kE kX kR Qb)) | (refine And.intro (by kernel_rfl) ?_) | (refine And.intro (by kernel_rfl) ?_) | (refine stpQ ?_))
  (refine z00 (by rfl) ?_ ?_ (by rfl)) <;> (repeat' (first | (exact eqA) | (refine And.intro ?_ ?_) | ((fail_if_success (with_reducible (show _ = _))); (show _ = _)))) <;> rfl
 cases x1
 ·clear hb
  refine z01 z0i 1 rfl Tryz.func8 rfl rfl rfl ?_
  conv => arg 6; whnf
  repeat ((try conv => whnf); first | (with_reducible first | refine z0f (fun Qs hN hE hR => ?_) | refine z0d ?_ | refine z04 (fun Qb kN kE kX kR => ?_) | refine z06 ?_ | refine z07 ?_ | refine z0e ?_ | refine z08 ?_ | refine z09 ?_ | (show W _ _ _ (.cond _ _ _) _ _; refine z05 rfl ?_) | (refine hN _ ?_; try clear hN hE hR Qs; (try (conv => arg 6; dsimp only [ovl, List.set, List.map, ren0]))) | ((first | refine hE _ _ ?_ | refine hR _ ?_); try clear hN hE hR Qs) | ((first | refine kN _ ?_ | refine kE _ ?_ | refine kX _ _ rfl ?_ | refine kR _ ?_); try clear kN kE kX kR Qb)) | (refine ccA ([]) (c1) ?_) | (refine And.intro (by kernel_rfl) ?_) | (refine stpQ ?_))
  (refine z00 (by rfl) ?_ ?_ (by rfl)) <;> (repeat' (first | (exact eqA) | (refine And.intro ?_ ?_) | ((fail_if_success (with_reducible (show _ = _))); (show _ = _)))) <;> rfl
 by_cases hl : i < (vs.length : Int)
 rotate_left
 ·clear hb
  have f : i ≥ (((vwE vs).length : Nat) : Int) := by omega
  refine z01 z0i 1 rfl Tryz.func8 rfl rfl rfl ?_
  conv => arg 6; whnf
  repeat ((try conv => whnf); first | (with_reducible first | refine z0f (fun Qs hN hE hR => ?_) | refine z0d ?_ | refine z04 (fun Qb kN kE kX kR => ?_) | refine z06 ?_ | refine z07 ?_ | refine z0e ?_ | refine z08 ?_ | refine z09 ?_ | (show W _ _ _ (.cond _ _ _) _ _; refine z05 rfl ?_) | (refine hN _ ?_; try clear hN hE hR Qs; (try (conv => arg 6; dsimp only [ovl, List.set, List.map, ren0]))) | ((first | refine hE _ _ ?_ | refine hR _ ?_); try clear hN hE hR Qs) | ((first | refine kN _ ?_ | refine kE _ ?_ | refine kX _ _ rfl ?_ | refine kR _ ?_); try clear kN kE kX kR Qb)) | (refine ccA ([]) (c1) ?_) | (refine z0h f ?_) | (refine And.intro (by kernel_rfl) ?_) | (refine stpQ ?_))
  (refine z00 (by rfl) ?_ ?_ (by rfl)) <;> (repeat' (first | (exact eqA) | (refine And.intro ?_ ?_) | ((fail_if_success (with_reducible (show _ = _))); (show _ = _)))) <;> rfl
 have f : ¬ i ≥ (((vwE vs).length : Nat) : Int) := by omega
 cases x2
 ·clear hb
  refine z01 z0i 1 rfl Tryz.func8 rfl rfl rfl ?_
  conv => arg 6; whnf
  repeat ((try conv => whnf); first | (with_reducible first | refine z0f (fun Qs hN hE hR => ?_) | refine z0d ?_ | refine z04 (fun Qb kN kE kX kR => ?_) | refine z06 ?_ | refine z07 ?_ | refine z0e ?_ | refine z08 ?_ | refine z09 ?_ | (show W _ _ _ (.cond _ _ _) _ _; refine z05 rfl ?_) | (refine hN _ ?_; try clear hN hE hR Qs; (try (conv => arg 6; dsimp only [ovl, List.set, List.map, ren0]))) | ((first | refine hE _ _ ?_ | refine hR _ ?_); try clear hN hE hR Qs) | ((first | refine kN _ ?_ | refine kE _ ?_ | refine kX _ _ rfl ?_ | refine kR _ ?_); try clear kN kE kX kR Qb)) | (refine ccA ([]) (c1) ?_) | (refine z0c f ?_) | (refine ccA ([]) (c2) ?_) | (refine And.intro (by kernel_rfl) ?_) | (refine stpQ ?_))
  (refine z00 (by rfl) ?_ ?_ (by rfl)) <;> (repeat' (first | (exact eqA) | (refine And.intro ?_ ?_) | ((fail_if_success (with_reducible (show _ = _))); (show _ = _)))) <;> rfl
 cases x3
 ·clear hb
  refine z01 z0i 1 rfl Tryz.func8 rfl rfl rfl ?_
  conv => arg 6; whnf
  repeat ((try conv => whnf); first | (with_reducible first | refine z0f (fun Qs hN hE hR => ?_) | refine z0d ?_ | refine z04 (fun Qb kN kE kX kR => ?_) | refine z06 ?_ | refine z07 ?_ | refine z0e ?_ | refine z08 ?_ | refine z09 ?_ | (show W _ _ _ (.cond _ _ _) _ _; refine z05 rfl ?_) | (refine hN _ ?_; try clear hN hE hR Qs; (try (conv => arg 6; dsimp only [ovl, List.set, List.map, ren0]))) | ((first | refine hE _ _ ?_ | refine hR _ ?_); try clear hN hE hR Qs) | ((first | refine kN _ ?_ | refine kE _ ?_ | refine kX _ _ rfl ?_ | refine kR _ ?_); try clear kN kE kX kR Qb)) | (refine ccA ([]) (c1) ?_) | (refine z0c f ?_) | (refine ccA ([]) (c2) ?_) | (refine ccA ([]) (c3) ?_) | (refine And.intro (by kernel_rfl) ?_) | (refine stpQ ?_))
  (refine z00 (by rfl) ?_ ?_ (by rfl)) <;> (repeat' (first | (exact eqA) | (refine And.intro ?_ ?_) | ((fail_if_success (with_reducible (show _ = _))); (show _ = _)))) <;> rfl
 by_cases hs : (sh : Int) = a
 ·rw [decide_eq_true hs, decide_eq_true hl] at hb; cases hb
 clear hb
 refine z01 z0i 1 rfl Tryz.func8 rfl rfl rfl ?_
 conv => arg 6; whnf
 repeat ((try conv => whnf); first | (with_reducible first | refine z0f (fun Qs hN hE hR => ?_) | refine z0d ?_ | refine z04 (fun Qb kN kE kX kR => ?_) | refine z06 ?_ | refine z07 ?_ | refine z0e ?_ | refine z08 ?_ | refine z09 ?_ | (show W _ _ _ (.cond _ _ _) _ _; refine z05 rfl ?_) | (refine hN _ ?_; try clear hN hE hR Qs; (try (conv => arg 6; dsimp only [ovl, List.set, List.map, ren0]))) | ((first | refine hE _ _ ?_ | refine hR _ ?_); try clear hN hE hR Qs) | ((first | refine kN _ ?_ | refine kE _ ?_ | refine kX _ _ rfl ?_ | refine kR _ ?_); try clear kN kE kX kR Qb)) | (refine ccA ([]) (c1) ?_) | (refine z0c f ?_) | (refine ccA ([]) (c2) ?_) | (refine ccA ([]) (c3) ?_) | (refine ccA ([]) (c4) ?_) | (refine z2M hs ?_) | (refine And.intro (by kernel_rfl) ?_) | (refine stpQ ?_))
 (refine z00 (by rfl) ?_ ?_ (by rfl)) <;> (repeat' (first | (exact eqA) | (refine And.intro ?_ ?_) | ((fail_if_success (with_reducible (show _ = _))); (show _ = _)))) <;> rfl
theorem z6m (a ep : Int) (K j : Nat) (fs : List Fl) (vs : List (List Lf)) (tk al : List (List T)) (re rt rk : Int) (nm : Bs) (hK : K ≤ 2) (hj : 1 ≤ j ∧ (j : Int) ≤ ep ∧ j < vs.length) (ho : z0C nm = true) (hs : (z18 nm (K : Int) : Int) = a) {v : List Lf} (hv : vs[j]? = some v) (h : z0b v = true) : CT Tryz.prog 8 [] [.agg [.int .i64 a, .int .i64 (K : Int), .bool true, .sl 3 (flE fs), .int .i64 ep, .sl 1 (vwE vs), .sl 1 tk, .sl 3 al, .int .i64 re, .int .i64 rt, .int .i64 rk], .int .i64 (j : Int), .str nm] (.tup [.agg [.ref 1, .ref 2], .bool true]) [.row 2 (lvE (z0q v (ixB nm))), .row 1 (strE (z14 v 16 (ixB nm) (8 - K)))] := by
 have hn := z0D ho
 have c1 := c_in (j : Int) 1 ep
 have c2 := z3p (K : Int)
 have c4 := z6c nm (K : Int) (by omega)
 have c5 := za9 v nm 16 (8 - K) h ho ⟨by decide, by decide⟩ (by omega)
 rw [show (8 - ((8 - K : Nat) : Int)) = (K : Int) by omega] at c5
 have c3 := z5h nm (by omega)
 rw [ho] at c3
 have i1 : inB (j : Int) 1 ep = true := by unfold inB; simp; omega
 have i2 : inB (K : Int) 0 2 = true := by unfold inB; simp; omega
 rw [i1] at c1
 rw [i2] at c2
 have hvl := z3D vs
 have f : ¬ (j : Int) ≥ (((vwE vs).length : Nat) : Int) := by omega
 have hjl : j < (vwE vs).length := by omega
 have gv : (vwE vs)[j]? = some [.sl 2 (lvE v)] := by unfold vwE; rw [List.getElem?_map, hv]; rfl
 generalize lvE (z0q v (ixB nm)) = B at *
 generalize strE (z14 v 16 (ixB nm) (8 - K)) = S at *
 generalize lvE v = LV at *
 generalize vwE vs = V at *
 generalize z18 nm (K : Int) = sh at *
 clear hv h i1 i2
 refine z01 z0i 1 rfl Tryz.func8 rfl rfl rfl ?_
 conv => arg 6; whnf
 repeat ((try conv => whnf); first | (with_reducible first | refine z0f (fun Qs hN hE hR => ?_) | refine z0d ?_ | refine z04 (fun Qb kN kE kX kR => ?_) | refine z06 ?_ | refine z07 ?_ | refine z0e ?_ | refine z08 ?_ | refine z09 ?_ | (show W _ _ _ (.cond _ _ _) _ _; refine z05 rfl ?_) | (refine hN _ ?_; try clear hN hE hR Qs; (try (conv => arg 6; dsimp only [ovl, List.set, List.map, ren0]))) | ((first | refine hE _ _ ?_ | refine hR _ ?_); try clear hN hE hR Qs) | ((first | refine kN _ ?_ | refine kE _ ?_ | refine kX _ _ rfl ?_ | refine kR _ ?_); try clear kN kE kX kR Qb)) | (refine ccA ([]) (c1) ?_) | (refine z0c f ?_) | (refine ccA ([]) (c2) ?_) | (refine ccA ([]) (c3) ?_) | (refine ccA ([]) (c4) ?_) | (refine z1g hs ?_) | (refine i_at gv ?_) | (refine ccA ([]) (c5) ?_) | (refine And.intro (by kernel_rfl) ?_) | (refine stpQ ?_))
 (refine z00 (by rfl) ?_ ?_ (by rfl)) <;> (repeat' (first | (exact eqA) | (refine And.intro ?_ ?_) | ((fail_if_success (with_reducible (show _ = _))); (show _ = _)))) <;> rfl
theorem zcy (a K ep i : Int) (up : Bool) (fs : List Fl) (vs : List (List Lf)) (tk al : List (List T)) (re rt rk : Int) (nm : Bs) (hn : (nm.length : Int) ≤ 100000000) (hb : lkB a K up ep vs i nm = false) (ho : z0C nm = true) : CT Tryz.prog 15 [] [.agg [.int .i64 a, .int .i64 K, .bool up, .sl 3 (flE fs), .int .i64 ep, .sl 1 (vwE vs), .sl 1 tk, .sl 3 al, .int .i64 re, .int .i64 rt, .int .i64 rk], .int .i64 i, .str nm] (.tup [.agg [.val nilV, .val nilV], .bool false]) [] := by
 unfold lkB at hb
 have c1 := z13 i 1 ep
 have c2 := z13 K 0 2
 have c4 := z3q nm K hn
 have hvl := z3D vs
 generalize inB i 1 ep = x1 at *
 generalize inB K 0 2 = x2 at *
 generalize z0C nm = x3 at *
 generalize z18 nm K = sh at *
 have walk : True := trivial
 cases up
 ·clear hb
  refine z01 z0i 1 rfl Tryz.func15 rfl rfl rfl ?_
  conv => arg 6; whnf
  repeat ((try conv => whnf); first | (with_reducible first | refine z0f (fun Qs hN hE hR => ?_) | refine z0d ?_ | refine z04 (fun Qb kN kE kX kR => ?_) | refine z06 ?_ | refine z07 ?_ | refine z0e ?_ | refine z08 ?_ | refine z09 ?_ | (show W _ _ _ (.cond _ _ _) _ _; refine z05 rfl ?_) | (refine hN _ ?_; try clear hN hE hR Qs; (try (conv => arg 6; dsimp only [ovl, List.set, List.map, ren0]))) | ((first | refine hE _ _ ?_ | refine hR _ ?_); try clear hN hE hR Qs) | ((first | refine kN _ ?_ | refine kE _ ?_ | refine kX _ _ rfl ?_ | refine kR _ ?_); try clear kN kE kX kR Qb)) | (refine And.intro (by kernel_rfl) ?_) | (refine And.intro (by kernel_rfl) ?_) | (refine stpQ ?_))
  (refine z00 (by rfl) ?_ ?_ (by rfl)) <;> (repeat' (first | (exact eqA) | (refine And.intro ?_ ?_) | ((fail_if_success (with_reducible (show _ = _))); (show _ = _)))) <;> rfl
 cases x1
 ·clear hb
  refine z01 z0i 1 rfl Tryz.func15 rfl rfl rfl ?_
  conv => arg 6; whnf
  repeat ((try conv => whnf); first | (with_reducible first | refine z0f (fun Qs hN hE hR => ?_) | refine z0d ?_ | refine z04 (fun Qb kN kE kX kR => ?_) | refine z06 ?_ | refine z07 ?_ | refine z0e ?_ | refine z08 ?_ | refine z09 ?_ | (show W _ _ _ (.cond _ _ _) _ _; refine z05 rfl ?_) | (refine hN _ ?_; try clear hN hE hR Qs; (try (conv => arg 6; dsimp only [ovl, List.set, List.map, ren0]))) | ((first | refine hE _ _ ?_ | refine hR _ ?_); try clear hN hE hR Qs) | ((first | refine kN _ ?_ | refine kE _ ?_ | refine kX _ _ rfl ?_ | refine kR _ ?_); try clear kN kE kX kR Qb)) | (refine ccA ([]) (c1) ?_) | (refine And.intro (by kernel_rfl) ?_) | (refine stpQ ?_))
  (refine z00 (by rfl) ?_ ?_ (by rfl)) <;> (repeat' (first | (exact eqA) | (refine And.intro ?_ ?_) | ((fail_if_success (with_reducible (show _ = _))); (show _ = _)))) <;> rfl
 by_cases hl : i < (vs.length : Int)
 rotate_left
 ·clear hb
  have f : i ≥ (((vwE vs).length : Nat) : Int) := by omega
  refine z01 z0i 1 rfl Tryz.func15 rfl rfl rfl ?_
  conv => arg 6; whnf
  repeat ((try conv => whnf); first | (with_reducible first | refine z0f (fun Qs hN hE hR => ?_) | refine z0d ?_ | refine z04 (fun Qb kN kE kX kR => ?_) | refine z06 ?_ | refine z07 ?_ | refine z0e ?_ | refine z08 ?_ | refine z09 ?_ | (show W _ _ _ (.cond _ _ _) _ _; refine z05 rfl ?_) | (refine hN _ ?_; try clear hN hE hR Qs; (try (conv => arg 6; dsimp only [ovl, List.set, List.map, ren0]))) | ((first | refine hE _ _ ?_ | refine hR _ ?_); try clear hN hE hR Qs) | ((first | refine kN _ ?_ | refine kE _ ?_ | refine kX _ _ rfl ?_ | refine kR _ ?_); try clear kN kE kX kR Qb)) | (refine ccA ([]) (c1) ?_) | (refine z0h f ?_) | (refine And.intro (by kernel_rfl) ?_) | (refine stpQ ?_))
  (refine z00 (by rfl) ?_ ?_ (by rfl)) <;> (repeat' (first | (exact eqA) | (refine And.intro ?_ ?_) | ((fail_if_success (with_reducible (show _ = _))); (show _ = _)))) <;> rfl
 have f : ¬ i ≥ (((vwE vs).length : Nat) : Int) := by omega
 by_cases hs : (sh : Int) = a
 rotate_left
 ·clear hb
  refine z01 z0i 1 rfl Tryz.func15 rfl rfl rfl ?_
  conv => arg 6; whnf
  repeat ((try conv => whnf); first | (with_reducible first | refine z0f (fun Qs hN hE hR => ?_) | refine z0d ?_ | refine z04 (fun Qb kN kE kX kR => ?_) | refine z06 ?_ | refine z07 ?_ | refine z0e ?_ | refine z08 ?_ | refine z09 ?_ | (show W _ _ _ (.cond _ _ _) _ _; refine z05 rfl ?_) | (refine hN _ ?_; try clear hN hE hR Qs; (try (conv => arg 6; dsimp only [ovl, List.set, List.map, ren0]))) | ((first | refine hE _ _ ?_ | refine hR _ ?_); try clear hN hE hR Qs) | ((first | refine kN _ ?_ | refine kE _ ?_ | refine kX _ _ rfl ?_ | refine kR _ ?_); try clear kN kE kX kR Qb)) | (refine ccA ([]) (c1) ?_) | (refine z0c f ?_) | (refine ccA ([]) (c4) ?_) | (refine z2M hs ?_) | (refine And.intro (by kernel_rfl) ?_) | (refine stpQ ?_))
  (refine z00 (by rfl) ?_ ?_ (by rfl)) <;> (repeat' (first | (exact eqA) | (refine And.intro ?_ ?_) | ((fail_if_success (with_reducible (show _ = _))); (show _ = _)))) <;> rfl
 cases x2
 ·clear hb
  refine z01 z0i 1 rfl Tryz.func15 rfl rfl rfl ?_
  conv => arg 6; whnf
  repeat ((try conv => whnf); first | (with_reducible first | refine z0f (fun Qs hN hE hR => ?_) | refine z0d ?_ | refine z04 (fun Qb kN kE kX kR => ?_) | refine z06 ?_ | refine z07 ?_ | refine z0e ?_ | refine z08 ?_ | refine z09 ?_ | (show W _ _ _ (.cond _ _ _) _ _; refine z05 rfl ?_) | (refine hN _ ?_; try clear hN hE hR Qs; (try (conv => arg 6; dsimp only [ovl, List.set, List.map, ren0]))) | ((first | refine hE _ _ ?_ | refine hR _ ?_); try clear hN hE hR Qs) | ((first | refine kN _ ?_ | refine kE _ ?_ | refine kX _ _ rfl ?_ | refine kR _ ?_); try clear kN kE kX kR Qb)) | (refine ccA ([]) (c1) ?_) | (refine z0c f ?_) | (refine ccA ([]) (c4) ?_) | (refine z1g hs ?_) | (refine ccA ([]) (c2) ?_) | (refine And.intro (by kernel_rfl) ?_) | (refine stpQ ?_))
  (refine z00 (by rfl) ?_ ?_ (by rfl)) <;> (repeat' (first | (exact eqA) | (refine And.intro ?_ ?_) | ((fail_if_success (with_reducible (show _ = _))); (show _ = _)))) <;> rfl
 rw [decide_eq_true hs, decide_eq_true hl, ho] at hb
 cases hb
theorem zau (a ep : Int) (K j : Nat) (fs : List Fl) (vs : List (List Lf)) (tk al : List (List T)) (re rt rk : Int) (nm : Bs) (hK : K ≤ 2) (hj : 1 ≤ j ∧ (j : Int) ≤ ep ∧ j < vs.length) (ho : z0C nm = true) (hs : (z18 nm (K : Int) : Int) = a) {v : List Lf} (hv : vs[j]? = some v) (h : z0b v = true) : CT Tryz.prog 15 [] [.agg [.int .i64 a, .int .i64 (K : Int), .bool true, .sl 3 (flE fs), .int .i64 ep, .sl 1 (vwE vs), .sl 1 tk, .sl 3 al, .int .i64 re, .int .i64 rt, .int .i64 rk], .int .i64 (j : Int), .str nm] (.tup [.agg [.ref 1, .ref 2], .bool true]) [.row 2 (lvE (z0q v (ixB nm))), .row 1 (strE (z14 v 16 (ixB nm) (8 - K)))] := by
 have hn := z0D ho
 have c1 := z13 (j : Int) 1 ep
 have c2 := z13 (K : Int) 0 2
 have c4 := z3q nm (K : Int) (by omega)
 have c5 := z97 v nm 16 (8 - K) h ho ⟨by decide, by decide⟩ (by omega)
 rw [show (8 - ((8 - K : Nat) : Int)) = (K : Int) by omega] at c5
 have i1 : inB (j : Int) 1 ep = true := by unfold inB; simp; omega
 have i2 : inB (K : Int) 0 2 = true := by unfold inB; simp; omega
 rw [i1] at c1
 rw [i2] at c2
 have hvl := z3D vs
 have f : ¬ (j : Int) ≥ (((vwE vs).length : Nat) : Int) := by omega
 have hjl : j < (vwE vs).length := by omega
 have gv : (vwE vs)[j]? = some [.sl 2 (lvE v)] := by unfold vwE; rw [List.getElem?_map, hv]; rfl
 generalize lvE (z0q v (ixB nm)) = B at *
 generalize strE (z14 v 16 (ixB nm) (8 - K)) = S at *
 generalize lvE v = LV at *
 generalize vwE vs = V at *
 generalize z18 nm (K : Int) = sh at *
 clear hv h i1 i2
 refine z01 z0i 1 rfl Tryz.func15 rfl rfl rfl ?_
 conv => arg 6; whnf
 repeat ((try conv => whnf); first | (with_reducible first | refine z0f (fun Qs hN hE hR => ?_) | refine z0d ?_ | refine z04 (fun Qb kN kE kX kR => ?_) | refine z06 ?_ | refine z07 ?_ | refine z0e ?_ | refine z08 ?_ | refine z09 ?_ | (show W _ _ _ (.cond _ _ _) _ _; refine z05 rfl ?_) | (refine hN _ ?_; try clear hN hE hR Qs; (try (conv => arg 6; dsimp only [ovl, List.set, List.map, ren0]))) | ((first | refine hE _ _ ?_ | refine hR _ ?_); try clear hN hE hR Qs) | ((first | refine kN _ ?_ | refine kE _ ?_ | refine kX _ _ rfl ?_ | refine kR _ ?_); try clear kN kE kX kR Qb)) | (refine ccA ([]) (c1) ?_) | (refine z0c f ?_) | (refine ccA ([]) (c2) ?_) | (refine ccA ([]) (c4) ?_) | (refine z1g hs ?_) | (refine i_at gv ?_) | (refine ccA ([]) (c5) ?_) | (refine And.intro (by kernel_rfl) ?_) | (refine stpQ ?_))
 (refine z00 (by rfl) ?_ ?_ (by rfl)) <;> (repeat' (first | (exact eqA) | (refine And.intro ?_ ?_) | ((fail_if_success (with_reducible (show _ = _))); (show _ = _)))) <;> rfl
end
end Go.Proofs.YtfjbinbpgdiafaaGreatDoor
namespace Go.Proofs.YtfjbinbpgdiafaaGreatDoor
set_option linter.unusedVariables false
set_option linter.unusedSimpArgs false
set_option linter.unusedSectionVars false
open Go.RowKit Pl
theorem zfG {l : List Lf} {ix : Int} (h : z0b l = true) : z0b (z0q l ix) = true := by
 obtain ⟨h1, h2, h3⟩ := z0n h
 exact z5U (Nat.le_trans (List.length_filter_le _ _) h1) (fun x hx => h2 x (List.mem_filter.1 hx).1) (h3.filter _)
theorem lk_at (l : List Lf) (ix : Nat) : z0q l (ix : Int) = atP l 0 ix := by
 unfold z0q atP
 apply List.filter_congr
 intro x _
 simp only [Nat.pow_zero, Nat.div_one]
 by_cases h : ixB x.1 = ix
 ·rw [decide_eq_true h, decide_eq_true (by omega)]
 ·rw [decide_eq_false h, decide_eq_false (by omega)]
theorem zhk (l : List Lf) (ix : Int) : z0q (z0q l ix) ix = z0q l ix := by
 unfold z0q
 rw [List.filter_filter]
 apply List.filter_congr
 intro x _
 simp
theorem zgj {v : List Lf} {nm : Bs} {n : Nat} (h : z0b v = true) (ho : z0C nm = true) (h8 : n ≤ 8) : PfSz nm (z0q v (ixB nm : Int)) (z14 v 16 (ixB nm) n) := by
 have hB := zfG (ix := (ixB nm : Int)) h
 obtain ⟨h1, h2, _⟩ := z0n hB
 have hw := z64 (l := v) (w := 16) (ix := ixB nm) (n := n) (by omega)
 have hl := z2b v 16 (ixB nm) n
 exact ⟨by have := z0D ho; omega, by omega, fun x hx => by have a := z0D (h2 x hx).1; have b := z11 (h2 x hx).2; omega, by omega, fun x hx => by have := hw x hx; omega⟩
theorem zhl {v : List Lf} {nm : Bs} {K a : Nat} (h : z0b v = true) (ho : z0C nm = true) (hK : K ≤ 2) (hs : (z18 nm (K : Int) : Int) = (a : Int)) :
 zfu nm (z0q v (ixB nm : Int)) (z14 v 16 (ixB nm) (8 - K)) 16 = z0A v 16 (8 - K) a := by
 have hB := zfG (ix := (ixB nm : Int)) h
 have hw := z64 (l := v) (w := 16) (ix := ixB nm) (n := 8 - K) (by omega)
 have hl := z2b v 16 (ixB nm) (8 - K)
 have hall : ((z14 v 16 (ixB nm) (8 - K)).all fun x => decide ((x.length : Int) = 16)) = true := List.all_eq_true.2 fun x hx => decide_eq_true (by have := hw x hx; omega)
 have hg : z2r nm (z0q v (ixB nm : Int)) (z14 v 16 (ixB nm) (8 - K)) 16 = true := by
  unfold z2r
  rw [ho, hB, hall, zhk, hl, decide_eq_true rfl, decide_eq_true (show 8 - K ≤ 8 by omega)]
  rfl
 unfold zfu
 rw [if_pos hg]
 show zcp nm _ _ 16 = _
 have hf := z8L v 16 (ixB nm) (8 - K) 0
 unfold zcp
 have e : cutB (z17 (z0q v (ixB nm : Int))) 16 = z0A v 16 0 (ixB nm / 2 ^ 0) := by
  rw [z0A, lk_at, Nat.pow_zero, Nat.div_one]
 have e2 : z14 v 16 (ixB nm) (8 - K) = (List.range' 0 (8 - K)).map fun i => z0A v 16 i (sib (ixB nm / 2 ^ i)) := by
  rw [z14, List.range_eq_range']
 have e3 : ixB nm / 2 ^ (0 + (8 - K)) = a := by
  unfold z18 at hs
  rw [if_pos ⟨by omega, by omega⟩, Int.toNat_natCast] at hs
  rw [Nat.zero_add]
  omega
 rw [e, e2]
 generalize (List.range' 0 (8 - K)).map (fun i => z0A v 16 i (sib (ixB nm / 2 ^ i))) = ss at hf ⊢
 generalize z0A v 16 0 (ixB nm / 2 ^ 0) = h0 at hf ⊢
 rw [hf, e3, Nat.zero_add]
section
attribute [local irreducible] z0r z0s z0z AnsP LeP W CvE z0A
set_option maxRecDepth 100000 in
set_option maxHeartbeats 32000000 in
theorem zfH (h : Bs) (ix : Int) (K : Nat) (hK : K ≤ 2) : CT Tryz.prog 10 [] [.str h, .int .i64 ix, .int .i64 (K : Int), .sl 1 [], .int .i64 16] (.str h) [] := by
 have c1 := z13 (K : Int) 0 8
 have i1 : inB (K : Int) 0 8 = true := by unfold inB; simp; omega
 rw [i1] at c1
 have f1 : ¬ ((0 : Nat) : Int) > (K : Int) := by omega
 have f2 : ¬ (0 : Int) < ((0 : Nat) : Int) := by decide
 refine z01 z0i 1 rfl Tryz.func10 rfl rfl rfl ?_
 conv => arg 6; whnf
 repeat ((try conv => whnf); first | (with_reducible first | refine z0f (fun Qs hN hE hR => ?_) | refine z0d ?_ | refine z04 (fun Qb kN kE kX kR => ?_) | refine z06 ?_ | refine z07 ?_ | refine z0e ?_ | refine z08 ?_ | refine z09 ?_ | (show W _ _ _ (.cond _ _ _) _ _; refine z05 rfl ?_) | (refine hN _ ?_; try clear hN hE hR Qs; (try (conv => arg 6; dsimp only [ovl, List.set, List.map, ren0]))) | ((first | refine hE _ _ ?_ | refine hR _ ?_); try clear hN hE hR Qs) | ((first | refine kN _ ?_ | refine kE _ ?_ | refine kX _ _ rfl ?_ | refine kR _ ?_); try clear kN kE kX kR Qb)) | (refine ccA ([]) (c1) ?_) | (refine Exists.intro 0 (And.intro rfl ?_)) | (refine z0c f1 ?_) | (refine And.intro (by kernel_rfl) ?_) | (refine stpQ ?_))
 refine z3V Unit (fun _ => ⟨[(1, .int .i64 ix), (2, .int .i64 (K : Int)), (3, .sl 1 []), (4, .int .i64 16), (11, .str h), (12, .int .i64 0)], [], 1⟩) (fun _ => True) (fun _ => 0) () trivial ?_ ?_
 ·(refine z02 (by rfl) ?_ ?_) <;> (repeat' (first | (exact eqA) | (refine And.intro ?_ ?_) | ((fail_if_success (with_reducible (show _ = _))); (show _ = _)))) <;> first | rfl | decide
 ·intro Q1 hQ1 x hx
  repeat ((try conv => whnf); first | (with_reducible first | refine z0f (fun Qs hN hE hR => ?_) | refine z0d ?_ | refine z04 (fun Qb kN kE kX kR => ?_) | refine z06 ?_ | refine z07 ?_ | refine z0e ?_ | refine z08 ?_ | refine z09 ?_ | (show W _ _ _ (.cond _ _ _) _ _; refine z05 rfl ?_) | (refine hN _ ?_; try clear hN hE hR Qs; (try (conv => arg 6; dsimp only [ovl, List.set, List.map, ren0]))) | ((first | refine hE _ _ ?_ | refine hR _ ?_); try clear hN hE hR Qs) | ((first | refine kN _ ?_ | refine kE _ ?_ | refine kX _ _ rfl ?_ | refine kR _ ?_); try clear kN kE kX kR Qb)) | (refine Exists.intro 0 (And.intro rfl ?_)) | (refine z0c f2 ?_) | (refine And.intro (by kernel_rfl) ?_) | (refine stpQ ?_))
  refine hQ1 _ _ ?_
  clear hQ1 Q1
  repeat ((try conv => whnf); first | (with_reducible first | refine z0f (fun Qs hN hE hR => ?_) | refine z0d ?_ | refine z04 (fun Qb kN kE kX kR => ?_) | refine z06 ?_ | refine z07 ?_ | refine z0e ?_ | refine z08 ?_ | refine z09 ?_ | (show W _ _ _ (.cond _ _ _) _ _; refine z05 rfl ?_) | (refine hN _ ?_; try clear hN hE hR Qs; (try (conv => arg 6; dsimp only [ovl, List.set, List.map, ren0]))) | ((first | refine hE _ _ ?_ | refine hR _ ?_); try clear hN hE hR Qs) | ((first | refine kN _ ?_ | refine kE _ ?_ | refine kX _ _ rfl ?_ | refine kR _ ?_); try clear kN kE kX kR Qb)) | (refine And.intro (by kernel_rfl) ?_) | (refine stpQ ?_))
  (refine z00 (by rfl) ?_ ?_ (by rfl)) <;> (repeat' (first | (exact eqA) | (refine And.intro ?_ ?_) | ((fail_if_success (with_reducible (show _ = _))); (show _ = _)))) <;> rfl
end
end Go.Proofs.YtfjbinbpgdiafaaGreatDoor
