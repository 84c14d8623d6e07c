/- Functions by content: the line of a drawn event. -/
import Derived.Test.YtfgkjgfigjpkoaaDoorDrw
namespace Go.Proofs.YtfgkjgfigjpkoaaDoor
set_option maxRecDepth 100000
set_option maxHeartbeats 4000000
set_option linter.unusedVariables false
set_option linter.unusedSimpArgs false
set_option linter.unusedSectionVars false
open Go.RowKit Pl
theorem z0k (n : Nat) (h : n ≤ 1000) : (decM n).length ≤ 21 := by
 have := z9M (n : Int) (by omega)
 rwa [cntB, Int.toNat_natCast] at this
theorem z1B : ∀ j, j < 11 → (strE mvW)[j]? = some [.str (mvW.getD j [])] := by
 intro j hj
 rw [strE, List.getElem?_map, List.getD, List.getElem?_eq_getElem (show j < mvW.length from hj)]
 rfl
theorem z15 : ∀ j, j < 11 → (mvW.getD j []).length ≤ 5 := by decide
section
attribute [local irreducible] z0t z0u z0C AnsP LeP W
theorem zbR (kk hh aa : Nat) (mk mn ma ci : Int) (cn cv tx : Bs) (h1 : hh ≤ 1000) (h2 : aa ≤ 1000)  :
 ∃ s : Bs, s.length ≤ 200 ∧ CT Tryd.prog 23 [] [.agg [.int .i64 (2 : Int), .int .i64 (hh : Int), .int .i64 (aa : Int), .int .i64 mk, .int .i64 mn, .int .i64 ma, .int .i64 ci, .str cn, .str cv, .str tx]] (.str s) [] := by
 have d1 := z0i hh (by omega)
 have d2 := z0i aa (by omega)
 have l1 := z0k hh h1
 have l2 := z0k aa h2
 generalize decM hh = dh at *
 generalize decM aa = da at *
 refine ⟨([116, 101, 108, 108] ++ ([32] ++ dh) : Bs), by simp only [List.length_append, List.length_cons, List.length_nil]; omega, ?_⟩
 refine z0d z0f 1 rfl Tryd.func23 rfl rfl rfl ?_
 conv => arg 6; whnf
 repeat ((try conv => whnf); first | (with_reducible first | refine z08 (fun Qs hN hE hR => ?_) | refine z06 ?_ | refine z00 (fun Qb kN kE kX kR => ?_) | refine z02 ?_ | refine z03 ?_ | refine z07 ?_ | refine z04 ?_ | refine z05 ?_ | (show W _ _ _ (.cond _ _ _) _ _; refine z01 rfl ?_) | (refine hN _ ?_; try clear hN hE hR Qs) | ((first | refine hE _ _ ?_ | refine hR _ ?_); try clear hN hE hR Qs) | ((first | refine kN _ ?_ | refine kE _ ?_ | refine kX _ _ rfl ?_ | refine kR _ ?_); try clear kN kE kX kR Qb)) | (refine ccA ([]) (d1) ?_) | (refine ccA ([]) (d2) ?_) | (refine And.intro (by simp only [List.length_append, List.length_cons, List.length_nil]; omega) ?_) | (refine And.intro (by kernel_rfl) ?_) | (refine stpQ ?_))
 (refine z09 (by rfl) ?_ ?_ (by rfl)) <;> (repeat' (first | (exact eqA) | (refine And.intro ?_ ?_) | ((fail_if_success (with_reducible (show _ = _))); (show _ = _)))) <;> rfl
theorem zbS (kk hh aa : Nat) (mk mn ma ci : Int) (cn cv tx : Bs) (h1 : hh ≤ 1000) (h2 : aa ≤ 1000)  :
 ∃ s : Bs, s.length ≤ 200 ∧ CT Tryd.prog 23 [] [.agg [.int .i64 (3 : Int), .int .i64 (hh : Int), .int .i64 (aa : Int), .int .i64 mk, .int .i64 mn, .int .i64 ma, .int .i64 ci, .str cn, .str cv, .str tx]] (.str s) [] := by
 have d1 := z0i hh (by omega)
 have d2 := z0i aa (by omega)
 have l1 := z0k hh h1
 have l2 := z0k aa h2
 generalize decM hh = dh at *
 generalize decM aa = da at *
 refine ⟨([110, 111, 116, 101] ++ ([32] ++ da) : Bs), by simp only [List.length_append, List.length_cons, List.length_nil]; omega, ?_⟩
 refine z0d z0f 1 rfl Tryd.func23 rfl rfl rfl ?_
 conv => arg 6; whnf
 repeat ((try conv => whnf); first | (with_reducible first | refine z08 (fun Qs hN hE hR => ?_) | refine z06 ?_ | refine z00 (fun Qb kN kE kX kR => ?_) | refine z02 ?_ | refine z03 ?_ | refine z07 ?_ | refine z04 ?_ | refine z05 ?_ | (show W _ _ _ (.cond _ _ _) _ _; refine z01 rfl ?_) | (refine hN _ ?_; try clear hN hE hR Qs) | ((first | refine hE _ _ ?_ | refine hR _ ?_); try clear hN hE hR Qs) | ((first | refine kN _ ?_ | refine kE _ ?_ | refine kX _ _ rfl ?_ | refine kR _ ?_); try clear kN kE kX kR Qb)) | (refine ccA ([]) (d1) ?_) | (refine ccA ([]) (d2) ?_) | (refine And.intro (by simp only [List.length_append, List.length_cons, List.length_nil]; omega) ?_) | (refine And.intro (by kernel_rfl) ?_) | (refine stpQ ?_))
 (refine z09 (by rfl) ?_ ?_ (by rfl)) <;> (repeat' (first | (exact eqA) | (refine And.intro ?_ ?_) | ((fail_if_success (with_reducible (show _ = _))); (show _ = _)))) <;> rfl
theorem zbT (kk hh aa : Nat) (mk mn ma ci : Int) (cn cv tx : Bs) (h1 : hh ≤ 1000) (h2 : aa ≤ 1000)  :
 ∃ s : Bs, s.length ≤ 200 ∧ CT Tryd.prog 23 [] [.agg [.int .i64 (4 : Int), .int .i64 (hh : Int), .int .i64 (aa : Int), .int .i64 mk, .int .i64 mn, .int .i64 ma, .int .i64 ci, .str cn, .str cv, .str tx]] (.str s) [] := by
 have d1 := z0i hh (by omega)
 have d2 := z0i aa (by omega)
 have l1 := z0k hh h1
 have l2 := z0k aa h2
 generalize decM hh = dh at *
 generalize decM aa = da at *
 refine ⟨([100, 114, 111, 112] ++ ([32] ++ da) : Bs), by simp only [List.length_append, List.length_cons, List.length_nil]; omega, ?_⟩
 refine z0d z0f 1 rfl Tryd.func23 rfl rfl rfl ?_
 conv => arg 6; whnf
 repeat ((try conv => whnf); first | (with_reducible first | refine z08 (fun Qs hN hE hR => ?_) | refine z06 ?_ | refine z00 (fun Qb kN kE kX kR => ?_) | refine z02 ?_ | refine z03 ?_ | refine z07 ?_ | refine z04 ?_ | refine z05 ?_ | (show W _ _ _ (.cond _ _ _) _ _; refine z01 rfl ?_) | (refine hN _ ?_; try clear hN hE hR Qs) | ((first | refine hE _ _ ?_ | refine hR _ ?_); try clear hN hE hR Qs) | ((first | refine kN _ ?_ | refine kE _ ?_ | refine kX _ _ rfl ?_ | refine kR _ ?_); try clear kN kE kX kR Qb)) | (refine ccA ([]) (d1) ?_) | (refine ccA ([]) (d2) ?_) | (refine And.intro (by simp only [List.length_append, List.length_cons, List.length_nil]; omega) ?_) | (refine And.intro (by kernel_rfl) ?_) | (refine stpQ ?_))
 (refine z09 (by rfl) ?_ ?_ (by rfl)) <;> (repeat' (first | (exact eqA) | (refine And.intro ?_ ?_) | ((fail_if_success (with_reducible (show _ = _))); (show _ = _)))) <;> rfl
theorem zbU (kk hh aa : Nat) (mk mn ma ci : Int) (cn cv tx : Bs) (h1 : hh ≤ 1000) (h2 : aa ≤ 1000)  :
 ∃ s : Bs, s.length ≤ 200 ∧ CT Tryd.prog 23 [] [.agg [.int .i64 (7 : Int), .int .i64 (hh : Int), .int .i64 (aa : Int), .int .i64 mk, .int .i64 mn, .int .i64 ma, .int .i64 ci, .str cn, .str cv, .str tx]] (.str s) [] := by
 have d1 := z0i hh (by omega)
 have d2 := z0i aa (by omega)
 have l1 := z0k hh h1
 have l2 := z0k aa h2
 generalize decM hh = dh at *
 generalize decM aa = da at *
 refine ⟨(([100, 111, 119, 110] ++ ([32] ++ dh)) ++ ([32] ++ da) : Bs), by simp only [List.length_append, List.length_cons, List.length_nil]; omega, ?_⟩
 refine z0d z0f 1 rfl Tryd.func23 rfl rfl rfl ?_
 conv => arg 6; whnf
 repeat ((try conv => whnf); first | (with_reducible first | refine z08 (fun Qs hN hE hR => ?_) | refine z06 ?_ | refine z00 (fun Qb kN kE kX kR => ?_) | refine z02 ?_ | refine z03 ?_ | refine z07 ?_ | refine z04 ?_ | refine z05 ?_ | (show W _ _ _ (.cond _ _ _) _ _; refine z01 rfl ?_) | (refine hN _ ?_; try clear hN hE hR Qs) | ((first | refine hE _ _ ?_ | refine hR _ ?_); try clear hN hE hR Qs) | ((first | refine kN _ ?_ | refine kE _ ?_ | refine kX _ _ rfl ?_ | refine kR _ ?_); try clear kN kE kX kR Qb)) | (refine ccA ([]) (d1) ?_) | (refine ccA ([]) (d2) ?_) | (refine And.intro (by simp only [List.length_append, List.length_cons, List.length_nil]; omega) ?_) | (refine And.intro (by kernel_rfl) ?_) | (refine stpQ ?_))
 (refine z09 (by rfl) ?_ ?_ (by rfl)) <;> (repeat' (first | (exact eqA) | (refine And.intro ?_ ?_) | ((fail_if_success (with_reducible (show _ = _))); (show _ = _)))) <;> rfl
theorem zbV (kk hh aa : Nat) (mk mn ma ci : Int) (cn cv tx : Bs) (h1 : hh ≤ 1000) (h2 : aa ≤ 1000)  :
 ∃ s : Bs, s.length ≤ 200 ∧ CT Tryd.prog 23 [] [.agg [.int .i64 (8 : Int), .int .i64 (hh : Int), .int .i64 (aa : Int), .int .i64 mk, .int .i64 mn, .int .i64 ma, .int .i64 ci, .str cn, .str cv, .str tx]] (.str s) [] := by
 have d1 := z0i hh (by omega)
 have d2 := z0i aa (by omega)
 have l1 := z0k hh h1
 have l2 := z0k aa h2
 generalize decM hh = dh at *
 generalize decM aa = da at *
 refine ⟨([117, 112] ++ ([32] ++ dh) : Bs), by simp only [List.length_append, List.length_cons, List.length_nil]; omega, ?_⟩
 refine z0d z0f 1 rfl Tryd.func23 rfl rfl rfl ?_
 conv => arg 6; whnf
 repeat ((try conv => whnf); first | (with_reducible first | refine z08 (fun Qs hN hE hR => ?_) | refine z06 ?_ | refine z00 (fun Qb kN kE kX kR => ?_) | refine z02 ?_ | refine z03 ?_ | refine z07 ?_ | refine z04 ?_ | refine z05 ?_ | (show W _ _ _ (.cond _ _ _) _ _; refine z01 rfl ?_) | (refine hN _ ?_; try clear hN hE hR Qs) | ((first | refine hE _ _ ?_ | refine hR _ ?_); try clear hN hE hR Qs) | ((first | refine kN _ ?_ | refine kE _ ?_ | refine kX _ _ rfl ?_ | refine kR _ ?_); try clear kN kE kX kR Qb)) | (refine ccA ([]) (d1) ?_) | (refine ccA ([]) (d2) ?_) | (refine And.intro (by simp only [List.length_append, List.length_cons, List.length_nil]; omega) ?_) | (refine And.intro (by kernel_rfl) ?_) | (refine stpQ ?_))
 (refine z09 (by rfl) ?_ ?_ (by rfl)) <;> (repeat' (first | (exact eqA) | (refine And.intro ?_ ?_) | ((fail_if_success (with_reducible (show _ = _))); (show _ = _)))) <;> rfl
theorem zbW (kk hh aa : Nat) (mk mn ma ci : Int) (cn cv tx : Bs) (h1 : hh ≤ 1000) (h2 : aa ≤ 1000)  :
 ∃ s : Bs, s.length ≤ 200 ∧ CT Tryd.prog 23 [] [.agg [.int .i64 (6 : Int), .int .i64 (hh : Int), .int .i64 (aa : Int), .int .i64 mk, .int .i64 mn, .int .i64 ma, .int .i64 ci, .str cn, .str cv, .str tx]] (.str s) [] := by
 have d1 := z0i hh (by omega)
 have d2 := z0i aa (by omega)
 have l1 := z0k hh h1
 have l2 := z0k aa h2
 generalize decM hh = dh at *
 generalize decM aa = da at *
 refine ⟨((([101, 118, 105, 108] ++ ([32] ++ dh)) ++ ([32] ++ da)) ++ [32, 116, 101, 120, 116] : Bs), by simp only [List.length_append, List.length_cons, List.length_nil]; omega, ?_⟩
 refine z0d z0f 1 rfl Tryd.func23 rfl rfl rfl ?_
 conv => arg 6; whnf
 repeat ((try conv => whnf); first | (with_reducible first | refine z08 (fun Qs hN hE hR => ?_) | refine z06 ?_ | refine z00 (fun Qb kN kE kX kR => ?_) | refine z02 ?_ | refine z03 ?_ | refine z07 ?_ | refine z04 ?_ | refine z05 ?_ | (show W _ _ _ (.cond _ _ _) _ _; refine z01 rfl ?_) | (refine hN _ ?_; try clear hN hE hR Qs) | ((first | refine hE _ _ ?_ | refine hR _ ?_); try clear hN hE hR Qs) | ((first | refine kN _ ?_ | refine kE _ ?_ | refine kX _ _ rfl ?_ | refine kR _ ?_); try clear kN kE kX kR Qb)) | (refine ccA ([]) (d1) ?_) | (refine ccA ([]) (d2) ?_) | (refine And.intro (by simp only [List.length_append, List.length_cons, List.length_nil]; omega) ?_) | (refine And.intro (by kernel_rfl) ?_) | (refine stpQ ?_))
 (refine z09 (by rfl) ?_ ?_ (by rfl)) <;> (repeat' (first | (exact eqA) | (refine And.intro ?_ ?_) | ((fail_if_success (with_reducible (show _ = _))); (show _ = _)))) <;> rfl
theorem zbX (kk hh aa : Nat) (mk mn ma ci : Int) (cn cv tx : Bs) (h1 : hh ≤ 1000) (h2 : aa ≤ 1000)  :
 ∃ s : Bs, s.length ≤ 200 ∧ CT Tryd.prog 23 [] [.agg [.int .i64 (5 : Int), .int .i64 (hh : Int), .int .i64 (aa : Int), .int .i64 mk, .int .i64 mn, .int .i64 ma, .int .i64 ci, .str cn, .str cv, .str tx]] (.str s) [] := by
 have d1 := z0i hh (by omega)
 have d2 := z0i aa (by omega)
 have l1 := z0k hh h1
 have l2 := z0k aa h2
 generalize decM hh = dh at *
 generalize decM aa = da at *
 refine ⟨(([102, 111, 114, 103, 101] ++ ([32] ++ dh)) ++ [32, 116, 101, 120, 116] : Bs), by simp only [List.length_append, List.length_cons, List.length_nil]; omega, ?_⟩
 refine z0d z0f 1 rfl Tryd.func23 rfl rfl rfl ?_
 conv => arg 6; whnf
 repeat ((try conv => whnf); first | (with_reducible first | refine z08 (fun Qs hN hE hR => ?_) | refine z06 ?_ | refine z00 (fun Qb kN kE kX kR => ?_) | refine z02 ?_ | refine z03 ?_ | refine z07 ?_ | refine z04 ?_ | refine z05 ?_ | (show W _ _ _ (.cond _ _ _) _ _; refine z01 rfl ?_) | (refine hN _ ?_; try clear hN hE hR Qs) | ((first | refine hE _ _ ?_ | refine hR _ ?_); try clear hN hE hR Qs) | ((first | refine kN _ ?_ | refine kE _ ?_ | refine kX _ _ rfl ?_ | refine kR _ ?_); try clear kN kE kX kR Qb)) | (refine ccA ([]) (d1) ?_) | (refine ccA ([]) (d2) ?_) | (refine And.intro (by simp only [List.length_append, List.length_cons, List.length_nil]; omega) ?_) | (refine And.intro (by kernel_rfl) ?_) | (refine stpQ ?_))
 (refine z09 (by rfl) ?_ ?_ (by rfl)) <;> (repeat' (first | (exact eqA) | (refine And.intro ?_ ?_) | ((fail_if_success (with_reducible (show _ = _))); (show _ = _)))) <;> rfl
theorem zac (kk hh aa : Nat) (mk mn ma ci : Int) (cn cv tx : Bs) (h1 : hh ≤ 1000) (h2 : aa ≤ 1000) (n3 : Nat) (h3 : n3 ≤ 1000) (h4 : cn.length ≤ 20) (h6 : cv.length ≤ 20) (h5 : cv = []) :
 ∃ s : Bs, s.length ≤ 200 ∧ CT Tryd.prog 23 [] [.agg [.int .i64 (1 : Int), .int .i64 (hh : Int), .int .i64 (aa : Int), .int .i64 ((1 : Nat) : Int), .int .i64 mn, .int .i64 ma, .int .i64 (n3 : Int), .str cn, .str cv, .str tx]] (.str s) [] := by
 have d1 := z0i hh (by omega)
 have d2 := z0i aa (by omega)
 have l1 := z0k hh h1
 have l2 := z0k aa h2
 generalize decM hh = dh at *
 generalize decM aa = da at *
 have hj : 1 < 11 := by decide
 have gw := z1B 1 hj
 have lw := z15 1 hj
 have jl : 1 < (strE mvW).length := hj
 generalize mvW.getD 1 [] = w at *
 have d3 := z0i n3 (by omega)
 have l3 := z0k n3 h3
 generalize decM n3 = e3 at *
 refine ⟨((((((w ++ ([32] ++ dh)) ++ [32]) ++ e3) ++ [32]) ++ cn) ++ [32]) ++ [45], by simp only [List.length_append, List.length_cons, List.length_nil]; omega, ?_⟩
 refine z0d z0f 1 rfl Tryd.func23 rfl rfl rfl ?_
 conv => arg 6; whnf
 repeat ((try conv => whnf); first | (with_reducible first | refine z08 (fun Qs hN hE hR => ?_) | refine z06 ?_ | refine z00 (fun Qb kN kE kX kR => ?_) | refine z02 ?_ | refine z03 ?_ | refine z07 ?_ | refine z04 ?_ | refine z05 ?_ | (show W _ _ _ (.cond _ _ _) _ _; refine z01 rfl ?_) | (refine hN _ ?_; try clear hN hE hR Qs) | ((first | refine hE _ _ ?_ | refine hR _ ?_); try clear hN hE hR Qs) | ((first | refine kN _ ?_ | refine kE _ ?_ | refine kX _ _ rfl ?_ | refine kR _ ?_); try clear kN kE kX kR Qb)) | (refine ccA ([]) (d1) ?_) | (refine ccA ([]) (d2) ?_) | (refine ccA ([]) (d3) ?_) | (refine And.intro jl ?_) | (refine Exists.intro _ (And.intro gw ?_)) | (refine z0b h5 ?_) | (refine And.intro (by simp only [List.length_append, List.length_cons, List.length_nil]; omega) ?_) | (refine And.intro (by kernel_rfl) ?_) | (refine stpQ ?_))
 (refine z09 (by rfl) ?_ ?_ (by rfl)) <;> (repeat' (first | (exact eqA) | (refine And.intro ?_ ?_) | ((fail_if_success (with_reducible (show _ = _))); (show _ = _)))) <;> rfl
theorem zad (kk hh aa : Nat) (mk mn ma ci : Int) (cn cv tx : Bs) (h1 : hh ≤ 1000) (h2 : aa ≤ 1000) (n3 : Nat) (h3 : n3 ≤ 1000) (h4 : cn.length ≤ 20) (h6 : cv.length ≤ 20) (h5 : ¬ cv = []) :
 ∃ s : Bs, s.length ≤ 200 ∧ CT Tryd.prog 23 [] [.agg [.int .i64 (1 : Int), .int .i64 (hh : Int), .int .i64 (aa : Int), .int .i64 ((1 : Nat) : Int), .int .i64 mn, .int .i64 ma, .int .i64 (n3 : Int), .str cn, .str cv, .str tx]] (.str s) [] := by
 have d1 := z0i hh (by omega)
 have d2 := z0i aa (by omega)
 have l1 := z0k hh h1
 have l2 := z0k aa h2
 generalize decM hh = dh at *
 generalize decM aa = da at *
 have hj : 1 < 11 := by decide
 have gw := z1B 1 hj
 have lw := z15 1 hj
 have jl : 1 < (strE mvW).length := hj
 generalize mvW.getD 1 [] = w at *
 have d3 := z0i n3 (by omega)
 have l3 := z0k n3 h3
 generalize decM n3 = e3 at *
 refine ⟨((((((w ++ ([32] ++ dh)) ++ [32]) ++ e3) ++ [32]) ++ cn) ++ [32]) ++ cv, by simp only [List.length_append, List.length_cons, List.length_nil]; omega, ?_⟩
 refine z0d z0f 1 rfl Tryd.func23 rfl rfl rfl ?_
 conv => arg 6; whnf
 repeat ((try conv => whnf); first | (with_reducible first | refine z08 (fun Qs hN hE hR => ?_) | refine z06 ?_ | refine z00 (fun Qb kN kE kX kR => ?_) | refine z02 ?_ | refine z03 ?_ | refine z07 ?_ | refine z04 ?_ | refine z05 ?_ | (show W _ _ _ (.cond _ _ _) _ _; refine z01 rfl ?_) | (refine hN _ ?_; try clear hN hE hR Qs) | ((first | refine hE _ _ ?_ | refine hR _ ?_); try clear hN hE hR Qs) | ((first | refine kN _ ?_ | refine kE _ ?_ | refine kX _ _ rfl ?_ | refine kR _ ?_); try clear kN kE kX kR Qb)) | (refine ccA ([]) (d1) ?_) | (refine ccA ([]) (d2) ?_) | (refine ccA ([]) (d3) ?_) | (refine And.intro jl ?_) | (refine Exists.intro _ (And.intro gw ?_)) | (refine z0c h5 ?_) | (refine And.intro (by simp only [List.length_append, List.length_cons, List.length_nil]; omega) ?_) | (refine And.intro (by kernel_rfl) ?_) | (refine stpQ ?_))
 (refine z09 (by rfl) ?_ ?_ (by rfl)) <;> (repeat' (first | (exact eqA) | (refine And.intro ?_ ?_) | ((fail_if_success (with_reducible (show _ = _))); (show _ = _)))) <;> rfl
theorem zae (kk hh aa : Nat) (mk mn ma ci : Int) (cn cv tx : Bs) (h1 : hh ≤ 1000) (h2 : aa ≤ 1000) (n3 : Nat) (h3 : n3 ≤ 1000) :
 ∃ s : Bs, s.length ≤ 200 ∧ CT Tryd.prog 23 [] [.agg [.int .i64 (1 : Int), .int .i64 (hh : Int), .int .i64 (aa : Int), .int .i64 ((5 : Nat) : Int), .int .i64 mn, .int .i64 (n3 : Int), .int .i64 ci, .str cn, .str cv, .str tx]] (.str s) [] := by
 have d1 := z0i hh (by omega)
 have d2 := z0i aa (by omega)
 have l1 := z0k hh h1
 have l2 := z0k aa h2
 generalize decM hh = dh at *
 generalize decM aa = da at *
 have hj : 5 < 11 := by decide
 have gw := z1B 5 hj
 have lw := z15 5 hj
 have jl : 5 < (strE mvW).length := hj
 generalize mvW.getD 5 [] = w at *
 have d3 := z0i n3 (by omega)
 have l3 := z0k n3 h3
 generalize decM n3 = e3 at *
 refine ⟨((w ++ ([32] ++ dh)) ++ [32]) ++ e3, by simp only [List.length_append, List.length_cons, List.length_nil]; omega, ?_⟩
 refine z0d z0f 1 rfl Tryd.func23 rfl rfl rfl ?_
 conv => arg 6; whnf
 repeat ((try conv => whnf); first | (with_reducible first | refine z08 (fun Qs hN hE hR => ?_) | refine z06 ?_ | refine z00 (fun Qb kN kE kX kR => ?_) | refine z02 ?_ | refine z03 ?_ | refine z07 ?_ | refine z04 ?_ | refine z05 ?_ | (show W _ _ _ (.cond _ _ _) _ _; refine z01 rfl ?_) | (refine hN _ ?_; try clear hN hE hR Qs) | ((first | refine hE _ _ ?_ | refine hR _ ?_); try clear hN hE hR Qs) | ((first | refine kN _ ?_ | refine kE _ ?_ | refine kX _ _ rfl ?_ | refine kR _ ?_); try clear kN kE kX kR Qb)) | (refine ccA ([]) (d1) ?_) | (refine ccA ([]) (d2) ?_) | (refine ccA ([]) (d3) ?_) | (refine And.intro jl ?_) | (refine Exists.intro _ (And.intro gw ?_)) | (refine And.intro (by simp only [List.length_append, List.length_cons, List.length_nil]; omega) ?_) | (refine And.intro (by kernel_rfl) ?_) | (refine stpQ ?_))
 (refine z09 (by rfl) ?_ ?_ (by rfl)) <;> (repeat' (first | (exact eqA) | (refine And.intro ?_ ?_) | ((fail_if_success (with_reducible (show _ = _))); (show _ = _)))) <;> rfl
theorem zaf (kk hh aa : Nat) (mk mn ma ci : Int) (cn cv tx : Bs) (h1 : hh ≤ 1000) (h2 : aa ≤ 1000) (n3 : Nat) (h3 : n3 ≤ 1000) :
 ∃ s : Bs, s.length ≤ 200 ∧ CT Tryd.prog 23 [] [.agg [.int .i64 (1 : Int), .int .i64 (hh : Int), .int .i64 (aa : Int), .int .i64 ((6 : Nat) : Int), .int .i64 mn, .int .i64 (n3 : Int), .int .i64 ci, .str cn, .str cv, .str tx]] (.str s) [] := by
 have d1 := z0i hh (by omega)
 have d2 := z0i aa (by omega)
 have l1 := z0k hh h1
 have l2 := z0k aa h2
 generalize decM hh = dh at *
 generalize decM aa = da at *
 have hj : 6 < 11 := by decide
 have gw := z1B 6 hj
 have lw := z15 6 hj
 have jl : 6 < (strE mvW).length := hj
 generalize mvW.getD 6 [] = w at *
 have d3 := z0i n3 (by omega)
 have l3 := z0k n3 h3
 generalize decM n3 = e3 at *
 refine ⟨((w ++ ([32] ++ dh)) ++ [32]) ++ e3, by simp only [List.length_append, List.length_cons, List.length_nil]; omega, ?_⟩
 refine z0d z0f 1 rfl Tryd.func23 rfl rfl rfl ?_
 conv => arg 6; whnf
 repeat ((try conv => whnf); first | (with_reducible first | refine z08 (fun Qs hN hE hR => ?_) | refine z06 ?_ | refine z00 (fun Qb kN kE kX kR => ?_) | refine z02 ?_ | refine z03 ?_ | refine z07 ?_ | refine z04 ?_ | refine z05 ?_ | (show W _ _ _ (.cond _ _ _) _ _; refine z01 rfl ?_) | (refine hN _ ?_; try clear hN hE hR Qs) | ((first | refine hE _ _ ?_ | refine hR _ ?_); try clear hN hE hR Qs) | ((first | refine kN _ ?_ | refine kE _ ?_ | refine kX _ _ rfl ?_ | refine kR _ ?_); try clear kN kE kX kR Qb)) | (refine ccA ([]) (d1) ?_) | (refine ccA ([]) (d2) ?_) | (refine ccA ([]) (d3) ?_) | (refine And.intro jl ?_) | (refine Exists.intro _ (And.intro gw ?_)) | (refine And.intro (by simp only [List.length_append, List.length_cons, List.length_nil]; omega) ?_) | (refine And.intro (by kernel_rfl) ?_) | (refine stpQ ?_))
 (refine z09 (by rfl) ?_ ?_ (by rfl)) <;> (repeat' (first | (exact eqA) | (refine And.intro ?_ ?_) | ((fail_if_success (with_reducible (show _ = _))); (show _ = _)))) <;> rfl
theorem zag (kk hh aa : Nat) (mk mn ma ci : Int) (cn cv tx : Bs) (h1 : hh ≤ 1000) (h2 : aa ≤ 1000) (n3 : Nat) (h3 : n3 ≤ 1000) :
 ∃ s : Bs, s.length ≤ 200 ∧ CT Tryd.prog 23 [] [.agg [.int .i64 (1 : Int), .int .i64 (hh : Int), .int .i64 (aa : Int), .int .i64 ((7 : Nat) : Int), .int .i64 mn, .int .i64 (n3 : Int), .int .i64 ci, .str cn, .str cv, .str tx]] (.str s) [] := by
 have d1 := z0i hh (by omega)
 have d2 := z0i aa (by omega)
 have l1 := z0k hh h1
 have l2 := z0k aa h2
 generalize decM hh = dh at *
 generalize decM aa = da at *
 have hj : 7 < 11 := by decide
 have gw := z1B 7 hj
 have lw := z15 7 hj
 have jl : 7 < (strE mvW).length := hj
 generalize mvW.getD 7 [] = w at *
 have d3 := z0i n3 (by omega)
 have l3 := z0k n3 h3
 generalize decM n3 = e3 at *
 refine ⟨((w ++ ([32] ++ dh)) ++ [32]) ++ e3, by simp only [List.length_append, List.length_cons, List.length_nil]; omega, ?_⟩
 refine z0d z0f 1 rfl Tryd.func23 rfl rfl rfl ?_
 conv => arg 6; whnf
 repeat ((try conv => whnf); first | (with_reducible first | refine z08 (fun Qs hN hE hR => ?_) | refine z06 ?_ | refine z00 (fun Qb kN kE kX kR => ?_) | refine z02 ?_ | refine z03 ?_ | refine z07 ?_ | refine z04 ?_ | refine z05 ?_ | (show W _ _ _ (.cond _ _ _) _ _; refine z01 rfl ?_) | (refine hN _ ?_; try clear hN hE hR Qs) | ((first | refine hE _ _ ?_ | refine hR _ ?_); try clear hN hE hR Qs) | ((first | refine kN _ ?_ | refine kE _ ?_ | refine kX _ _ rfl ?_ | refine kR _ ?_); try clear kN kE kX kR Qb)) | (refine ccA ([]) (d1) ?_) | (refine ccA ([]) (d2) ?_) | (refine ccA ([]) (d3) ?_) | (refine And.intro jl ?_) | (refine Exists.intro _ (And.intro gw ?_)) | (refine And.intro (by simp only [List.length_append, List.length_cons, List.length_nil]; omega) ?_) | (refine And.intro (by kernel_rfl) ?_) | (refine stpQ ?_))
 (refine z09 (by rfl) ?_ ?_ (by rfl)) <;> (repeat' (first | (exact eqA) | (refine And.intro ?_ ?_) | ((fail_if_success (with_reducible (show _ = _))); (show _ = _)))) <;> rfl
theorem zah (kk hh aa : Nat) (mk mn ma ci : Int) (cn cv tx : Bs) (h1 : hh ≤ 1000) (h2 : aa ≤ 1000) (n3 : Nat) (h3 : n3 ≤ 1000) :
 ∃ s : Bs, s.length ≤ 200 ∧ CT Tryd.prog 23 [] [.agg [.int .i64 (1 : Int), .int .i64 (hh : Int), .int .i64 (aa : Int), .int .i64 ((8 : Nat) : Int), .int .i64 mn, .int .i64 (n3 : Int), .int .i64 ci, .str cn, .str cv, .str tx]] (.str s) [] := by
 have d1 := z0i hh (by omega)
 have d2 := z0i aa (by omega)
 have l1 := z0k hh h1
 have l2 := z0k aa h2
 generalize decM hh = dh at *
 generalize decM aa = da at *
 have hj : 8 < 11 := by decide
 have gw := z1B 8 hj
 have lw := z15 8 hj
 have jl : 8 < (strE mvW).length := hj
 generalize mvW.getD 8 [] = w at *
 have d3 := z0i n3 (by omega)
 have l3 := z0k n3 h3
 generalize decM n3 = e3 at *
 refine ⟨((w ++ ([32] ++ dh)) ++ [32]) ++ e3, by simp only [List.length_append, List.length_cons, List.length_nil]; omega, ?_⟩
 refine z0d z0f 1 rfl Tryd.func23 rfl rfl rfl ?_
 conv => arg 6; whnf
 repeat ((try conv => whnf); first | (with_reducible first | refine z08 (fun Qs hN hE hR => ?_) | refine z06 ?_ | refine z00 (fun Qb kN kE kX kR => ?_) | refine z02 ?_ | refine z03 ?_ | refine z07 ?_ | refine z04 ?_ | refine z05 ?_ | (show W _ _ _ (.cond _ _ _) _ _; refine z01 rfl ?_) | (refine hN _ ?_; try clear hN hE hR Qs) | ((first | refine hE _ _ ?_ | refine hR _ ?_); try clear hN hE hR Qs) | ((first | refine kN _ ?_ | refine kE _ ?_ | refine kX _ _ rfl ?_ | refine kR _ ?_); try clear kN kE kX kR Qb)) | (refine ccA ([]) (d1) ?_) | (refine ccA ([]) (d2) ?_) | (refine ccA ([]) (d3) ?_) | (refine And.intro jl ?_) | (refine Exists.intro _ (And.intro gw ?_)) | (refine And.intro (by simp only [List.length_append, List.length_cons, List.length_nil]; omega) ?_) | (refine And.intro (by kernel_rfl) ?_) | (refine stpQ ?_))
 (refine z09 (by rfl) ?_ ?_ (by rfl)) <;> (repeat' (first | (exact eqA) | (refine And.intro ?_ ?_) | ((fail_if_success (with_reducible (show _ = _))); (show _ = _)))) <;> rfl
theorem zbY (kk hh aa : Nat) (mk mn ma ci : Int) (cn cv tx : Bs) (h1 : hh ≤ 1000) (h2 : aa ≤ 1000) (n3 n4 : Nat) (h3 : n3 ≤ 1000) (h4 : n4 ≤ 1000) :
 ∃ s : Bs, s.length ≤ 200 ∧ CT Tryd.prog 23 [] [.agg [.int .i64 (1 : Int), .int .i64 (hh : Int), .int .i64 (aa : Int), .int .i64 ((9 : Nat) : Int), .int .i64 (n3 : Int), .int .i64 (n4 : Int), .int .i64 ci, .str cn, .str cv, .str tx]] (.str s) [] := by
 have d1 := z0i hh (by omega)
 have d2 := z0i aa (by omega)
 have l1 := z0k hh h1
 have l2 := z0k aa h2
 generalize decM hh = dh at *
 generalize decM aa = da at *
 have hj : 9 < 11 := by decide
 have gw := z1B 9 hj
 have lw := z15 9 hj
 have jl : 9 < (strE mvW).length := hj
 generalize mvW.getD 9 [] = w at *
 have d3 := z0i n3 (by omega)
 have l3 := z0k n3 h3
 generalize decM n3 = e3 at *
 have d4 := z0i n4 (by omega)
 have l4 := z0k n4 h4
 generalize decM n4 = e4 at *
 refine ⟨((((w ++ ([32] ++ dh)) ++ [32]) ++ e3) ++ [32]) ++ e4, by simp only [List.length_append, List.length_cons, List.length_nil]; omega, ?_⟩
 refine z0d z0f 1 rfl Tryd.func23 rfl rfl rfl ?_
 conv => arg 6; whnf
 repeat ((try conv => whnf); first | (with_reducible first | refine z08 (fun Qs hN hE hR => ?_) | refine z06 ?_ | refine z00 (fun Qb kN kE kX kR => ?_) | refine z02 ?_ | refine z03 ?_ | refine z07 ?_ | refine z04 ?_ | refine z05 ?_ | (show W _ _ _ (.cond _ _ _) _ _; refine z01 rfl ?_) | (refine hN _ ?_; try clear hN hE hR Qs) | ((first | refine hE _ _ ?_ | refine hR _ ?_); try clear hN hE hR Qs) | ((first | refine kN _ ?_ | refine kE _ ?_ | refine kX _ _ rfl ?_ | refine kR _ ?_); try clear kN kE kX kR Qb)) | (refine ccA ([]) (d1) ?_) | (refine ccA ([]) (d2) ?_) | (refine ccA ([]) (d3) ?_) | (refine ccA ([]) (d4) ?_) | (refine And.intro jl ?_) | (refine Exists.intro _ (And.intro gw ?_)) | (refine And.intro (by simp only [List.length_append, List.length_cons, List.length_nil]; omega) ?_) | (refine And.intro (by kernel_rfl) ?_) | (refine stpQ ?_))
 (refine z09 (by rfl) ?_ ?_ (by rfl)) <;> (repeat' (first | (exact eqA) | (refine And.intro ?_ ?_) | ((fail_if_success (with_reducible (show _ = _))); (show _ = _)))) <;> rfl
theorem zbZ (kk hh aa : Nat) (mk mn ma ci : Int) (cn cv tx : Bs) (h1 : hh ≤ 1000) (h2 : aa ≤ 1000) (n3 : Nat) (h3 : n3 ≤ 1000) :
 ∃ s : Bs, s.length ≤ 200 ∧ CT Tryd.prog 23 [] [.agg [.int .i64 (1 : Int), .int .i64 (hh : Int), .int .i64 (aa : Int), .int .i64 ((10 : Nat) : Int), .int .i64 (n3 : Int), .int .i64 ma, .int .i64 ci, .str cn, .str cv, .str tx]] (.str s) [] := by
 have d1 := z0i hh (by omega)
 have d2 := z0i aa (by omega)
 have l1 := z0k hh h1
 have l2 := z0k aa h2
 generalize decM hh = dh at *
 generalize decM aa = da at *
 have hj : 10 < 11 := by decide
 have gw := z1B 10 hj
 have lw := z15 10 hj
 have jl : 10 < (strE mvW).length := hj
 generalize mvW.getD 10 [] = w at *
 have d3 := z0i n3 (by omega)
 have l3 := z0k n3 h3
 generalize decM n3 = e3 at *
 refine ⟨((w ++ ([32] ++ dh)) ++ [32]) ++ e3, by simp only [List.length_append, List.length_cons, List.length_nil]; omega, ?_⟩
 refine z0d z0f 1 rfl Tryd.func23 rfl rfl rfl ?_
 conv => arg 6; whnf
 repeat ((try conv => whnf); first | (with_reducible first | refine z08 (fun Qs hN hE hR => ?_) | refine z06 ?_ | refine z00 (fun Qb kN kE kX kR => ?_) | refine z02 ?_ | refine z03 ?_ | refine z07 ?_ | refine z04 ?_ | refine z05 ?_ | (show W _ _ _ (.cond _ _ _) _ _; refine z01 rfl ?_) | (refine hN _ ?_; try clear hN hE hR Qs) | ((first | refine hE _ _ ?_ | refine hR _ ?_); try clear hN hE hR Qs) | ((first | refine kN _ ?_ | refine kE _ ?_ | refine kX _ _ rfl ?_ | refine kR _ ?_); try clear kN kE kX kR Qb)) | (refine ccA ([]) (d1) ?_) | (refine ccA ([]) (d2) ?_) | (refine ccA ([]) (d3) ?_) | (refine And.intro jl ?_) | (refine Exists.intro _ (And.intro gw ?_)) | (refine And.intro (by simp only [List.length_append, List.length_cons, List.length_nil]; omega) ?_) | (refine And.intro (by kernel_rfl) ?_) | (refine stpQ ?_))
 (refine z09 (by rfl) ?_ ?_ (by rfl)) <;> (repeat' (first | (exact eqA) | (refine And.intro ?_ ?_) | ((fail_if_success (with_reducible (show _ = _))); (show _ = _)))) <;> rfl
theorem zc0 (kk hh aa : Nat) (mk mn ma ci : Int) (cn cv tx : Bs) (h1 : hh ≤ 1000) (h2 : aa ≤ 1000) (j : Nat) (hj : j < 11) (hq : j = 0 ∨ j = 2 ∨ j = 3 ∨ j = 4) :
 ∃ s : Bs, s.length ≤ 200 ∧ CT Tryd.prog 23 [] [.agg [.int .i64 (1 : Int), .int .i64 (hh : Int), .int .i64 (aa : Int), .int .i64 ((j : Nat) : Int), .int .i64 mn, .int .i64 ma, .int .i64 ci, .str cn, .str cv, .str tx]] (.str s) [] := by
 have d1 := z0i hh (by omega)
 have d2 := z0i aa (by omega)
 have l1 := z0k hh h1
 have l2 := z0k aa h2
 generalize decM hh = dh at *
 generalize decM aa = da at *
 have gw := z1B j hj
 have lw := z15 j hj
 have jl : j < (strE mvW).length := hj
 generalize mvW.getD j [] = w at *
 have n1 : ¬ ((j : Nat) : Int) = 1 := by omega
 have n5 : ¬ ((j : Nat) : Int) = 5 := by omega
 have n6 : ¬ ((j : Nat) : Int) = 6 := by omega
 have n7 : ¬ ((j : Nat) : Int) = 7 := by omega
 have n8 : ¬ ((j : Nat) : Int) = 8 := by omega
 have n9 : ¬ ((j : Nat) : Int) = 9 := by omega
 have n10 : ¬ ((j : Nat) : Int) = 10 := by omega
 clear hq
 refine ⟨w ++ ([32] ++ dh), by simp only [List.length_append, List.length_cons, List.length_nil]; omega, ?_⟩
 refine z0d z0f 1 rfl Tryd.func23 rfl rfl rfl ?_
 conv => arg 6; whnf
 repeat ((try conv => whnf); first | (with_reducible first | refine z08 (fun Qs hN hE hR => ?_) | refine z06 ?_ | refine z00 (fun Qb kN kE kX kR => ?_) | refine z02 ?_ | refine z03 ?_ | refine z07 ?_ | refine z04 ?_ | refine z05 ?_ | (show W _ _ _ (.cond _ _ _) _ _; refine z01 rfl ?_) | (refine hN _ ?_; try clear hN hE hR Qs) | ((first | refine hE _ _ ?_ | refine hR _ ?_); try clear hN hE hR Qs) | ((first | refine kN _ ?_ | refine kE _ ?_ | refine kX _ _ rfl ?_ | refine kR _ ?_); try clear kN kE kX kR Qb)) | (refine ccA ([]) (d1) ?_) | (refine ccA ([]) (d2) ?_) | (refine And.intro jl ?_) | (refine Exists.intro _ (And.intro gw ?_)) | (refine z0c n1 ?_) | (refine z0c n5 ?_) | (refine z0c n6 ?_) | (refine z0c n7 ?_) | (refine z0c n8 ?_) | (refine z0c n9 ?_) | (refine z0c n10 ?_) | (refine And.intro (by simp only [List.length_append, List.length_cons, List.length_nil]; omega) ?_) | (refine And.intro (by kernel_rfl) ?_) | (refine stpQ ?_))
 (refine z09 (by rfl) ?_ ?_ (by rfl)) <;> (repeat' (first | (exact eqA) | (refine And.intro ?_ ?_) | ((fail_if_success (with_reducible (show _ = _))); (show _ = _)))) <;> rfl
theorem z9e (e : Evt) (he : EvG e) : ∃ s : Bs, s.length ≤ 200 ∧ CT Tryd.prog 23 [] [.agg (evC e)] (.str s) [] := by
 obtain ⟨k, h, a, mk, mn, ma, ci, cn, cv, tx⟩ := e
 obtain ⟨⟨kk, hk, k1, k2⟩, ⟨hh, eh, h1⟩, ⟨aa, ea, h2⟩, ⟨⟨j, ej, hj⟩, ⟨n3, e3, h3⟩, ⟨n4, e4, h4⟩, ⟨n5, e5, h5⟩, h6, h7⟩, -⟩ := he
 simp only at hk eh ea ej e3 e4 e5 h6 h7
 subst hk eh ea ej e3 e4 e5
 unfold evC
 simp only
 obtain rfl | rfl | rfl | rfl | rfl | rfl | rfl | rfl : kk = 1 ∨ kk = 2 ∨ kk = 3 ∨ kk = 4 ∨ kk = 5 ∨ kk = 6 ∨ kk = 7 ∨ kk = 8 := by omega
 ·obtain rfl | rfl | rfl | rfl | rfl | rfl | rfl | hq : j = 1 ∨ j = 5 ∨ j = 6 ∨ j = 7 ∨ j = 8 ∨ j = 9 ∨ j = 10 ∨ (j = 0 ∨ j = 2 ∨ j = 3 ∨ j = 4) := by omega
  ·by_cases hv : cv = []
   ·exact zac 1 hh aa 1 n3 n4 n5 cn cv tx h1 h2 n5 h5 h6 h7 hv
   ·exact zad 1 hh aa 1 n3 n4 n5 cn cv tx h1 h2 n5 h5 h6 h7 hv
  ·exact zae 1 hh aa 5 n3 n4 n5 cn cv tx h1 h2 n4 h4
  ·exact zaf 1 hh aa 6 n3 n4 n5 cn cv tx h1 h2 n4 h4
  ·exact zag 1 hh aa 7 n3 n4 n5 cn cv tx h1 h2 n4 h4
  ·exact zah 1 hh aa 8 n3 n4 n5 cn cv tx h1 h2 n4 h4
  ·exact zbY 1 hh aa 9 n3 n4 n5 cn cv tx h1 h2 n3 n4 h3 h4
  ·exact zbZ 1 hh aa 10 n3 n4 n5 cn cv tx h1 h2 n3 h3
  ·exact zc0 1 hh aa j n3 n4 n5 cn cv tx h1 h2 j (by omega) hq
 ·exact zbR 2 hh aa j n3 n4 n5 cn cv tx h1 h2
 ·exact zbS 3 hh aa j n3 n4 n5 cn cv tx h1 h2
 ·exact zbT 4 hh aa j n3 n4 n5 cn cv tx h1 h2
 ·exact zbX 5 hh aa j n3 n4 n5 cn cv tx h1 h2
 ·exact zbW 6 hh aa j n3 n4 n5 cn cv tx h1 h2
 ·exact zbU 7 hh aa j n3 n4 n5 cn cv tx h1 h2
 ·exact zbV 8 hh aa j n3 n4 n5 cn cv tx h1 h2
end
end Go.Proofs.YtfgkjgfigjpkoaaDoor
