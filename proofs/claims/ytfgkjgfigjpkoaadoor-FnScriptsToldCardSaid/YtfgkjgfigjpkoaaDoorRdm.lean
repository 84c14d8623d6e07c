/- Functions by content: a move's line, read by the program. -/
import Derived.Test.YtfgkjgfigjpkoaaDoorNua
import Derived.Test.YtfgkjgfigjpkoaaDoorVQ
namespace Go.Proofs.YtfgkjgfigjpkoaaDoor
set_option maxRecDepth 100000
set_option maxHeartbeats 2000000
set_option linter.unusedVariables false
set_option linter.unusedSimpArgs false
set_option linter.unusedSectionVars false
open Go.RowKit Pl
theorem z0g {p : List Bs} {i : Nat} (h : i < p.length) : (strE p)[i]? = some [.str (pt p i)] := by rw [strE, List.getElem?_map, z0V h]; rfl
theorem z2q {j x : Nat} {w : Bs} (hj : j < 10) (hw : mvL.getD j [] = w) (h1 : 1 ≤ x) (h2 : x < j + 1) : ¬ mvW.getD x [] = w := by
 have h := z2I j hj (x - 1) (by omega)
 rw [← z1n (x - 1) (by omega), show x - 1 + 1 = x by omega, hw] at h
 exact h
section
attribute [local irreducible] z0t z0u z0C AnsP LeP W
theorem zbl (p : List Bs) (h0 : 0 < p.length) (hn : ∀ j, j < 10 → ¬ mvL.getD j [] = pt p 0) : CT Tryd.prog 43 [] [.sl 1 (strE p)] (.tup [.agg (evC {}), .bool false]) [] := by
 have g0 := z0g h0
 have hskip : ∀ x, 1 ≤ x → x < 11 → ¬ mvW.getD x [] = pt p 0 := fun x h1 h2 => by
  have h := hn (x - 1) (by omega)
  rw [← z1n (x - 1) (by omega), show x - 1 + 1 = x by omega] at h
  exact h
 clear hn h0
 generalize pt p 0 = w at *
 generalize strE p = z at *
 refine z0d z0f 1 rfl Tryd.func43 rfl rfl rfl ?_
 conv => arg 6; whnf
 repeat ((try conv => whnf); first | (with_reducible first | refine z08 (fun Qs hN hE hR => ?_) | refine z06 ?_ | refine z00 (fun Qb kN kE kX kR => ?_) | refine z02 ?_ | refine z03 ?_ | refine z07 ?_ | refine z04 ?_ | refine z05 ?_ | (show W _ _ _ (.cond _ _ _) _ _; refine z01 rfl ?_) | (refine hN _ ?_; try clear hN hE hR Qs) | ((first | refine hE _ _ ?_ | refine hR _ ?_); try clear hN hE hR Qs) | ((first | refine kN _ ?_ | refine kE _ ?_ | refine kX _ _ rfl ?_ | refine kR _ ?_); try clear kN kE kX kR Qb)) | (refine stpQ ?_))
 refine z0p Nat (fun x => ⟨[(0, .sl 1 z), (2, .ptr 1 0 0), (4, .ptr 2 0 0), (5, .int .i64 (x : Int))], [(1, some (.box zEv)), (2, some (.box [.sl 1 z, .bool false]))], 3⟩) (fun x => 1 ≤ x ∧ x ≤ 11) (fun x => 11 + 1 - x) 1 (by omega) ?_ ?_
 ·(refine z0a (by rfl) ?_ ?_) <;> (repeat' (first | (exact eqA) | (refine And.intro ?_ ?_) | ((fail_if_success (with_reducible (show _ = _))); (show _ = _)))) <;> first | rfl | decide
 ·intro Q1 hQ1 x hx
  obtain ⟨hx1, hx2⟩ := hx
  by_cases hxj : x < 11
  ·have f1 : (x : Int) ≤ 10 := by omega
   have i1 : x < 11 := by omega
   have gx := z14 x i1
   have hne := hskip x hx1 hxj
   clear hskip
   repeat ((try conv => whnf); first | (with_reducible first | refine z08 (fun Qs hN hE hR => ?_) | refine z06 ?_ | refine z00 (fun Qb kN kE kX kR => ?_) | refine z02 ?_ | refine z03 ?_ | refine z07 ?_ | refine z04 ?_ | refine z05 ?_ | (show W _ _ _ (.cond _ _ _) _ _; refine z01 rfl ?_) | (refine hN _ ?_; try clear hN hE hR Qs) | ((first | refine hE _ _ ?_ | refine hR _ ?_); try clear hN hE hR Qs) | ((first | refine kN _ ?_ | refine kE _ ?_ | refine kX _ _ rfl ?_ | refine kR _ ?_); try clear kN kE kX kR Qb)) | (refine z0b f1 ?_) | (refine i_lt i1 ?_) | (refine Exists.intro _ (And.intro gx ?_)) | (refine i_at g0 ?_) | (refine And.intro (by kernel_rfl) ?_) | (refine z0r hne ?_) | (refine stpQ ?_))
   refine ⟨x + 1, by omega, by omega, ?_⟩
   (refine z0a (by rfl) ?_ ?_) <;> (repeat' (first | (exact eqA) | (refine And.intro ?_ ?_) | ((fail_if_success (with_reducible (show _ = _))); (show _ = _))))
  ·obtain rfl : x = 11 := by omega
   have f1 : ¬ ((11 : Nat) : Int) ≤ 10 := by omega
   clear hskip
   repeat ((try conv => whnf); first | (with_reducible first | refine z08 (fun Qs hN hE hR => ?_) | refine z06 ?_ | refine z00 (fun Qb kN kE kX kR => ?_) | refine z02 ?_ | refine z03 ?_ | refine z07 ?_ | refine z04 ?_ | refine z05 ?_ | (show W _ _ _ (.cond _ _ _) _ _; refine z01 rfl ?_) | (refine hN _ ?_; try clear hN hE hR Qs) | ((first | refine hE _ _ ?_ | refine hR _ ?_); try clear hN hE hR Qs) | ((first | refine kN _ ?_ | refine kE _ ?_ | refine kX _ _ rfl ?_ | refine kR _ ?_); try clear kN kE kX kR Qb)) | (refine z0c f1 ?_) | (refine stpQ ?_))
   refine hQ1 _ _ ?_
   clear hQ1 Q1
   repeat ((try conv => whnf); first | (with_reducible first | refine z08 (fun Qs hN hE hR => ?_) | refine z06 ?_ | refine z00 (fun Qb kN kE kX kR => ?_) | refine z02 ?_ | refine z03 ?_ | refine z07 ?_ | refine z04 ?_ | refine z05 ?_ | (show W _ _ _ (.cond _ _ _) _ _; refine z01 rfl ?_) | (refine hN _ ?_; try clear hN hE hR Qs) | ((first | refine hE _ _ ?_ | refine hR _ ?_); try clear hN hE hR Qs) | ((first | refine kN _ ?_ | refine kE _ ?_ | refine kX _ _ rfl ?_ | refine kR _ ?_); try clear kN kE kX kR Qb)) | (refine stpQ ?_))
   (refine z09 (by rfl) ?_ ?_ (by rfl)) <;> (repeat' (first | (exact eqA) | (refine And.intro ?_ ?_) | ((fail_if_success (with_reducible (show _ = _))); (show _ = _))))
theorem z9Z (p : List Bs) (j : Nat) (hj : j < 10) (h0 : 0 < p.length) (hw : mvL.getD j [] = pt p 0) (hl : ¬ p.length = mvN j) : CT Tryd.prog 43 [] [.sl 1 (strE p)] (.tup [.agg (evC {}), .bool false]) [] := by
 have g0 := z0g h0
 have hskip : ∀ x, 1 ≤ x → x < j + 1 → ¬ mvW.getD x [] = pt p 0 := fun x h1 h2 => z2q hj hw h1 h2
 have he : mvW.getD (j + 1) [] = pt p 0 := by rw [z1n j hj, hw]
 have hcl : (strE p).length = p.length := z0h _
 generalize pt p 0 = w at *
 generalize strE p = z at *
 refine z0d z0f 1 rfl Tryd.func43 rfl rfl rfl ?_
 conv => arg 6; whnf
 repeat ((try conv => whnf); first | (with_reducible first | refine z08 (fun Qs hN hE hR => ?_) | refine z06 ?_ | refine z00 (fun Qb kN kE kX kR => ?_) | refine z02 ?_ | refine z03 ?_ | refine z07 ?_ | refine z04 ?_ | refine z05 ?_ | (show W _ _ _ (.cond _ _ _) _ _; refine z01 rfl ?_) | (refine hN _ ?_; try clear hN hE hR Qs) | ((first | refine hE _ _ ?_ | refine hR _ ?_); try clear hN hE hR Qs) | ((first | refine kN _ ?_ | refine kE _ ?_ | refine kX _ _ rfl ?_ | refine kR _ ?_); try clear kN kE kX kR Qb)) | (refine stpQ ?_))
 refine z0p Nat (fun x => ⟨[(0, .sl 1 z), (2, .ptr 1 0 0), (4, .ptr 2 0 0), (5, .int .i64 (x : Int))], [(1, some (.box zEv)), (2, some (.box [.sl 1 z, .bool false]))], 3⟩) (fun x => 1 ≤ x ∧ x ≤ j + 1) (fun x => j + 1 + 1 - x) 1 (by omega) ?_ ?_
 ·(refine z0a (by rfl) ?_ ?_) <;> (repeat' (first | (exact eqA) | (refine And.intro ?_ ?_) | ((fail_if_success (with_reducible (show _ = _))); (show _ = _)))) <;> first | rfl | decide
 ·intro Q1 hQ1 x hx
  obtain ⟨hx1, hx2⟩ := hx
  by_cases hxj : x < j + 1
  ·have f1 : (x : Int) ≤ 10 := by omega
   have i1 : x < 11 := by omega
   have gx := z14 x i1
   have hne := hskip x hx1 hxj
   clear hskip
   repeat ((try conv => whnf); first | (with_reducible first | refine z08 (fun Qs hN hE hR => ?_) | refine z06 ?_ | refine z00 (fun Qb kN kE kX kR => ?_) | refine z02 ?_ | refine z03 ?_ | refine z07 ?_ | refine z04 ?_ | refine z05 ?_ | (show W _ _ _ (.cond _ _ _) _ _; refine z01 rfl ?_) | (refine hN _ ?_; try clear hN hE hR Qs) | ((first | refine hE _ _ ?_ | refine hR _ ?_); try clear hN hE hR Qs) | ((first | refine kN _ ?_ | refine kE _ ?_ | refine kX _ _ rfl ?_ | refine kR _ ?_); try clear kN kE kX kR Qb)) | (refine z0b f1 ?_) | (refine i_lt i1 ?_) | (refine Exists.intro _ (And.intro gx ?_)) | (refine i_at g0 ?_) | (refine And.intro (by kernel_rfl) ?_) | (refine z0r hne ?_) | (refine stpQ ?_))
   refine ⟨x + 1, by omega, by omega, ?_⟩
   (refine z0a (by rfl) ?_ ?_) <;> (repeat' (first | (exact eqA) | (refine And.intro ?_ ?_) | ((fail_if_success (with_reducible (show _ = _))); (show _ = _))))
  ·obtain rfl : x = j + 1 := by omega
   have f1 : ((j + 1 : Nat) : Int) ≤ 10 := by omega
   have i1 : j + 1 < 11 := by omega
   have gx := z14 (j + 1) i1
   clear hskip hxj hx1 hx2
   by_cases k0 : j = 0
   ·subst k0
    have hn : ¬ (z.length : Int) = 5 := by rw [hcl]; unfold mvN at hl; intro c; apply hl; rw [if_pos rfl]; omega
    repeat ((try conv => whnf); first | (with_reducible first | refine z08 (fun Qs hN hE hR => ?_) | refine z06 ?_ | refine z00 (fun Qb kN kE kX kR => ?_) | refine z02 ?_ | refine z03 ?_ | refine z07 ?_ | refine z04 ?_ | refine z05 ?_ | (show W _ _ _ (.cond _ _ _) _ _; refine z01 rfl ?_) | (refine hN _ ?_; try clear hN hE hR Qs) | ((first | refine hE _ _ ?_ | refine hR _ ?_); try clear hN hE hR Qs) | ((first | refine kN _ ?_ | refine kE _ ?_ | refine kX _ _ rfl ?_ | refine kR _ ?_); try clear kN kE kX kR Qb)) | (refine z0b f1 ?_) | (refine i_lt i1 ?_) | (refine Exists.intro _ (And.intro gx ?_)) | (refine i_at g0 ?_) | (refine And.intro (by kernel_rfl) ?_) | (refine z0j he ?_) | (refine z0r hn ?_) | (refine stpQ ?_))
    refine hQ1 _ _ ?_
    clear hQ1 Q1
    repeat ((try conv => whnf); first | (with_reducible first | refine z08 (fun Qs hN hE hR => ?_) | refine z06 ?_ | refine z00 (fun Qb kN kE kX kR => ?_) | refine z02 ?_ | refine z03 ?_ | refine z07 ?_ | refine z04 ?_ | refine z05 ?_ | (show W _ _ _ (.cond _ _ _) _ _; refine z01 rfl ?_) | (refine hN _ ?_; try clear hN hE hR Qs) | ((first | refine hE _ _ ?_ | refine hR _ ?_); try clear hN hE hR Qs) | ((first | refine kN _ ?_ | refine kE _ ?_ | refine kX _ _ rfl ?_ | refine kR _ ?_); try clear kN kE kX kR Qb)) | (refine stpQ ?_))
    (refine z09 (by rfl) ?_ ?_ (by rfl)) <;> (repeat' (first | (exact eqA) | (refine And.intro ?_ ?_) | ((fail_if_success (with_reducible (show _ = _))); (show _ = _))))
   by_cases k1 : j = 1
   ·subst k1
    have hn : ¬ (z.length : Int) = 2 := by rw [hcl]; unfold mvN at hl; intro c; apply hl; rw [if_neg (by decide), if_pos (by decide)]; omega
    repeat ((try conv => whnf); first | (with_reducible first | refine z08 (fun Qs hN hE hR => ?_) | refine z06 ?_ | refine z00 (fun Qb kN kE kX kR => ?_) | refine z02 ?_ | refine z03 ?_ | refine z07 ?_ | refine z04 ?_ | refine z05 ?_ | (show W _ _ _ (.cond _ _ _) _ _; refine z01 rfl ?_) | (refine hN _ ?_; try clear hN hE hR Qs) | ((first | refine hE _ _ ?_ | refine hR _ ?_); try clear hN hE hR Qs) | ((first | refine kN _ ?_ | refine kE _ ?_ | refine kX _ _ rfl ?_ | refine kR _ ?_); try clear kN kE kX kR Qb)) | (refine z0b f1 ?_) | (refine i_lt i1 ?_) | (refine Exists.intro _ (And.intro gx ?_)) | (refine i_at g0 ?_) | (refine And.intro (by kernel_rfl) ?_) | (refine z0j he ?_) | (refine z0r hn ?_) | (refine stpQ ?_))
    refine hQ1 _ _ ?_
    clear hQ1 Q1
    repeat ((try conv => whnf); first | (with_reducible first | refine z08 (fun Qs hN hE hR => ?_) | refine z06 ?_ | refine z00 (fun Qb kN kE kX kR => ?_) | refine z02 ?_ | refine z03 ?_ | refine z07 ?_ | refine z04 ?_ | refine z05 ?_ | (show W _ _ _ (.cond _ _ _) _ _; refine z01 rfl ?_) | (refine hN _ ?_; try clear hN hE hR Qs) | ((first | refine hE _ _ ?_ | refine hR _ ?_); try clear hN hE hR Qs) | ((first | refine kN _ ?_ | refine kE _ ?_ | refine kX _ _ rfl ?_ | refine kR _ ?_); try clear kN kE kX kR Qb)) | (refine stpQ ?_))
    (refine z09 (by rfl) ?_ ?_ (by rfl)) <;> (repeat' (first | (exact eqA) | (refine And.intro ?_ ?_) | ((fail_if_success (with_reducible (show _ = _))); (show _ = _))))
   by_cases k2 : j = 2
   ·subst k2
    have hn : ¬ (z.length : Int) = 2 := by rw [hcl]; unfold mvN at hl; intro c; apply hl; rw [if_neg (by decide), if_pos (by decide)]; omega
    repeat ((try conv => whnf); first | (with_reducible first | refine z08 (fun Qs hN hE hR => ?_) | refine z06 ?_ | refine z00 (fun Qb kN kE kX kR => ?_) | refine z02 ?_ | refine z03 ?_ | refine z07 ?_ | refine z04 ?_ | refine z05 ?_ | (show W _ _ _ (.cond _ _ _) _ _; refine z01 rfl ?_) | (refine hN _ ?_; try clear hN hE hR Qs) | ((first | refine hE _ _ ?_ | refine hR _ ?_); try clear hN hE hR Qs) | ((first | refine kN _ ?_ | refine kE _ ?_ | refine kX _ _ rfl ?_ | refine kR _ ?_); try clear kN kE kX kR Qb)) | (refine z0b f1 ?_) | (refine i_lt i1 ?_) | (refine Exists.intro _ (And.intro gx ?_)) | (refine i_at g0 ?_) | (refine And.intro (by kernel_rfl) ?_) | (refine z0j he ?_) | (refine z0r hn ?_) | (refine stpQ ?_))
    refine hQ1 _ _ ?_
    clear hQ1 Q1
    repeat ((try conv => whnf); first | (with_reducible first | refine z08 (fun Qs hN hE hR => ?_) | refine z06 ?_ | refine z00 (fun Qb kN kE kX kR => ?_) | refine z02 ?_ | refine z03 ?_ | refine z07 ?_ | refine z04 ?_ | refine z05 ?_ | (show W _ _ _ (.cond _ _ _) _ _; refine z01 rfl ?_) | (refine hN _ ?_; try clear hN hE hR Qs) | ((first | refine hE _ _ ?_ | refine hR _ ?_); try clear hN hE hR Qs) | ((first | refine kN _ ?_ | refine kE _ ?_ | refine kX _ _ rfl ?_ | refine kR _ ?_); try clear kN kE kX kR Qb)) | (refine stpQ ?_))
    (refine z09 (by rfl) ?_ ?_ (by rfl)) <;> (repeat' (first | (exact eqA) | (refine And.intro ?_ ?_) | ((fail_if_success (with_reducible (show _ = _))); (show _ = _))))
   by_cases k3 : j = 3
   ·subst k3
    have hn : ¬ (z.length : Int) = 2 := by rw [hcl]; unfold mvN at hl; intro c; apply hl; rw [if_neg (by decide), if_pos (by decide)]; omega
    repeat ((try conv => whnf); first | (with_reducible first | refine z08 (fun Qs hN hE hR => ?_) | refine z06 ?_ | refine z00 (fun Qb kN kE kX kR => ?_) | refine z02 ?_ | refine z03 ?_ | refine z07 ?_ | refine z04 ?_ | refine z05 ?_ | (show W _ _ _ (.cond _ _ _) _ _; refine z01 rfl ?_) | (refine hN _ ?_; try clear hN hE hR Qs) | ((first | refine hE _ _ ?_ | refine hR _ ?_); try clear hN hE hR Qs) | ((first | refine kN _ ?_ | refine kE _ ?_ | refine kX _ _ rfl ?_ | refine kR _ ?_); try clear kN kE kX kR Qb)) | (refine z0b f1 ?_) | (refine i_lt i1 ?_) | (refine Exists.intro _ (And.intro gx ?_)) | (refine i_at g0 ?_) | (refine And.intro (by kernel_rfl) ?_) | (refine z0j he ?_) | (refine z0r hn ?_) | (refine stpQ ?_))
    refine hQ1 _ _ ?_
    clear hQ1 Q1
    repeat ((try conv => whnf); first | (with_reducible first | refine z08 (fun Qs hN hE hR => ?_) | refine z06 ?_ | refine z00 (fun Qb kN kE kX kR => ?_) | refine z02 ?_ | refine z03 ?_ | refine z07 ?_ | refine z04 ?_ | refine z05 ?_ | (show W _ _ _ (.cond _ _ _) _ _; refine z01 rfl ?_) | (refine hN _ ?_; try clear hN hE hR Qs) | ((first | refine hE _ _ ?_ | refine hR _ ?_); try clear hN hE hR Qs) | ((first | refine kN _ ?_ | refine kE _ ?_ | refine kX _ _ rfl ?_ | refine kR _ ?_); try clear kN kE kX kR Qb)) | (refine stpQ ?_))
    (refine z09 (by rfl) ?_ ?_ (by rfl)) <;> (repeat' (first | (exact eqA) | (refine And.intro ?_ ?_) | ((fail_if_success (with_reducible (show _ = _))); (show _ = _))))
   by_cases k8 : j = 8
   ·subst k8
    have hn : ¬ (z.length : Int) = 4 := by rw [hcl]; unfold mvN at hl; intro c; apply hl; rw [if_neg (by decide), if_neg (by decide), if_pos rfl]; omega
    repeat ((try conv => whnf); first | (with_reducible first | refine z08 (fun Qs hN hE hR => ?_) | refine z06 ?_ | refine z00 (fun Qb kN kE kX kR => ?_) | refine z02 ?_ | refine z03 ?_ | refine z07 ?_ | refine z04 ?_ | refine z05 ?_ | (show W _ _ _ (.cond _ _ _) _ _; refine z01 rfl ?_) | (refine hN _ ?_; try clear hN hE hR Qs) | ((first | refine hE _ _ ?_ | refine hR _ ?_); try clear hN hE hR Qs) | ((first | refine kN _ ?_ | refine kE _ ?_ | refine kX _ _ rfl ?_ | refine kR _ ?_); try clear kN kE kX kR Qb)) | (refine z0b f1 ?_) | (refine i_lt i1 ?_) | (refine Exists.intro _ (And.intro gx ?_)) | (refine i_at g0 ?_) | (refine And.intro (by kernel_rfl) ?_) | (refine z0j he ?_) | (refine z0r hn ?_) | (refine stpQ ?_))
    refine hQ1 _ _ ?_
    clear hQ1 Q1
    repeat ((try conv => whnf); first | (with_reducible first | refine z08 (fun Qs hN hE hR => ?_) | refine z06 ?_ | refine z00 (fun Qb kN kE kX kR => ?_) | refine z02 ?_ | refine z03 ?_ | refine z07 ?_ | refine z04 ?_ | refine z05 ?_ | (show W _ _ _ (.cond _ _ _) _ _; refine z01 rfl ?_) | (refine hN _ ?_; try clear hN hE hR Qs) | ((first | refine hE _ _ ?_ | refine hR _ ?_); try clear hN hE hR Qs) | ((first | refine kN _ ?_ | refine kE _ ?_ | refine kX _ _ rfl ?_ | refine kR _ ?_); try clear kN kE kX kR Qb)) | (refine stpQ ?_))
    (refine z09 (by rfl) ?_ ?_ (by rfl)) <;> (repeat' (first | (exact eqA) | (refine And.intro ?_ ?_) | ((fail_if_success (with_reducible (show _ = _))); (show _ = _))))
   have hn : ¬ (z.length : Int) = 3 := by rw [hcl]; unfold mvN at hl; intro c; apply hl; rw [if_neg k0, if_neg (by omega), if_neg k8]; omega
   repeat ((try conv => whnf); first | (with_reducible first | refine z08 (fun Qs hN hE hR => ?_) | refine z06 ?_ | refine z00 (fun Qb kN kE kX kR => ?_) | refine z02 ?_ | refine z03 ?_ | refine z07 ?_ | refine z04 ?_ | refine z05 ?_ | (show W _ _ _ (.cond _ _ _) _ _; refine z01 rfl ?_) | (refine hN _ ?_; try clear hN hE hR Qs) | ((first | refine hE _ _ ?_ | refine hR _ ?_); try clear hN hE hR Qs) | ((first | refine kN _ ?_ | refine kE _ ?_ | refine kX _ _ rfl ?_ | refine kR _ ?_); try clear kN kE kX kR Qb)) | (refine z0b f1 ?_) | (refine i_lt i1 ?_) | (refine Exists.intro _ (And.intro gx ?_)) | (refine i_at g0 ?_) | (refine And.intro (by kernel_rfl) ?_) | (refine z0j he ?_) | (refine z0r hn ?_) | (refine stpQ ?_))
   refine hQ1 _ _ ?_
   clear hQ1 Q1
   repeat ((try conv => whnf); first | (with_reducible first | refine z08 (fun Qs hN hE hR => ?_) | refine z06 ?_ | refine z00 (fun Qb kN kE kX kR => ?_) | refine z02 ?_ | refine z03 ?_ | refine z07 ?_ | refine z04 ?_ | refine z05 ?_ | (show W _ _ _ (.cond _ _ _) _ _; refine z01 rfl ?_) | (refine hN _ ?_; try clear hN hE hR Qs) | ((first | refine hE _ _ ?_ | refine hR _ ?_); try clear hN hE hR Qs) | ((first | refine kN _ ?_ | refine kE _ ?_ | refine kX _ _ rfl ?_ | refine kR _ ?_); try clear kN kE kX kR Qb)) | (refine stpQ ?_))
   (refine z09 (by rfl) ?_ ?_ (by rfl)) <;> (repeat' (first | (exact eqA) | (refine And.intro ?_ ?_) | ((fail_if_success (with_reducible (show _ = _))); (show _ = _))))
theorem za0 (p : List Bs) (j : Nat) (hj : 4 ≤ j ∧ j ≤ 7) (hw : mvL.getD j [] = pt p 0) (hl : p.length = mvN j) (hb : (pt p 3).length ≤ 600 ∧ (pt p 4).length ≤ 600) :
 CT Tryd.prog 43 [] [.sl 1 (strE p)] (.tup [.agg (evC (mvE j p)), .bool (mvB j p && evOk (mvE j p))]) [] := by
 have hj10 : j < 10 := by omega
 have hl : p.length = 3 := hl.trans (by rw [mvN, if_neg (by omega), if_neg (by omega), if_neg (by omega)])
 have g0 := z0g (p := p) (i := 0) (by omega)
 have g1 := z0g (p := p) (i := 1) (by omega)
 have g2 := z0g (p := p) (i := 2) (by omega)
 have hcl : (strE p).length = 3 := by rw [z0h]; exact hl
 have n2 := z0G p 2 (pt p 2) (z0V (by omega)) (false)
 have n1 := z0G p 1 (pt p 1) (z0V (by omega)) (false || !isB (pt p 2))
 have hM : mvB j p = (isB (pt p 1) && isB (pt p 2)) := by simp [mvB, show j = 0 ∨ 4 ≤ j from .inr hj.1, show ¬ j = 8 by omega]
 have hE : mvE j p = { k := 1, h := decV (pt p 1), mk := ((j + 1 : Nat) : Int), ma := decV (pt p 2) } := by simp [mvE, show ¬ j = 0 by omega, show ¬ 8 ≤ j by omega, show ¬ j = 8 by omega, hj]
 rw [hM, hE]
 have ce := z0D { k := 1, h := decV (pt p 1), mk := ((j + 1 : Nat) : Int), ma := decV (pt p 2) } ⟨by simp, by simp⟩
 generalize hq : evOk { k := 1, h := decV (pt p 1), mk := ((j + 1 : Nat) : Int), ma := decV (pt p 2) } = q at ce ⊢
 clear hq hE hM hl
 generalize (decV (pt p 2) : Int) = v2 at *
 generalize isB (pt p 2) = b2 at *
 generalize (decV (pt p 1) : Int) = v1 at *
 generalize isB (pt p 1) = b1 at *
 have hskip : ∀ x, 1 ≤ x → x < j + 1 → ¬ mvW.getD x [] = pt p 0 := fun x h1 h2 => z2q hj10 hw h1 h2
 have he : mvW.getD (j + 1) [] = pt p 0 := by rw [z1n j hj10, hw]
 generalize pt p 0 = w at *
 generalize strE p = z at *
 clear hw hb
 refine z0d z0f 1 rfl Tryd.func43 rfl rfl rfl ?_
 conv => arg 6; whnf
 repeat ((try conv => whnf); first | (with_reducible first | refine z08 (fun Qs hN hE hR => ?_) | refine z06 ?_ | refine z00 (fun Qb kN kE kX kR => ?_) | refine z02 ?_ | refine z03 ?_ | refine z07 ?_ | refine z04 ?_ | refine z05 ?_ | (show W _ _ _ (.cond _ _ _) _ _; refine z01 rfl ?_) | (refine hN _ ?_; try clear hN hE hR Qs) | ((first | refine hE _ _ ?_ | refine hR _ ?_); try clear hN hE hR Qs) | ((first | refine kN _ ?_ | refine kE _ ?_ | refine kX _ _ rfl ?_ | refine kR _ ?_); try clear kN kE kX kR Qb)) | (refine stpQ ?_))
 refine z0p Nat (fun x => ⟨[(0, .sl 1 z), (2, .ptr 1 0 0), (4, .ptr 2 0 0), (5, .int .i64 (x : Int))], [(1, some (.box zEv)), (2, some (.box [.sl 1 z, .bool false]))], 3⟩) (fun x => 1 ≤ x ∧ x ≤ j + 1) (fun x => j + 1 + 1 - x) 1 (by omega) ?_ ?_
 ·(refine z0a (by rfl) ?_ ?_) <;> (repeat' (first | (exact eqA) | (refine And.intro ?_ ?_) | ((fail_if_success (with_reducible (show _ = _))); (show _ = _)))) <;> first | rfl | decide
 ·intro Q1 hQ1 x hx
  obtain ⟨hx1, hx2⟩ := hx
  by_cases hxj : x < j + 1
  ·have f1 : (x : Int) ≤ 10 := by omega
   have i1 : x < 11 := by omega
   have gx := z14 x i1
   have hne := hskip x hx1 hxj
   clear hskip
   repeat ((try conv => whnf); first | (with_reducible first | refine z08 (fun Qs hN hE hR => ?_) | refine z06 ?_ | refine z00 (fun Qb kN kE kX kR => ?_) | refine z02 ?_ | refine z03 ?_ | refine z07 ?_ | refine z04 ?_ | refine z05 ?_ | (show W _ _ _ (.cond _ _ _) _ _; refine z01 rfl ?_) | (refine hN _ ?_; try clear hN hE hR Qs) | ((first | refine hE _ _ ?_ | refine hR _ ?_); try clear hN hE hR Qs) | ((first | refine kN _ ?_ | refine kE _ ?_ | refine kX _ _ rfl ?_ | refine kR _ ?_); try clear kN kE kX kR Qb)) | (refine z0b f1 ?_) | (refine i_lt i1 ?_) | (refine Exists.intro _ (And.intro gx ?_)) | (refine i_at g0 ?_) | (refine And.intro (by kernel_rfl) ?_) | (refine z0r hne ?_) | (refine stpQ ?_))
   refine ⟨x + 1, by omega, by omega, ?_⟩
   (refine z0a (by rfl) ?_ ?_) <;> (repeat' (first | (exact eqA) | (refine And.intro ?_ ?_) | ((fail_if_success (with_reducible (show _ = _))); (show _ = _))))
  ·obtain rfl : x = j + 1 := by omega
   have f1 : ((j + 1 : Nat) : Int) ≤ 10 := by omega
   have i1 : j + 1 < 11 := by omega
   have gx := z14 (j + 1) i1
   have fn : (z.length : Int) = 3 := by omega
   clear hskip hxj hx1 hx2
   cases hall : (b1 && b2)
   ·have hB : (!((false || !b2) || !b1)) = false := by revert hall; cases b2 <;> cases b1 <;> decide
    repeat ((try conv => whnf); first | (with_reducible first | refine z08 (fun Qs hN hE hR => ?_) | refine z06 ?_ | refine z00 (fun Qb kN kE kX kR => ?_) | refine z02 ?_ | refine z03 ?_ | refine z07 ?_ | refine z04 ?_ | refine z05 ?_ | (show W _ _ _ (.cond _ _ _) _ _; refine z01 rfl ?_) | (refine hN _ ?_; try clear hN hE hR Qs) | ((first | refine hE _ _ ?_ | refine hR _ ?_); try clear hN hE hR Qs) | ((first | refine kN _ ?_ | refine kE _ ?_ | refine kX _ _ rfl ?_ | refine kR _ ?_); try clear kN kE kX kR Qb)) | (refine z0b f1 ?_) | (refine i_lt i1 ?_) | (refine Exists.intro _ (And.intro gx ?_)) | (refine i_at g0 ?_) | (refine And.intro (by kernel_rfl) ?_) | (refine z0j he ?_) | (refine z0j fn ?_) | (refine ccB ([2]) (n2) ?_) | (refine ccB ([2]) (n1) ?_) | (refine ccA ([]) (ce) ?_) | (refine cb_f hB ?_) | (refine stpQ ?_))
    refine hQ1 _ _ ?_
    clear hQ1 Q1
    repeat ((try conv => whnf); first | (with_reducible first | refine z08 (fun Qs hN hE hR => ?_) | refine z06 ?_ | refine z00 (fun Qb kN kE kX kR => ?_) | refine z02 ?_ | refine z03 ?_ | refine z07 ?_ | refine z04 ?_ | refine z05 ?_ | (show W _ _ _ (.cond _ _ _) _ _; refine z01 rfl ?_) | (refine hN _ ?_; try clear hN hE hR Qs) | ((first | refine hE _ _ ?_ | refine hR _ ?_); try clear hN hE hR Qs) | ((first | refine kN _ ?_ | refine kE _ ?_ | refine kX _ _ rfl ?_ | refine kR _ ?_); try clear kN kE kX kR Qb)) | (refine stpQ ?_))
    (refine z09 (by rfl) ?_ ?_ (by rfl)) <;> (repeat' (first | (exact eqA) | (refine And.intro ?_ ?_) | ((fail_if_success (with_reducible (show _ = _))); (show _ = _)))) <;> first | (rw [hall]; done) | (rw [hall]; rfl)
   ·have hB : (!((false || !b2) || !b1)) = true := by revert hall; cases b2 <;> cases b1 <;> decide
    repeat ((try conv => whnf); first | (with_reducible first | refine z08 (fun Qs hN hE hR => ?_) | refine z06 ?_ | refine z00 (fun Qb kN kE kX kR => ?_) | refine z02 ?_ | refine z03 ?_ | refine z07 ?_ | refine z04 ?_ | refine z05 ?_ | (show W _ _ _ (.cond _ _ _) _ _; refine z01 rfl ?_) | (refine hN _ ?_; try clear hN hE hR Qs) | ((first | refine hE _ _ ?_ | refine hR _ ?_); try clear hN hE hR Qs) | ((first | refine kN _ ?_ | refine kE _ ?_ | refine kX _ _ rfl ?_ | refine kR _ ?_); try clear kN kE kX kR Qb)) | (refine z0b f1 ?_) | (refine i_lt i1 ?_) | (refine Exists.intro _ (And.intro gx ?_)) | (refine i_at g0 ?_) | (refine And.intro (by kernel_rfl) ?_) | (refine z0j he ?_) | (refine z0j fn ?_) | (refine ccB ([2]) (n2) ?_) | (refine ccB ([2]) (n1) ?_) | (refine ccA ([]) (ce) ?_) | (refine cb_t hB ?_) | (refine stpQ ?_))
    refine hQ1 _ _ ?_
    clear hQ1 Q1
    repeat ((try conv => whnf); first | (with_reducible first | refine z08 (fun Qs hN hE hR => ?_) | refine z06 ?_ | refine z00 (fun Qb kN kE kX kR => ?_) | refine z02 ?_ | refine z03 ?_ | refine z07 ?_ | refine z04 ?_ | refine z05 ?_ | (show W _ _ _ (.cond _ _ _) _ _; refine z01 rfl ?_) | (refine hN _ ?_; try clear hN hE hR Qs) | ((first | refine hE _ _ ?_ | refine hR _ ?_); try clear hN hE hR Qs) | ((first | refine kN _ ?_ | refine kE _ ?_ | refine kX _ _ rfl ?_ | refine kR _ ?_); try clear kN kE kX kR Qb)) | (refine stpQ ?_))
    (refine z09 (by rfl) ?_ ?_ (by rfl)) <;> (repeat' (first | (exact eqA) | (refine And.intro ?_ ?_) | ((fail_if_success (with_reducible (show _ = _))); (show _ = _)))) <;> first | (rw [hall]; done) | (rw [hall]; rfl)
theorem zbm (p : List Bs) (j : Nat) (hj : j = 1) (hw : mvL.getD j [] = pt p 0) (hl : p.length = mvN j) (hb : (pt p 3).length ≤ 600 ∧ (pt p 4).length ≤ 600) :
 CT Tryd.prog 43 [] [.sl 1 (strE p)] (.tup [.agg (evC (mvE 1 p)), .bool (mvB j p && evOk (mvE 1 p))]) [] := by
 have hj10 : j < 10 := by omega
 subst hj
 have hl : p.length = 2 := hl.trans (by rfl)
 have g0 := z0g (p := p) (i := 0) (by omega)
 have g1 := z0g (p := p) (i := 1) (by omega)
 have hcl : (strE p).length = 2 := by rw [z0h]; exact hl
 have n1 := z0G p 1 (pt p 1) (z0V (by omega)) (false)
 have hM : mvB 1 p = (isB (pt p 1)) := by simp [mvB]
 have hE : mvE 1 p = { k := 1, h := decV (pt p 1), mk := ((1 + 1 : Nat) : Int) } := by simp [mvE]
 rw [hM, hE]
 have ce := z0D { k := 1, h := decV (pt p 1), mk := ((1 + 1 : Nat) : Int) } ⟨by simp, by simp⟩
 generalize hq : evOk { k := 1, h := decV (pt p 1), mk := ((1 + 1 : Nat) : Int) } = q at ce ⊢
 clear hq hE hM hl
 generalize (decV (pt p 1) : Int) = v1 at *
 generalize isB (pt p 1) = b1 at *
 have hskip : ∀ x, 1 ≤ x → x < 1 + 1 → ¬ mvW.getD x [] = pt p 0 := fun x h1 h2 => z2q hj10 hw h1 h2
 have he : mvW.getD (1 + 1) [] = pt p 0 := by rw [z1n 1 hj10, hw]
 generalize pt p 0 = w at *
 generalize strE p = z at *
 clear hw hb
 refine z0d z0f 1 rfl Tryd.func43 rfl rfl rfl ?_
 conv => arg 6; whnf
 repeat ((try conv => whnf); first | (with_reducible first | refine z08 (fun Qs hN hE hR => ?_) | refine z06 ?_ | refine z00 (fun Qb kN kE kX kR => ?_) | refine z02 ?_ | refine z03 ?_ | refine z07 ?_ | refine z04 ?_ | refine z05 ?_ | (show W _ _ _ (.cond _ _ _) _ _; refine z01 rfl ?_) | (refine hN _ ?_; try clear hN hE hR Qs) | ((first | refine hE _ _ ?_ | refine hR _ ?_); try clear hN hE hR Qs) | ((first | refine kN _ ?_ | refine kE _ ?_ | refine kX _ _ rfl ?_ | refine kR _ ?_); try clear kN kE kX kR Qb)) | (refine stpQ ?_))
 refine z0p Nat (fun x => ⟨[(0, .sl 1 z), (2, .ptr 1 0 0), (4, .ptr 2 0 0), (5, .int .i64 (x : Int))], [(1, some (.box zEv)), (2, some (.box [.sl 1 z, .bool false]))], 3⟩) (fun x => 1 ≤ x ∧ x ≤ 1 + 1) (fun x => 1 + 1 + 1 - x) 1 (by omega) ?_ ?_
 ·(refine z0a (by rfl) ?_ ?_) <;> (repeat' (first | (exact eqA) | (refine And.intro ?_ ?_) | ((fail_if_success (with_reducible (show _ = _))); (show _ = _)))) <;> first | rfl | decide
 ·intro Q1 hQ1 x hx
  obtain ⟨hx1, hx2⟩ := hx
  by_cases hxj : x < 1 + 1
  ·have f1 : (x : Int) ≤ 10 := by omega
   have i1 : x < 11 := by omega
   have gx := z14 x i1
   have hne := hskip x hx1 hxj
   clear hskip
   repeat ((try conv => whnf); first | (with_reducible first | refine z08 (fun Qs hN hE hR => ?_) | refine z06 ?_ | refine z00 (fun Qb kN kE kX kR => ?_) | refine z02 ?_ | refine z03 ?_ | refine z07 ?_ | refine z04 ?_ | refine z05 ?_ | (show W _ _ _ (.cond _ _ _) _ _; refine z01 rfl ?_) | (refine hN _ ?_; try clear hN hE hR Qs) | ((first | refine hE _ _ ?_ | refine hR _ ?_); try clear hN hE hR Qs) | ((first | refine kN _ ?_ | refine kE _ ?_ | refine kX _ _ rfl ?_ | refine kR _ ?_); try clear kN kE kX kR Qb)) | (refine z0b f1 ?_) | (refine i_lt i1 ?_) | (refine Exists.intro _ (And.intro gx ?_)) | (refine i_at g0 ?_) | (refine And.intro (by kernel_rfl) ?_) | (refine z0r hne ?_) | (refine stpQ ?_))
   refine ⟨x + 1, by omega, by omega, ?_⟩
   (refine z0a (by rfl) ?_ ?_) <;> (repeat' (first | (exact eqA) | (refine And.intro ?_ ?_) | ((fail_if_success (with_reducible (show _ = _))); (show _ = _))))
  ·obtain rfl : x = 1 + 1 := by omega
   have f1 : ((1 + 1 : Nat) : Int) ≤ 10 := by omega
   have i1 : 1 + 1 < 11 := by omega
   have gx := z14 (1 + 1) i1
   have fn : (z.length : Int) = 2 := by omega
   clear hskip hxj hx1 hx2
   cases hall : (b1)
   ·have hB : (!(false || !b1)) = false := by revert hall; cases b1 <;> decide
    repeat ((try conv => whnf); first | (with_reducible first | refine z08 (fun Qs hN hE hR => ?_) | refine z06 ?_ | refine z00 (fun Qb kN kE kX kR => ?_) | refine z02 ?_ | refine z03 ?_ | refine z07 ?_ | refine z04 ?_ | refine z05 ?_ | (show W _ _ _ (.cond _ _ _) _ _; refine z01 rfl ?_) | (refine hN _ ?_; try clear hN hE hR Qs) | ((first | refine hE _ _ ?_ | refine hR _ ?_); try clear hN hE hR Qs) | ((first | refine kN _ ?_ | refine kE _ ?_ | refine kX _ _ rfl ?_ | refine kR _ ?_); try clear kN kE kX kR Qb)) | (refine z0b f1 ?_) | (refine i_lt i1 ?_) | (refine Exists.intro _ (And.intro gx ?_)) | (refine i_at g0 ?_) | (refine And.intro (by kernel_rfl) ?_) | (refine z0j he ?_) | (refine z0j fn ?_) | (refine ccB ([2]) (n1) ?_) | (refine ccA ([]) (ce) ?_) | (refine cb_f hB ?_) | (refine stpQ ?_))
    refine hQ1 _ _ ?_
    clear hQ1 Q1
    repeat ((try conv => whnf); first | (with_reducible first | refine z08 (fun Qs hN hE hR => ?_) | refine z06 ?_ | refine z00 (fun Qb kN kE kX kR => ?_) | refine z02 ?_ | refine z03 ?_ | refine z07 ?_ | refine z04 ?_ | refine z05 ?_ | (show W _ _ _ (.cond _ _ _) _ _; refine z01 rfl ?_) | (refine hN _ ?_; try clear hN hE hR Qs) | ((first | refine hE _ _ ?_ | refine hR _ ?_); try clear hN hE hR Qs) | ((first | refine kN _ ?_ | refine kE _ ?_ | refine kX _ _ rfl ?_ | refine kR _ ?_); try clear kN kE kX kR Qb)) | (refine stpQ ?_))
    (refine z09 (by rfl) ?_ ?_ (by rfl)) <;> (repeat' (first | (exact eqA) | (refine And.intro ?_ ?_) | ((fail_if_success (with_reducible (show _ = _))); (show _ = _)))) <;> first | (rw [hall]; done) | (rw [hall]; rfl)
   ·have hB : (!(false || !b1)) = true := by revert hall; cases b1 <;> decide
    repeat ((try conv => whnf); first | (with_reducible first | refine z08 (fun Qs hN hE hR => ?_) | refine z06 ?_ | refine z00 (fun Qb kN kE kX kR => ?_) | refine z02 ?_ | refine z03 ?_ | refine z07 ?_ | refine z04 ?_ | refine z05 ?_ | (show W _ _ _ (.cond _ _ _) _ _; refine z01 rfl ?_) | (refine hN _ ?_; try clear hN hE hR Qs) | ((first | refine hE _ _ ?_ | refine hR _ ?_); try clear hN hE hR Qs) | ((first | refine kN _ ?_ | refine kE _ ?_ | refine kX _ _ rfl ?_ | refine kR _ ?_); try clear kN kE kX kR Qb)) | (refine z0b f1 ?_) | (refine i_lt i1 ?_) | (refine Exists.intro _ (And.intro gx ?_)) | (refine i_at g0 ?_) | (refine And.intro (by kernel_rfl) ?_) | (refine z0j he ?_) | (refine z0j fn ?_) | (refine ccB ([2]) (n1) ?_) | (refine ccA ([]) (ce) ?_) | (refine cb_t hB ?_) | (refine stpQ ?_))
    refine hQ1 _ _ ?_
    clear hQ1 Q1
    repeat ((try conv => whnf); first | (with_reducible first | refine z08 (fun Qs hN hE hR => ?_) | refine z06 ?_ | refine z00 (fun Qb kN kE kX kR => ?_) | refine z02 ?_ | refine z03 ?_ | refine z07 ?_ | refine z04 ?_ | refine z05 ?_ | (show W _ _ _ (.cond _ _ _) _ _; refine z01 rfl ?_) | (refine hN _ ?_; try clear hN hE hR Qs) | ((first | refine hE _ _ ?_ | refine hR _ ?_); try clear hN hE hR Qs) | ((first | refine kN _ ?_ | refine kE _ ?_ | refine kX _ _ rfl ?_ | refine kR _ ?_); try clear kN kE kX kR Qb)) | (refine stpQ ?_))
    (refine z09 (by rfl) ?_ ?_ (by rfl)) <;> (repeat' (first | (exact eqA) | (refine And.intro ?_ ?_) | ((fail_if_success (with_reducible (show _ = _))); (show _ = _)))) <;> first | (rw [hall]; done) | (rw [hall]; rfl)
theorem zbn (p : List Bs) (j : Nat) (hj : j = 2) (hw : mvL.getD j [] = pt p 0) (hl : p.length = mvN j) (hb : (pt p 3).length ≤ 600 ∧ (pt p 4).length ≤ 600) :
 CT Tryd.prog 43 [] [.sl 1 (strE p)] (.tup [.agg (evC (mvE 2 p)), .bool (mvB j p && evOk (mvE 2 p))]) [] := by
 have hj10 : j < 10 := by omega
 subst hj
 have hl : p.length = 2 := hl.trans (by rfl)
 have g0 := z0g (p := p) (i := 0) (by omega)
 have g1 := z0g (p := p) (i := 1) (by omega)
 have hcl : (strE p).length = 2 := by rw [z0h]; exact hl
 have n1 := z0G p 1 (pt p 1) (z0V (by omega)) (false)
 have hM : mvB 2 p = (isB (pt p 1)) := by simp [mvB]
 have hE : mvE 2 p = { k := 1, h := decV (pt p 1), mk := ((2 + 1 : Nat) : Int) } := by simp [mvE]
 rw [hM, hE]
 have ce := z0D { k := 1, h := decV (pt p 1), mk := ((2 + 1 : Nat) : Int) } ⟨by simp, by simp⟩
 generalize hq : evOk { k := 1, h := decV (pt p 1), mk := ((2 + 1 : Nat) : Int) } = q at ce ⊢
 clear hq hE hM hl
 generalize (decV (pt p 1) : Int) = v1 at *
 generalize isB (pt p 1) = b1 at *
 have hskip : ∀ x, 1 ≤ x → x < 2 + 1 → ¬ mvW.getD x [] = pt p 0 := fun x h1 h2 => z2q hj10 hw h1 h2
 have he : mvW.getD (2 + 1) [] = pt p 0 := by rw [z1n 2 hj10, hw]
 generalize pt p 0 = w at *
 generalize strE p = z at *
 clear hw hb
 refine z0d z0f 1 rfl Tryd.func43 rfl rfl rfl ?_
 conv => arg 6; whnf
 repeat ((try conv => whnf); first | (with_reducible first | refine z08 (fun Qs hN hE hR => ?_) | refine z06 ?_ | refine z00 (fun Qb kN kE kX kR => ?_) | refine z02 ?_ | refine z03 ?_ | refine z07 ?_ | refine z04 ?_ | refine z05 ?_ | (show W _ _ _ (.cond _ _ _) _ _; refine z01 rfl ?_) | (refine hN _ ?_; try clear hN hE hR Qs) | ((first | refine hE _ _ ?_ | refine hR _ ?_); try clear hN hE hR Qs) | ((first | refine kN _ ?_ | refine kE _ ?_ | refine kX _ _ rfl ?_ | refine kR _ ?_); try clear kN kE kX kR Qb)) | (refine stpQ ?_))
 refine z0p Nat (fun x => ⟨[(0, .sl 1 z), (2, .ptr 1 0 0), (4, .ptr 2 0 0), (5, .int .i64 (x : Int))], [(1, some (.box zEv)), (2, some (.box [.sl 1 z, .bool false]))], 3⟩) (fun x => 1 ≤ x ∧ x ≤ 2 + 1) (fun x => 2 + 1 + 1 - x) 1 (by omega) ?_ ?_
 ·(refine z0a (by rfl) ?_ ?_) <;> (repeat' (first | (exact eqA) | (refine And.intro ?_ ?_) | ((fail_if_success (with_reducible (show _ = _))); (show _ = _)))) <;> first | rfl | decide
 ·intro Q1 hQ1 x hx
  obtain ⟨hx1, hx2⟩ := hx
  by_cases hxj : x < 2 + 1
  ·have f1 : (x : Int) ≤ 10 := by omega
   have i1 : x < 11 := by omega
   have gx := z14 x i1
   have hne := hskip x hx1 hxj
   clear hskip
   repeat ((try conv => whnf); first | (with_reducible first | refine z08 (fun Qs hN hE hR => ?_) | refine z06 ?_ | refine z00 (fun Qb kN kE kX kR => ?_) | refine z02 ?_ | refine z03 ?_ | refine z07 ?_ | refine z04 ?_ | refine z05 ?_ | (show W _ _ _ (.cond _ _ _) _ _; refine z01 rfl ?_) | (refine hN _ ?_; try clear hN hE hR Qs) | ((first | refine hE _ _ ?_ | refine hR _ ?_); try clear hN hE hR Qs) | ((first | refine kN _ ?_ | refine kE _ ?_ | refine kX _ _ rfl ?_ | refine kR _ ?_); try clear kN kE kX kR Qb)) | (refine z0b f1 ?_) | (refine i_lt i1 ?_) | (refine Exists.intro _ (And.intro gx ?_)) | (refine i_at g0 ?_) | (refine And.intro (by kernel_rfl) ?_) | (refine z0r hne ?_) | (refine stpQ ?_))
   refine ⟨x + 1, by omega, by omega, ?_⟩
   (refine z0a (by rfl) ?_ ?_) <;> (repeat' (first | (exact eqA) | (refine And.intro ?_ ?_) | ((fail_if_success (with_reducible (show _ = _))); (show _ = _))))
  ·obtain rfl : x = 2 + 1 := by omega
   have f1 : ((2 + 1 : Nat) : Int) ≤ 10 := by omega
   have i1 : 2 + 1 < 11 := by omega
   have gx := z14 (2 + 1) i1
   have fn : (z.length : Int) = 2 := by omega
   clear hskip hxj hx1 hx2
   cases hall : (b1)
   ·have hB : (!(false || !b1)) = false := by revert hall; cases b1 <;> decide
    repeat ((try conv => whnf); first | (with_reducible first | refine z08 (fun Qs hN hE hR => ?_) | refine z06 ?_ | refine z00 (fun Qb kN kE kX kR => ?_) | refine z02 ?_ | refine z03 ?_ | refine z07 ?_ | refine z04 ?_ | refine z05 ?_ | (show W _ _ _ (.cond _ _ _) _ _; refine z01 rfl ?_) | (refine hN _ ?_; try clear hN hE hR Qs) | ((first | refine hE _ _ ?_ | refine hR _ ?_); try clear hN hE hR Qs) | ((first | refine kN _ ?_ | refine kE _ ?_ | refine kX _ _ rfl ?_ | refine kR _ ?_); try clear kN kE kX kR Qb)) | (refine z0b f1 ?_) | (refine i_lt i1 ?_) | (refine Exists.intro _ (And.intro gx ?_)) | (refine i_at g0 ?_) | (refine And.intro (by kernel_rfl) ?_) | (refine z0j he ?_) | (refine z0j fn ?_) | (refine ccB ([2]) (n1) ?_) | (refine ccA ([]) (ce) ?_) | (refine cb_f hB ?_) | (refine stpQ ?_))
    refine hQ1 _ _ ?_
    clear hQ1 Q1
    repeat ((try conv => whnf); first | (with_reducible first | refine z08 (fun Qs hN hE hR => ?_) | refine z06 ?_ | refine z00 (fun Qb kN kE kX kR => ?_) | refine z02 ?_ | refine z03 ?_ | refine z07 ?_ | refine z04 ?_ | refine z05 ?_ | (show W _ _ _ (.cond _ _ _) _ _; refine z01 rfl ?_) | (refine hN _ ?_; try clear hN hE hR Qs) | ((first | refine hE _ _ ?_ | refine hR _ ?_); try clear hN hE hR Qs) | ((first | refine kN _ ?_ | refine kE _ ?_ | refine kX _ _ rfl ?_ | refine kR _ ?_); try clear kN kE kX kR Qb)) | (refine stpQ ?_))
    (refine z09 (by rfl) ?_ ?_ (by rfl)) <;> (repeat' (first | (exact eqA) | (refine And.intro ?_ ?_) | ((fail_if_success (with_reducible (show _ = _))); (show _ = _)))) <;> first | (rw [hall]; done) | (rw [hall]; rfl)
   ·have hB : (!(false || !b1)) = true := by revert hall; cases b1 <;> decide
    repeat ((try conv => whnf); first | (with_reducible first | refine z08 (fun Qs hN hE hR => ?_) | refine z06 ?_ | refine z00 (fun Qb kN kE kX kR => ?_) | refine z02 ?_ | refine z03 ?_ | refine z07 ?_ | refine z04 ?_ | refine z05 ?_ | (show W _ _ _ (.cond _ _ _) _ _; refine z01 rfl ?_) | (refine hN _ ?_; try clear hN hE hR Qs) | ((first | refine hE _ _ ?_ | refine hR _ ?_); try clear hN hE hR Qs) | ((first | refine kN _ ?_ | refine kE _ ?_ | refine kX _ _ rfl ?_ | refine kR _ ?_); try clear kN kE kX kR Qb)) | (refine z0b f1 ?_) | (refine i_lt i1 ?_) | (refine Exists.intro _ (And.intro gx ?_)) | (refine i_at g0 ?_) | (refine And.intro (by kernel_rfl) ?_) | (refine z0j he ?_) | (refine z0j fn ?_) | (refine ccB ([2]) (n1) ?_) | (refine ccA ([]) (ce) ?_) | (refine cb_t hB ?_) | (refine stpQ ?_))
    refine hQ1 _ _ ?_
    clear hQ1 Q1
    repeat ((try conv => whnf); first | (with_reducible first | refine z08 (fun Qs hN hE hR => ?_) | refine z06 ?_ | refine z00 (fun Qb kN kE kX kR => ?_) | refine z02 ?_ | refine z03 ?_ | refine z07 ?_ | refine z04 ?_ | refine z05 ?_ | (show W _ _ _ (.cond _ _ _) _ _; refine z01 rfl ?_) | (refine hN _ ?_; try clear hN hE hR Qs) | ((first | refine hE _ _ ?_ | refine hR _ ?_); try clear hN hE hR Qs) | ((first | refine kN _ ?_ | refine kE _ ?_ | refine kX _ _ rfl ?_ | refine kR _ ?_); try clear kN kE kX kR Qb)) | (refine stpQ ?_))
    (refine z09 (by rfl) ?_ ?_ (by rfl)) <;> (repeat' (first | (exact eqA) | (refine And.intro ?_ ?_) | ((fail_if_success (with_reducible (show _ = _))); (show _ = _)))) <;> first | (rw [hall]; done) | (rw [hall]; rfl)
theorem zbo (p : List Bs) (j : Nat) (hj : j = 3) (hw : mvL.getD j [] = pt p 0) (hl : p.length = mvN j) (hb : (pt p 3).length ≤ 600 ∧ (pt p 4).length ≤ 600) :
 CT Tryd.prog 43 [] [.sl 1 (strE p)] (.tup [.agg (evC (mvE 3 p)), .bool (mvB j p && evOk (mvE 3 p))]) [] := by
 have hj10 : j < 10 := by omega
 subst hj
 have hl : p.length = 2 := hl.trans (by rfl)
 have g0 := z0g (p := p) (i := 0) (by omega)
 have g1 := z0g (p := p) (i := 1) (by omega)
 have hcl : (strE p).length = 2 := by rw [z0h]; exact hl
 have n1 := z0G p 1 (pt p 1) (z0V (by omega)) (false)
 have hM : mvB 3 p = (isB (pt p 1)) := by simp [mvB]
 have hE : mvE 3 p = { k := 1, h := decV (pt p 1), mk := ((3 + 1 : Nat) : Int) } := by simp [mvE]
 rw [hM, hE]
 have ce := z0D { k := 1, h := decV (pt p 1), mk := ((3 + 1 : Nat) : Int) } ⟨by simp, by simp⟩
 generalize hq : evOk { k := 1, h := decV (pt p 1), mk := ((3 + 1 : Nat) : Int) } = q at ce ⊢
 clear hq hE hM hl
 generalize (decV (pt p 1) : Int) = v1 at *
 generalize isB (pt p 1) = b1 at *
 have hskip : ∀ x, 1 ≤ x → x < 3 + 1 → ¬ mvW.getD x [] = pt p 0 := fun x h1 h2 => z2q hj10 hw h1 h2
 have he : mvW.getD (3 + 1) [] = pt p 0 := by rw [z1n 3 hj10, hw]
 generalize pt p 0 = w at *
 generalize strE p = z at *
 clear hw hb
 refine z0d z0f 1 rfl Tryd.func43 rfl rfl rfl ?_
 conv => arg 6; whnf
 repeat ((try conv => whnf); first | (with_reducible first | refine z08 (fun Qs hN hE hR => ?_) | refine z06 ?_ | refine z00 (fun Qb kN kE kX kR => ?_) | refine z02 ?_ | refine z03 ?_ | refine z07 ?_ | refine z04 ?_ | refine z05 ?_ | (show W _ _ _ (.cond _ _ _) _ _; refine z01 rfl ?_) | (refine hN _ ?_; try clear hN hE hR Qs) | ((first | refine hE _ _ ?_ | refine hR _ ?_); try clear hN hE hR Qs) | ((first | refine kN _ ?_ | refine kE _ ?_ | refine kX _ _ rfl ?_ | refine kR _ ?_); try clear kN kE kX kR Qb)) | (refine stpQ ?_))
 refine z0p Nat (fun x => ⟨[(0, .sl 1 z), (2, .ptr 1 0 0), (4, .ptr 2 0 0), (5, .int .i64 (x : Int))], [(1, some (.box zEv)), (2, some (.box [.sl 1 z, .bool false]))], 3⟩) (fun x => 1 ≤ x ∧ x ≤ 3 + 1) (fun x => 3 + 1 + 1 - x) 1 (by omega) ?_ ?_
 ·(refine z0a (by rfl) ?_ ?_) <;> (repeat' (first | (exact eqA) | (refine And.intro ?_ ?_) | ((fail_if_success (with_reducible (show _ = _))); (show _ = _)))) <;> first | rfl | decide
 ·intro Q1 hQ1 x hx
  obtain ⟨hx1, hx2⟩ := hx
  by_cases hxj : x < 3 + 1
  ·have f1 : (x : Int) ≤ 10 := by omega
   have i1 : x < 11 := by omega
   have gx := z14 x i1
   have hne := hskip x hx1 hxj
   clear hskip
   repeat ((try conv => whnf); first | (with_reducible first | refine z08 (fun Qs hN hE hR => ?_) | refine z06 ?_ | refine z00 (fun Qb kN kE kX kR => ?_) | refine z02 ?_ | refine z03 ?_ | refine z07 ?_ | refine z04 ?_ | refine z05 ?_ | (show W _ _ _ (.cond _ _ _) _ _; refine z01 rfl ?_) | (refine hN _ ?_; try clear hN hE hR Qs) | ((first | refine hE _ _ ?_ | refine hR _ ?_); try clear hN hE hR Qs) | ((first | refine kN _ ?_ | refine kE _ ?_ | refine kX _ _ rfl ?_ | refine kR _ ?_); try clear kN kE kX kR Qb)) | (refine z0b f1 ?_) | (refine i_lt i1 ?_) | (refine Exists.intro _ (And.intro gx ?_)) | (refine i_at g0 ?_) | (refine And.intro (by kernel_rfl) ?_) | (refine z0r hne ?_) | (refine stpQ ?_))
   refine ⟨x + 1, by omega, by omega, ?_⟩
   (refine z0a (by rfl) ?_ ?_) <;> (repeat' (first | (exact eqA) | (refine And.intro ?_ ?_) | ((fail_if_success (with_reducible (show _ = _))); (show _ = _))))
  ·obtain rfl : x = 3 + 1 := by omega
   have f1 : ((3 + 1 : Nat) : Int) ≤ 10 := by omega
   have i1 : 3 + 1 < 11 := by omega
   have gx := z14 (3 + 1) i1
   have fn : (z.length : Int) = 2 := by omega
   clear hskip hxj hx1 hx2
   cases hall : (b1)
   ·have hB : (!(false || !b1)) = false := by revert hall; cases b1 <;> decide
    repeat ((try conv => whnf); first | (with_reducible first | refine z08 (fun Qs hN hE hR => ?_) | refine z06 ?_ | refine z00 (fun Qb kN kE kX kR => ?_) | refine z02 ?_ | refine z03 ?_ | refine z07 ?_ | refine z04 ?_ | refine z05 ?_ | (show W _ _ _ (.cond _ _ _) _ _; refine z01 rfl ?_) | (refine hN _ ?_; try clear hN hE hR Qs) | ((first | refine hE _ _ ?_ | refine hR _ ?_); try clear hN hE hR Qs) | ((first | refine kN _ ?_ | refine kE _ ?_ | refine kX _ _ rfl ?_ | refine kR _ ?_); try clear kN kE kX kR Qb)) | (refine z0b f1 ?_) | (refine i_lt i1 ?_) | (refine Exists.intro _ (And.intro gx ?_)) | (refine i_at g0 ?_) | (refine And.intro (by kernel_rfl) ?_) | (refine z0j he ?_) | (refine z0j fn ?_) | (refine ccB ([2]) (n1) ?_) | (refine ccA ([]) (ce) ?_) | (refine cb_f hB ?_) | (refine stpQ ?_))
    refine hQ1 _ _ ?_
    clear hQ1 Q1
    repeat ((try conv => whnf); first | (with_reducible first | refine z08 (fun Qs hN hE hR => ?_) | refine z06 ?_ | refine z00 (fun Qb kN kE kX kR => ?_) | refine z02 ?_ | refine z03 ?_ | refine z07 ?_ | refine z04 ?_ | refine z05 ?_ | (show W _ _ _ (.cond _ _ _) _ _; refine z01 rfl ?_) | (refine hN _ ?_; try clear hN hE hR Qs) | ((first | refine hE _ _ ?_ | refine hR _ ?_); try clear hN hE hR Qs) | ((first | refine kN _ ?_ | refine kE _ ?_ | refine kX _ _ rfl ?_ | refine kR _ ?_); try clear kN kE kX kR Qb)) | (refine stpQ ?_))
    (refine z09 (by rfl) ?_ ?_ (by rfl)) <;> (repeat' (first | (exact eqA) | (refine And.intro ?_ ?_) | ((fail_if_success (with_reducible (show _ = _))); (show _ = _)))) <;> first | (rw [hall]; done) | (rw [hall]; rfl)
   ·have hB : (!(false || !b1)) = true := by revert hall; cases b1 <;> decide
    repeat ((try conv => whnf); first | (with_reducible first | refine z08 (fun Qs hN hE hR => ?_) | refine z06 ?_ | refine z00 (fun Qb kN kE kX kR => ?_) | refine z02 ?_ | refine z03 ?_ | refine z07 ?_ | refine z04 ?_ | refine z05 ?_ | (show W _ _ _ (.cond _ _ _) _ _; refine z01 rfl ?_) | (refine hN _ ?_; try clear hN hE hR Qs) | ((first | refine hE _ _ ?_ | refine hR _ ?_); try clear hN hE hR Qs) | ((first | refine kN _ ?_ | refine kE _ ?_ | refine kX _ _ rfl ?_ | refine kR _ ?_); try clear kN kE kX kR Qb)) | (refine z0b f1 ?_) | (refine i_lt i1 ?_) | (refine Exists.intro _ (And.intro gx ?_)) | (refine i_at g0 ?_) | (refine And.intro (by kernel_rfl) ?_) | (refine z0j he ?_) | (refine z0j fn ?_) | (refine ccB ([2]) (n1) ?_) | (refine ccA ([]) (ce) ?_) | (refine cb_t hB ?_) | (refine stpQ ?_))
    refine hQ1 _ _ ?_
    clear hQ1 Q1
    repeat ((try conv => whnf); first | (with_reducible first | refine z08 (fun Qs hN hE hR => ?_) | refine z06 ?_ | refine z00 (fun Qb kN kE kX kR => ?_) | refine z02 ?_ | refine z03 ?_ | refine z07 ?_ | refine z04 ?_ | refine z05 ?_ | (show W _ _ _ (.cond _ _ _) _ _; refine z01 rfl ?_) | (refine hN _ ?_; try clear hN hE hR Qs) | ((first | refine hE _ _ ?_ | refine hR _ ?_); try clear hN hE hR Qs) | ((first | refine kN _ ?_ | refine kE _ ?_ | refine kX _ _ rfl ?_ | refine kR _ ?_); try clear kN kE kX kR Qb)) | (refine stpQ ?_))
    (refine z09 (by rfl) ?_ ?_ (by rfl)) <;> (repeat' (first | (exact eqA) | (refine And.intro ?_ ?_) | ((fail_if_success (with_reducible (show _ = _))); (show _ = _)))) <;> first | (rw [hall]; done) | (rw [hall]; rfl)
theorem zbp (p : List Bs) (j : Nat) (hj : j = 8) (hw : mvL.getD j [] = pt p 0) (hl : p.length = mvN j) (hb : (pt p 3).length ≤ 600 ∧ (pt p 4).length ≤ 600) :
 CT Tryd.prog 43 [] [.sl 1 (strE p)] (.tup [.agg (evC (mvE j p)), .bool (mvB j p && evOk (mvE j p))]) [] := by
 have hj10 : j < 10 := by omega
 subst hj
 have hl : p.length = 4 := hl.trans (by rfl)
 have g0 := z0g (p := p) (i := 0) (by omega)
 have g1 := z0g (p := p) (i := 1) (by omega)
 have g2 := z0g (p := p) (i := 2) (by omega)
 have g3 := z0g (p := p) (i := 3) (by omega)
 have hcl : (strE p).length = 4 := by rw [z0h]; exact hl
 have n2 := z0G p 2 (pt p 2) (z0V (by omega)) (false)
 have n3 := z0G p 3 (pt p 3) (z0V (by omega)) (false || !isB (pt p 2))
 have n1 := z0G p 1 (pt p 1) (z0V (by omega)) ((false || !isB (pt p 2)) || !isB (pt p 3))
 have hM : mvB 8 p = (isB (pt p 1) && (isB (pt p 2) && isB (pt p 3))) := by simp [mvB]
 have hE : mvE 8 p = { k := 1, h := decV (pt p 1), mk := ((8 + 1 : Nat) : Int), mn := decV (pt p 2), ma := decV (pt p 3) } := by simp [mvE]
 rw [hM, hE]
 have ce := z0D { k := 1, h := decV (pt p 1), mk := ((8 + 1 : Nat) : Int), mn := decV (pt p 2), ma := decV (pt p 3) } ⟨by simp, by simp⟩
 generalize hq : evOk { k := 1, h := decV (pt p 1), mk := ((8 + 1 : Nat) : Int), mn := decV (pt p 2), ma := decV (pt p 3) } = q at ce ⊢
 clear hq hE hM hl
 generalize (decV (pt p 2) : Int) = v2 at *
 generalize isB (pt p 2) = b2 at *
 generalize (decV (pt p 3) : Int) = v3 at *
 generalize isB (pt p 3) = b3 at *
 generalize (decV (pt p 1) : Int) = v1 at *
 generalize isB (pt p 1) = b1 at *
 have hskip : ∀ x, 1 ≤ x → x < 8 + 1 → ¬ mvW.getD x [] = pt p 0 := fun x h1 h2 => z2q hj10 hw h1 h2
 have he : mvW.getD (8 + 1) [] = pt p 0 := by rw [z1n 8 hj10, hw]
 generalize pt p 0 = w at *
 generalize strE p = z at *
 clear hw hb
 refine z0d z0f 1 rfl Tryd.func43 rfl rfl rfl ?_
 conv => arg 6; whnf
 repeat ((try conv => whnf); first | (with_reducible first | refine z08 (fun Qs hN hE hR => ?_) | refine z06 ?_ | refine z00 (fun Qb kN kE kX kR => ?_) | refine z02 ?_ | refine z03 ?_ | refine z07 ?_ | refine z04 ?_ | refine z05 ?_ | (show W _ _ _ (.cond _ _ _) _ _; refine z01 rfl ?_) | (refine hN _ ?_; try clear hN hE hR Qs) | ((first | refine hE _ _ ?_ | refine hR _ ?_); try clear hN hE hR Qs) | ((first | refine kN _ ?_ | refine kE _ ?_ | refine kX _ _ rfl ?_ | refine kR _ ?_); try clear kN kE kX kR Qb)) | (refine stpQ ?_))
 refine z0p Nat (fun x => ⟨[(0, .sl 1 z), (2, .ptr 1 0 0), (4, .ptr 2 0 0), (5, .int .i64 (x : Int))], [(1, some (.box zEv)), (2, some (.box [.sl 1 z, .bool false]))], 3⟩) (fun x => 1 ≤ x ∧ x ≤ 8 + 1) (fun x => 8 + 1 + 1 - x) 1 (by omega) ?_ ?_
 ·(refine z0a (by rfl) ?_ ?_) <;> (repeat' (first | (exact eqA) | (refine And.intro ?_ ?_) | ((fail_if_success (with_reducible (show _ = _))); (show _ = _)))) <;> first | rfl | decide
 ·intro Q1 hQ1 x hx
  obtain ⟨hx1, hx2⟩ := hx
  by_cases hxj : x < 8 + 1
  ·have f1 : (x : Int) ≤ 10 := by omega
   have i1 : x < 11 := by omega
   have gx := z14 x i1
   have hne := hskip x hx1 hxj
   clear hskip
   repeat ((try conv => whnf); first | (with_reducible first | refine z08 (fun Qs hN hE hR => ?_) | refine z06 ?_ | refine z00 (fun Qb kN kE kX kR => ?_) | refine z02 ?_ | refine z03 ?_ | refine z07 ?_ | refine z04 ?_ | refine z05 ?_ | (show W _ _ _ (.cond _ _ _) _ _; refine z01 rfl ?_) | (refine hN _ ?_; try clear hN hE hR Qs) | ((first | refine hE _ _ ?_ | refine hR _ ?_); try clear hN hE hR Qs) | ((first | refine kN _ ?_ | refine kE _ ?_ | refine kX _ _ rfl ?_ | refine kR _ ?_); try clear kN kE kX kR Qb)) | (refine z0b f1 ?_) | (refine i_lt i1 ?_) | (refine Exists.intro _ (And.intro gx ?_)) | (refine i_at g0 ?_) | (refine And.intro (by kernel_rfl) ?_) | (refine z0r hne ?_) | (refine stpQ ?_))
   refine ⟨x + 1, by omega, by omega, ?_⟩
   (refine z0a (by rfl) ?_ ?_) <;> (repeat' (first | (exact eqA) | (refine And.intro ?_ ?_) | ((fail_if_success (with_reducible (show _ = _))); (show _ = _))))
  ·obtain rfl : x = 8 + 1 := by omega
   have f1 : ((8 + 1 : Nat) : Int) ≤ 10 := by omega
   have i1 : 8 + 1 < 11 := by omega
   have gx := z14 (8 + 1) i1
   have fn : (z.length : Int) = 4 := by omega
   clear hskip hxj hx1 hx2
   cases hall : (b1 && (b2 && b3))
   ·have hB : (!(((false || !b2) || !b3) || !b1)) = false := by revert hall; cases b2 <;> cases b3 <;> cases b1 <;> decide
    repeat ((try conv => whnf); first | (with_reducible first | refine z08 (fun Qs hN hE hR => ?_) | refine z06 ?_ | refine z00 (fun Qb kN kE kX kR => ?_) | refine z02 ?_ | refine z03 ?_ | refine z07 ?_ | refine z04 ?_ | refine z05 ?_ | (show W _ _ _ (.cond _ _ _) _ _; refine z01 rfl ?_) | (refine hN _ ?_; try clear hN hE hR Qs) | ((first | refine hE _ _ ?_ | refine hR _ ?_); try clear hN hE hR Qs) | ((first | refine kN _ ?_ | refine kE _ ?_ | refine kX _ _ rfl ?_ | refine kR _ ?_); try clear kN kE kX kR Qb)) | (refine z0b f1 ?_) | (refine i_lt i1 ?_) | (refine Exists.intro _ (And.intro gx ?_)) | (refine i_at g0 ?_) | (refine And.intro (by kernel_rfl) ?_) | (refine z0j he ?_) | (refine z0j fn ?_) | (refine ccB ([2]) (n2) ?_) | (refine ccB ([2]) (n3) ?_) | (refine ccB ([2]) (n1) ?_) | (refine ccA ([]) (ce) ?_) | (refine cb_f hB ?_) | (refine stpQ ?_))
    refine hQ1 _ _ ?_
    clear hQ1 Q1
    repeat ((try conv => whnf); first | (with_reducible first | refine z08 (fun Qs hN hE hR => ?_) | refine z06 ?_ | refine z00 (fun Qb kN kE kX kR => ?_) | refine z02 ?_ | refine z03 ?_ | refine z07 ?_ | refine z04 ?_ | refine z05 ?_ | (show W _ _ _ (.cond _ _ _) _ _; refine z01 rfl ?_) | (refine hN _ ?_; try clear hN hE hR Qs) | ((first | refine hE _ _ ?_ | refine hR _ ?_); try clear hN hE hR Qs) | ((first | refine kN _ ?_ | refine kE _ ?_ | refine kX _ _ rfl ?_ | refine kR _ ?_); try clear kN kE kX kR Qb)) | (refine stpQ ?_))
    (refine z09 (by rfl) ?_ ?_ (by rfl)) <;> (repeat' (first | (exact eqA) | (refine And.intro ?_ ?_) | ((fail_if_success (with_reducible (show _ = _))); (show _ = _)))) <;> first | (rw [hall]; done) | (rw [hall]; rfl)
   ·have hB : (!(((false || !b2) || !b3) || !b1)) = true := by revert hall; cases b2 <;> cases b3 <;> cases b1 <;> decide
    repeat ((try conv => whnf); first | (with_reducible first | refine z08 (fun Qs hN hE hR => ?_) | refine z06 ?_ | refine z00 (fun Qb kN kE kX kR => ?_) | refine z02 ?_ | refine z03 ?_ | refine z07 ?_ | refine z04 ?_ | refine z05 ?_ | (show W _ _ _ (.cond _ _ _) _ _; refine z01 rfl ?_) | (refine hN _ ?_; try clear hN hE hR Qs) | ((first | refine hE _ _ ?_ | refine hR _ ?_); try clear hN hE hR Qs) | ((first | refine kN _ ?_ | refine kE _ ?_ | refine kX _ _ rfl ?_ | refine kR _ ?_); try clear kN kE kX kR Qb)) | (refine z0b f1 ?_) | (refine i_lt i1 ?_) | (refine Exists.intro _ (And.intro gx ?_)) | (refine i_at g0 ?_) | (refine And.intro (by kernel_rfl) ?_) | (refine z0j he ?_) | (refine z0j fn ?_) | (refine ccB ([2]) (n2) ?_) | (refine ccB ([2]) (n3) ?_) | (refine ccB ([2]) (n1) ?_) | (refine ccA ([]) (ce) ?_) | (refine cb_t hB ?_) | (refine stpQ ?_))
    refine hQ1 _ _ ?_
    clear hQ1 Q1
    repeat ((try conv => whnf); first | (with_reducible first | refine z08 (fun Qs hN hE hR => ?_) | refine z06 ?_ | refine z00 (fun Qb kN kE kX kR => ?_) | refine z02 ?_ | refine z03 ?_ | refine z07 ?_ | refine z04 ?_ | refine z05 ?_ | (show W _ _ _ (.cond _ _ _) _ _; refine z01 rfl ?_) | (refine hN _ ?_; try clear hN hE hR Qs) | ((first | refine hE _ _ ?_ | refine hR _ ?_); try clear hN hE hR Qs) | ((first | refine kN _ ?_ | refine kE _ ?_ | refine kX _ _ rfl ?_ | refine kR _ ?_); try clear kN kE kX kR Qb)) | (refine stpQ ?_))
    (refine z09 (by rfl) ?_ ?_ (by rfl)) <;> (repeat' (first | (exact eqA) | (refine And.intro ?_ ?_) | ((fail_if_success (with_reducible (show _ = _))); (show _ = _)))) <;> first | (rw [hall]; done) | (rw [hall]; rfl)
theorem zbq (p : List Bs) (j : Nat) (hj : j = 9) (hw : mvL.getD j [] = pt p 0) (hl : p.length = mvN j) (hb : (pt p 3).length ≤ 600 ∧ (pt p 4).length ≤ 600) :
 CT Tryd.prog 43 [] [.sl 1 (strE p)] (.tup [.agg (evC (mvE j p)), .bool (mvB j p && evOk (mvE j p))]) [] := by
 have hj10 : j < 10 := by omega
 subst hj
 have hl : p.length = 3 := hl.trans (by rfl)
 have g0 := z0g (p := p) (i := 0) (by omega)
 have g1 := z0g (p := p) (i := 1) (by omega)
 have g2 := z0g (p := p) (i := 2) (by omega)
 have hcl : (strE p).length = 3 := by rw [z0h]; exact hl
 have n2 := z0G p 2 (pt p 2) (z0V (by omega)) (false)
 have n1 := z0G p 1 (pt p 1) (z0V (by omega)) (false || !isB (pt p 2))
 have hM : mvB 9 p = (isB (pt p 1) && isB (pt p 2)) := by simp [mvB]
 have hE : mvE 9 p = { k := 1, h := decV (pt p 1), mk := ((9 + 1 : Nat) : Int), mn := decV (pt p 2) } := by simp [mvE]
 rw [hM, hE]
 have ce := z0D { k := 1, h := decV (pt p 1), mk := ((9 + 1 : Nat) : Int), mn := decV (pt p 2) } ⟨by simp, by simp⟩
 generalize hq : evOk { k := 1, h := decV (pt p 1), mk := ((9 + 1 : Nat) : Int), mn := decV (pt p 2) } = q at ce ⊢
 clear hq hE hM hl
 generalize (decV (pt p 2) : Int) = v2 at *
 generalize isB (pt p 2) = b2 at *
 generalize (decV (pt p 1) : Int) = v1 at *
 generalize isB (pt p 1) = b1 at *
 have hskip : ∀ x, 1 ≤ x → x < 9 + 1 → ¬ mvW.getD x [] = pt p 0 := fun x h1 h2 => z2q hj10 hw h1 h2
 have he : mvW.getD (9 + 1) [] = pt p 0 := by rw [z1n 9 hj10, hw]
 generalize pt p 0 = w at *
 generalize strE p = z at *
 clear hw hb
 refine z0d z0f 1 rfl Tryd.func43 rfl rfl rfl ?_
 conv => arg 6; whnf
 repeat ((try conv => whnf); first | (with_reducible first | refine z08 (fun Qs hN hE hR => ?_) | refine z06 ?_ | refine z00 (fun Qb kN kE kX kR => ?_) | refine z02 ?_ | refine z03 ?_ | refine z07 ?_ | refine z04 ?_ | refine z05 ?_ | (show W _ _ _ (.cond _ _ _) _ _; refine z01 rfl ?_) | (refine hN _ ?_; try clear hN hE hR Qs) | ((first | refine hE _ _ ?_ | refine hR _ ?_); try clear hN hE hR Qs) | ((first | refine kN _ ?_ | refine kE _ ?_ | refine kX _ _ rfl ?_ | refine kR _ ?_); try clear kN kE kX kR Qb)) | (refine stpQ ?_))
 refine z0p Nat (fun x => ⟨[(0, .sl 1 z), (2, .ptr 1 0 0), (4, .ptr 2 0 0), (5, .int .i64 (x : Int))], [(1, some (.box zEv)), (2, some (.box [.sl 1 z, .bool false]))], 3⟩) (fun x => 1 ≤ x ∧ x ≤ 9 + 1) (fun x => 9 + 1 + 1 - x) 1 (by omega) ?_ ?_
 ·(refine z0a (by rfl) ?_ ?_) <;> (repeat' (first | (exact eqA) | (refine And.intro ?_ ?_) | ((fail_if_success (with_reducible (show _ = _))); (show _ = _)))) <;> first | rfl | decide
 ·intro Q1 hQ1 x hx
  obtain ⟨hx1, hx2⟩ := hx
  by_cases hxj : x < 9 + 1
  ·have f1 : (x : Int) ≤ 10 := by omega
   have i1 : x < 11 := by omega
   have gx := z14 x i1
   have hne := hskip x hx1 hxj
   clear hskip
   repeat ((try conv => whnf); first | (with_reducible first | refine z08 (fun Qs hN hE hR => ?_) | refine z06 ?_ | refine z00 (fun Qb kN kE kX kR => ?_) | refine z02 ?_ | refine z03 ?_ | refine z07 ?_ | refine z04 ?_ | refine z05 ?_ | (show W _ _ _ (.cond _ _ _) _ _; refine z01 rfl ?_) | (refine hN _ ?_; try clear hN hE hR Qs) | ((first | refine hE _ _ ?_ | refine hR _ ?_); try clear hN hE hR Qs) | ((first | refine kN _ ?_ | refine kE _ ?_ | refine kX _ _ rfl ?_ | refine kR _ ?_); try clear kN kE kX kR Qb)) | (refine z0b f1 ?_) | (refine i_lt i1 ?_) | (refine Exists.intro _ (And.intro gx ?_)) | (refine i_at g0 ?_) | (refine And.intro (by kernel_rfl) ?_) | (refine z0r hne ?_) | (refine stpQ ?_))
   refine ⟨x + 1, by omega, by omega, ?_⟩
   (refine z0a (by rfl) ?_ ?_) <;> (repeat' (first | (exact eqA) | (refine And.intro ?_ ?_) | ((fail_if_success (with_reducible (show _ = _))); (show _ = _))))
  ·obtain rfl : x = 9 + 1 := by omega
   have f1 : ((9 + 1 : Nat) : Int) ≤ 10 := by omega
   have i1 : 9 + 1 < 11 := by omega
   have gx := z14 (9 + 1) i1
   have fn : (z.length : Int) = 3 := by omega
   clear hskip hxj hx1 hx2
   cases hall : (b1 && b2)
   ·have hB : (!((false || !b2) || !b1)) = false := by revert hall; cases b2 <;> cases b1 <;> decide
    repeat ((try conv => whnf); first | (with_reducible first | refine z08 (fun Qs hN hE hR => ?_) | refine z06 ?_ | refine z00 (fun Qb kN kE kX kR => ?_) | refine z02 ?_ | refine z03 ?_ | refine z07 ?_ | refine z04 ?_ | refine z05 ?_ | (show W _ _ _ (.cond _ _ _) _ _; refine z01 rfl ?_) | (refine hN _ ?_; try clear hN hE hR Qs) | ((first | refine hE _ _ ?_ | refine hR _ ?_); try clear hN hE hR Qs) | ((first | refine kN _ ?_ | refine kE _ ?_ | refine kX _ _ rfl ?_ | refine kR _ ?_); try clear kN kE kX kR Qb)) | (refine z0b f1 ?_) | (refine i_lt i1 ?_) | (refine Exists.intro _ (And.intro gx ?_)) | (refine i_at g0 ?_) | (refine And.intro (by kernel_rfl) ?_) | (refine z0j he ?_) | (refine z0j fn ?_) | (refine ccB ([2]) (n2) ?_) | (refine ccB ([2]) (n1) ?_) | (refine ccA ([]) (ce) ?_) | (refine cb_f hB ?_) | (refine stpQ ?_))
    refine hQ1 _ _ ?_
    clear hQ1 Q1
    repeat ((try conv => whnf); first | (with_reducible first | refine z08 (fun Qs hN hE hR => ?_) | refine z06 ?_ | refine z00 (fun Qb kN kE kX kR => ?_) | refine z02 ?_ | refine z03 ?_ | refine z07 ?_ | refine z04 ?_ | refine z05 ?_ | (show W _ _ _ (.cond _ _ _) _ _; refine z01 rfl ?_) | (refine hN _ ?_; try clear hN hE hR Qs) | ((first | refine hE _ _ ?_ | refine hR _ ?_); try clear hN hE hR Qs) | ((first | refine kN _ ?_ | refine kE _ ?_ | refine kX _ _ rfl ?_ | refine kR _ ?_); try clear kN kE kX kR Qb)) | (refine stpQ ?_))
    (refine z09 (by rfl) ?_ ?_ (by rfl)) <;> (repeat' (first | (exact eqA) | (refine And.intro ?_ ?_) | ((fail_if_success (with_reducible (show _ = _))); (show _ = _)))) <;> first | (rw [hall]; done) | (rw [hall]; rfl)
   ·have hB : (!((false || !b2) || !b1)) = true := by revert hall; cases b2 <;> cases b1 <;> decide
    repeat ((try conv => whnf); first | (with_reducible first | refine z08 (fun Qs hN hE hR => ?_) | refine z06 ?_ | refine z00 (fun Qb kN kE kX kR => ?_) | refine z02 ?_ | refine z03 ?_ | refine z07 ?_ | refine z04 ?_ | refine z05 ?_ | (show W _ _ _ (.cond _ _ _) _ _; refine z01 rfl ?_) | (refine hN _ ?_; try clear hN hE hR Qs) | ((first | refine hE _ _ ?_ | refine hR _ ?_); try clear hN hE hR Qs) | ((first | refine kN _ ?_ | refine kE _ ?_ | refine kX _ _ rfl ?_ | refine kR _ ?_); try clear kN kE kX kR Qb)) | (refine z0b f1 ?_) | (refine i_lt i1 ?_) | (refine Exists.intro _ (And.intro gx ?_)) | (refine i_at g0 ?_) | (refine And.intro (by kernel_rfl) ?_) | (refine z0j he ?_) | (refine z0j fn ?_) | (refine ccB ([2]) (n2) ?_) | (refine ccB ([2]) (n1) ?_) | (refine ccA ([]) (ce) ?_) | (refine cb_t hB ?_) | (refine stpQ ?_))
    refine hQ1 _ _ ?_
    clear hQ1 Q1
    repeat ((try conv => whnf); first | (with_reducible first | refine z08 (fun Qs hN hE hR => ?_) | refine z06 ?_ | refine z00 (fun Qb kN kE kX kR => ?_) | refine z02 ?_ | refine z03 ?_ | refine z07 ?_ | refine z04 ?_ | refine z05 ?_ | (show W _ _ _ (.cond _ _ _) _ _; refine z01 rfl ?_) | (refine hN _ ?_; try clear hN hE hR Qs) | ((first | refine hE _ _ ?_ | refine hR _ ?_); try clear hN hE hR Qs) | ((first | refine kN _ ?_ | refine kE _ ?_ | refine kX _ _ rfl ?_ | refine kR _ ?_); try clear kN kE kX kR Qb)) | (refine stpQ ?_))
    (refine z09 (by rfl) ?_ ?_ (by rfl)) <;> (repeat' (first | (exact eqA) | (refine And.intro ?_ ?_) | ((fail_if_success (with_reducible (show _ = _))); (show _ = _)))) <;> first | (rw [hall]; done) | (rw [hall]; rfl)
theorem za1 (p : List Bs) (j : Nat) (hj : j = 0) (h4 : pt p 4 = [45]) (hw : mvL.getD j [] = pt p 0) (hl : p.length = mvN j) (hb : (pt p 3).length ≤ 600 ∧ (pt p 4).length ≤ 600) :
 CT Tryd.prog 43 [] [.sl 1 (strE p)] (.tup [.agg (evC (mvE j p)), .bool (mvB j p && evOk (mvE j p))]) [] := by
 have hj10 : j < 10 := by omega
 subst hj
 have hl : p.length = 5 := hl.trans (by rfl)
 have g0 := z0g (p := p) (i := 0) (by omega)
 have g1 := z0g (p := p) (i := 1) (by omega)
 have g2 := z0g (p := p) (i := 2) (by omega)
 have g3 := z0g (p := p) (i := 3) (by omega)
 have g4 := z0g (p := p) (i := 4) (by omega)
 have hcl : (strE p).length = 5 := by rw [z0h]; exact hl
 have n2 := z0G p 2 (pt p 2) (z0V (by omega)) (false)
 have n1 := z0G p 1 (pt p 1) (z0V (by omega)) (false || !isB (pt p 2))
 have hM : mvB 0 p = (isB (pt p 1) && isB (pt p 2)) := by simp [mvB]
 have hE : mvE 0 p = { k := 1, h := decV (pt p 1), mk := ((0 + 1 : Nat) : Int), ci := decV (pt p 2), cn := pt p 3 } := by simp [mvE, h4]
 rw [hM, hE]
 have ce := z0D { k := 1, h := decV (pt p 1), mk := ((0 + 1 : Nat) : Int), ci := decV (pt p 2), cn := pt p 3 } ⟨by (have := hb.1; show ((pt p 3).length : Int) ≤ 1000000000; omega), by simp⟩
 generalize hq : evOk { k := 1, h := decV (pt p 1), mk := ((0 + 1 : Nat) : Int), ci := decV (pt p 2), cn := pt p 3 } = q at ce ⊢
 clear hq hE hM hl
 generalize (decV (pt p 2) : Int) = v2 at *
 generalize isB (pt p 2) = b2 at *
 generalize (decV (pt p 1) : Int) = v1 at *
 generalize isB (pt p 1) = b1 at *
 generalize pt p 3 = s3 at *
 generalize pt p 4 = s4 at *
 have hskip : ∀ x, 1 ≤ x → x < 0 + 1 → ¬ mvW.getD x [] = pt p 0 := fun x h1 h2 => z2q hj10 hw h1 h2
 have he : mvW.getD (0 + 1) [] = pt p 0 := by rw [z1n 0 hj10, hw]
 generalize pt p 0 = w at *
 generalize strE p = z at *
 clear hw hb
 refine z0d z0f 1 rfl Tryd.func43 rfl rfl rfl ?_
 conv => arg 6; whnf
 repeat ((try conv => whnf); first | (with_reducible first | refine z08 (fun Qs hN hE hR => ?_) | refine z06 ?_ | refine z00 (fun Qb kN kE kX kR => ?_) | refine z02 ?_ | refine z03 ?_ | refine z07 ?_ | refine z04 ?_ | refine z05 ?_ | (show W _ _ _ (.cond _ _ _) _ _; refine z01 rfl ?_) | (refine hN _ ?_; try clear hN hE hR Qs) | ((first | refine hE _ _ ?_ | refine hR _ ?_); try clear hN hE hR Qs) | ((first | refine kN _ ?_ | refine kE _ ?_ | refine kX _ _ rfl ?_ | refine kR _ ?_); try clear kN kE kX kR Qb)) | (refine stpQ ?_))
 refine z0p Nat (fun x => ⟨[(0, .sl 1 z), (2, .ptr 1 0 0), (4, .ptr 2 0 0), (5, .int .i64 (x : Int))], [(1, some (.box zEv)), (2, some (.box [.sl 1 z, .bool false]))], 3⟩) (fun x => 1 ≤ x ∧ x ≤ 0 + 1) (fun x => 0 + 1 + 1 - x) 1 (by omega) ?_ ?_
 ·(refine z0a (by rfl) ?_ ?_) <;> (repeat' (first | (exact eqA) | (refine And.intro ?_ ?_) | ((fail_if_success (with_reducible (show _ = _))); (show _ = _)))) <;> first | rfl | decide
 ·intro Q1 hQ1 x hx
  obtain ⟨hx1, hx2⟩ := hx
  by_cases hxj : x < 0 + 1
  ·have f1 : (x : Int) ≤ 10 := by omega
   have i1 : x < 11 := by omega
   have gx := z14 x i1
   have hne := hskip x hx1 hxj
   clear hskip
   repeat ((try conv => whnf); first | (with_reducible first | refine z08 (fun Qs hN hE hR => ?_) | refine z06 ?_ | refine z00 (fun Qb kN kE kX kR => ?_) | refine z02 ?_ | refine z03 ?_ | refine z07 ?_ | refine z04 ?_ | refine z05 ?_ | (show W _ _ _ (.cond _ _ _) _ _; refine z01 rfl ?_) | (refine hN _ ?_; try clear hN hE hR Qs) | ((first | refine hE _ _ ?_ | refine hR _ ?_); try clear hN hE hR Qs) | ((first | refine kN _ ?_ | refine kE _ ?_ | refine kX _ _ rfl ?_ | refine kR _ ?_); try clear kN kE kX kR Qb)) | (refine z0b f1 ?_) | (refine i_lt i1 ?_) | (refine Exists.intro _ (And.intro gx ?_)) | (refine i_at g0 ?_) | (refine And.intro (by kernel_rfl) ?_) | (refine z0r hne ?_) | (refine stpQ ?_))
   refine ⟨x + 1, by omega, by omega, ?_⟩
   (refine z0a (by rfl) ?_ ?_) <;> (repeat' (first | (exact eqA) | (refine And.intro ?_ ?_) | ((fail_if_success (with_reducible (show _ = _))); (show _ = _))))
  ·obtain rfl : x = 0 + 1 := by omega
   have f1 : ((0 + 1 : Nat) : Int) ≤ 10 := by omega
   have i1 : 0 + 1 < 11 := by omega
   have gx := z14 (0 + 1) i1
   have fn : (z.length : Int) = 5 := by omega
   clear hskip hxj hx1 hx2
   cases hall : (b1 && b2)
   ·have hB : (!((false || !b2) || !b1)) = false := by revert hall; cases b2 <;> cases b1 <;> decide
    repeat ((try conv => whnf); first | (with_reducible first | refine z08 (fun Qs hN hE hR => ?_) | refine z06 ?_ | refine z00 (fun Qb kN kE kX kR => ?_) | refine z02 ?_ | refine z03 ?_ | refine z07 ?_ | refine z04 ?_ | refine z05 ?_ | (show W _ _ _ (.cond _ _ _) _ _; refine z01 rfl ?_) | (refine hN _ ?_; try clear hN hE hR Qs) | ((first | refine hE _ _ ?_ | refine hR _ ?_); try clear hN hE hR Qs) | ((first | refine kN _ ?_ | refine kE _ ?_ | refine kX _ _ rfl ?_ | refine kR _ ?_); try clear kN kE kX kR Qb)) | (refine z0b f1 ?_) | (refine i_lt i1 ?_) | (refine Exists.intro _ (And.intro gx ?_)) | (refine i_at g0 ?_) | (refine i_at g3 ?_) | (refine i_at g4 ?_) | (refine And.intro (by kernel_rfl) ?_) | (refine z0j he ?_) | (refine z0j fn ?_) | (refine ccB ([2]) (n2) ?_) | (refine ccB ([2]) (n1) ?_) | (refine ccA ([]) (ce) ?_) | (refine cb_f hB ?_) | (refine z0b h4 ?_) | (refine stpQ ?_))
    refine hQ1 _ _ ?_
    clear hQ1 Q1
    repeat ((try conv => whnf); first | (with_reducible first | refine z08 (fun Qs hN hE hR => ?_) | refine z06 ?_ | refine z00 (fun Qb kN kE kX kR => ?_) | refine z02 ?_ | refine z03 ?_ | refine z07 ?_ | refine z04 ?_ | refine z05 ?_ | (show W _ _ _ (.cond _ _ _) _ _; refine z01 rfl ?_) | (refine hN _ ?_; try clear hN hE hR Qs) | ((first | refine hE _ _ ?_ | refine hR _ ?_); try clear hN hE hR Qs) | ((first | refine kN _ ?_ | refine kE _ ?_ | refine kX _ _ rfl ?_ | refine kR _ ?_); try clear kN kE kX kR Qb)) | (refine stpQ ?_))
    (refine z09 (by rfl) ?_ ?_ (by rfl)) <;> (repeat' (first | (exact eqA) | (refine And.intro ?_ ?_) | ((fail_if_success (with_reducible (show _ = _))); (show _ = _)))) <;> first | (rw [hall]; done) | (rw [hall]; rfl)
   ·have hB : (!((false || !b2) || !b1)) = true := by revert hall; cases b2 <;> cases b1 <;> decide
    repeat ((try conv => whnf); first | (with_reducible first | refine z08 (fun Qs hN hE hR => ?_) | refine z06 ?_ | refine z00 (fun Qb kN kE kX kR => ?_) | refine z02 ?_ | refine z03 ?_ | refine z07 ?_ | refine z04 ?_ | refine z05 ?_ | (show W _ _ _ (.cond _ _ _) _ _; refine z01 rfl ?_) | (refine hN _ ?_; try clear hN hE hR Qs) | ((first | refine hE _ _ ?_ | refine hR _ ?_); try clear hN hE hR Qs) | ((first | refine kN _ ?_ | refine kE _ ?_ | refine kX _ _ rfl ?_ | refine kR _ ?_); try clear kN kE kX kR Qb)) | (refine z0b f1 ?_) | (refine i_lt i1 ?_) | (refine Exists.intro _ (And.intro gx ?_)) | (refine i_at g0 ?_) | (refine i_at g3 ?_) | (refine i_at g4 ?_) | (refine And.intro (by kernel_rfl) ?_) | (refine z0j he ?_) | (refine z0j fn ?_) | (refine ccB ([2]) (n2) ?_) | (refine ccB ([2]) (n1) ?_) | (refine ccA ([]) (ce) ?_) | (refine cb_t hB ?_) | (refine z0b h4 ?_) | (refine stpQ ?_))
    refine hQ1 _ _ ?_
    clear hQ1 Q1
    repeat ((try conv => whnf); first | (with_reducible first | refine z08 (fun Qs hN hE hR => ?_) | refine z06 ?_ | refine z00 (fun Qb kN kE kX kR => ?_) | refine z02 ?_ | refine z03 ?_ | refine z07 ?_ | refine z04 ?_ | refine z05 ?_ | (show W _ _ _ (.cond _ _ _) _ _; refine z01 rfl ?_) | (refine hN _ ?_; try clear hN hE hR Qs) | ((first | refine hE _ _ ?_ | refine hR _ ?_); try clear hN hE hR Qs) | ((first | refine kN _ ?_ | refine kE _ ?_ | refine kX _ _ rfl ?_ | refine kR _ ?_); try clear kN kE kX kR Qb)) | (refine stpQ ?_))
    (refine z09 (by rfl) ?_ ?_ (by rfl)) <;> (repeat' (first | (exact eqA) | (refine And.intro ?_ ?_) | ((fail_if_success (with_reducible (show _ = _))); (show _ = _)))) <;> first | (rw [hall]; done) | (rw [hall]; rfl)
theorem za2 (p : List Bs) (j : Nat) (hj : j = 0) (h4 : ¬ pt p 4 = [45]) (hw : mvL.getD j [] = pt p 0) (hl : p.length = mvN j) (hb : (pt p 3).length ≤ 600 ∧ (pt p 4).length ≤ 600) :
 CT Tryd.prog 43 [] [.sl 1 (strE p)] (.tup [.agg (evC (mvE j p)), .bool (mvB j p && evOk (mvE j p))]) [] := by
 have hj10 : j < 10 := by omega
 subst hj
 have hl : p.length = 5 := hl.trans (by rfl)
 have g0 := z0g (p := p) (i := 0) (by omega)
 have g1 := z0g (p := p) (i := 1) (by omega)
 have g2 := z0g (p := p) (i := 2) (by omega)
 have g3 := z0g (p := p) (i := 3) (by omega)
 have g4 := z0g (p := p) (i := 4) (by omega)
 have hcl : (strE p).length = 5 := by rw [z0h]; exact hl
 have n2 := z0G p 2 (pt p 2) (z0V (by omega)) (false)
 have n1 := z0G p 1 (pt p 1) (z0V (by omega)) (false || !isB (pt p 2))
 have hM : mvB 0 p = (isB (pt p 1) && isB (pt p 2)) := by simp [mvB]
 have hE : mvE 0 p = { k := 1, h := decV (pt p 1), mk := ((0 + 1 : Nat) : Int), ci := decV (pt p 2), cn := pt p 3, cv := pt p 4 } := by simp [mvE, h4]
 rw [hM, hE]
 have ce := z0D { k := 1, h := decV (pt p 1), mk := ((0 + 1 : Nat) : Int), ci := decV (pt p 2), cn := pt p 3, cv := pt p 4 } ⟨by (have := hb.1; show ((pt p 3).length : Int) ≤ 1000000000; omega), by (have := hb.2; show ((pt p 4).length : Int) ≤ 1000000000; omega)⟩
 generalize hq : evOk { k := 1, h := decV (pt p 1), mk := ((0 + 1 : Nat) : Int), ci := decV (pt p 2), cn := pt p 3, cv := pt p 4 } = q at ce ⊢
 clear hq hE hM hl
 generalize (decV (pt p 2) : Int) = v2 at *
 generalize isB (pt p 2) = b2 at *
 generalize (decV (pt p 1) : Int) = v1 at *
 generalize isB (pt p 1) = b1 at *
 generalize pt p 3 = s3 at *
 generalize pt p 4 = s4 at *
 have hskip : ∀ x, 1 ≤ x → x < 0 + 1 → ¬ mvW.getD x [] = pt p 0 := fun x h1 h2 => z2q hj10 hw h1 h2
 have he : mvW.getD (0 + 1) [] = pt p 0 := by rw [z1n 0 hj10, hw]
 generalize pt p 0 = w at *
 generalize strE p = z at *
 clear hw hb
 refine z0d z0f 1 rfl Tryd.func43 rfl rfl rfl ?_
 conv => arg 6; whnf
 repeat ((try conv => whnf); first | (with_reducible first | refine z08 (fun Qs hN hE hR => ?_) | refine z06 ?_ | refine z00 (fun Qb kN kE kX kR => ?_) | refine z02 ?_ | refine z03 ?_ | refine z07 ?_ | refine z04 ?_ | refine z05 ?_ | (show W _ _ _ (.cond _ _ _) _ _; refine z01 rfl ?_) | (refine hN _ ?_; try clear hN hE hR Qs) | ((first | refine hE _ _ ?_ | refine hR _ ?_); try clear hN hE hR Qs) | ((first | refine kN _ ?_ | refine kE _ ?_ | refine kX _ _ rfl ?_ | refine kR _ ?_); try clear kN kE kX kR Qb)) | (refine stpQ ?_))
 refine z0p Nat (fun x => ⟨[(0, .sl 1 z), (2, .ptr 1 0 0), (4, .ptr 2 0 0), (5, .int .i64 (x : Int))], [(1, some (.box zEv)), (2, some (.box [.sl 1 z, .bool false]))], 3⟩) (fun x => 1 ≤ x ∧ x ≤ 0 + 1) (fun x => 0 + 1 + 1 - x) 1 (by omega) ?_ ?_
 ·(refine z0a (by rfl) ?_ ?_) <;> (repeat' (first | (exact eqA) | (refine And.intro ?_ ?_) | ((fail_if_success (with_reducible (show _ = _))); (show _ = _)))) <;> first | rfl | decide
 ·intro Q1 hQ1 x hx
  obtain ⟨hx1, hx2⟩ := hx
  by_cases hxj : x < 0 + 1
  ·have f1 : (x : Int) ≤ 10 := by omega
   have i1 : x < 11 := by omega
   have gx := z14 x i1
   have hne := hskip x hx1 hxj
   clear hskip
   repeat ((try conv => whnf); first | (with_reducible first | refine z08 (fun Qs hN hE hR => ?_) | refine z06 ?_ | refine z00 (fun Qb kN kE kX kR => ?_) | refine z02 ?_ | refine z03 ?_ | refine z07 ?_ | refine z04 ?_ | refine z05 ?_ | (show W _ _ _ (.cond _ _ _) _ _; refine z01 rfl ?_) | (refine hN _ ?_; try clear hN hE hR Qs) | ((first | refine hE _ _ ?_ | refine hR _ ?_); try clear hN hE hR Qs) | ((first | refine kN _ ?_ | refine kE _ ?_ | refine kX _ _ rfl ?_ | refine kR _ ?_); try clear kN kE kX kR Qb)) | (refine z0b f1 ?_) | (refine i_lt i1 ?_) | (refine Exists.intro _ (And.intro gx ?_)) | (refine i_at g0 ?_) | (refine And.intro (by kernel_rfl) ?_) | (refine z0r hne ?_) | (refine stpQ ?_))
   refine ⟨x + 1, by omega, by omega, ?_⟩
   (refine z0a (by rfl) ?_ ?_) <;> (repeat' (first | (exact eqA) | (refine And.intro ?_ ?_) | ((fail_if_success (with_reducible (show _ = _))); (show _ = _))))
  ·obtain rfl : x = 0 + 1 := by omega
   have f1 : ((0 + 1 : Nat) : Int) ≤ 10 := by omega
   have i1 : 0 + 1 < 11 := by omega
   have gx := z14 (0 + 1) i1
   have fn : (z.length : Int) = 5 := by omega
   clear hskip hxj hx1 hx2
   cases hall : (b1 && b2)
   ·have hB : (!((false || !b2) || !b1)) = false := by revert hall; cases b2 <;> cases b1 <;> decide
    repeat ((try conv => whnf); first | (with_reducible first | refine z08 (fun Qs hN hE hR => ?_) | refine z06 ?_ | refine z00 (fun Qb kN kE kX kR => ?_) | refine z02 ?_ | refine z03 ?_ | refine z07 ?_ | refine z04 ?_ | refine z05 ?_ | (show W _ _ _ (.cond _ _ _) _ _; refine z01 rfl ?_) | (refine hN _ ?_; try clear hN hE hR Qs) | ((first | refine hE _ _ ?_ | refine hR _ ?_); try clear hN hE hR Qs) | ((first | refine kN _ ?_ | refine kE _ ?_ | refine kX _ _ rfl ?_ | refine kR _ ?_); try clear kN kE kX kR Qb)) | (refine z0b f1 ?_) | (refine i_lt i1 ?_) | (refine Exists.intro _ (And.intro gx ?_)) | (refine i_at g0 ?_) | (refine i_at g3 ?_) | (refine i_at g4 ?_) | (refine And.intro (by kernel_rfl) ?_) | (refine z0j he ?_) | (refine z0j fn ?_) | (refine ccB ([2]) (n2) ?_) | (refine ccB ([2]) (n1) ?_) | (refine ccA ([]) (ce) ?_) | (refine cb_f hB ?_) | (refine z0c h4 ?_) | (refine stpQ ?_))
    refine hQ1 _ _ ?_
    clear hQ1 Q1
    repeat ((try conv => whnf); first | (with_reducible first | refine z08 (fun Qs hN hE hR => ?_) | refine z06 ?_ | refine z00 (fun Qb kN kE kX kR => ?_) | refine z02 ?_ | refine z03 ?_ | refine z07 ?_ | refine z04 ?_ | refine z05 ?_ | (show W _ _ _ (.cond _ _ _) _ _; refine z01 rfl ?_) | (refine hN _ ?_; try clear hN hE hR Qs) | ((first | refine hE _ _ ?_ | refine hR _ ?_); try clear hN hE hR Qs) | ((first | refine kN _ ?_ | refine kE _ ?_ | refine kX _ _ rfl ?_ | refine kR _ ?_); try clear kN kE kX kR Qb)) | (refine stpQ ?_))
    (refine z09 (by rfl) ?_ ?_ (by rfl)) <;> (repeat' (first | (exact eqA) | (refine And.intro ?_ ?_) | ((fail_if_success (with_reducible (show _ = _))); (show _ = _)))) <;> first | (rw [hall]; done) | (rw [hall]; rfl)
   ·have hB : (!((false || !b2) || !b1)) = true := by revert hall; cases b2 <;> cases b1 <;> decide
    repeat ((try conv => whnf); first | (with_reducible first | refine z08 (fun Qs hN hE hR => ?_) | refine z06 ?_ | refine z00 (fun Qb kN kE kX kR => ?_) | refine z02 ?_ | refine z03 ?_ | refine z07 ?_ | refine z04 ?_ | refine z05 ?_ | (show W _ _ _ (.cond _ _ _) _ _; refine z01 rfl ?_) | (refine hN _ ?_; try clear hN hE hR Qs) | ((first | refine hE _ _ ?_ | refine hR _ ?_); try clear hN hE hR Qs) | ((first | refine kN _ ?_ | refine kE _ ?_ | refine kX _ _ rfl ?_ | refine kR _ ?_); try clear kN kE kX kR Qb)) | (refine z0b f1 ?_) | (refine i_lt i1 ?_) | (refine Exists.intro _ (And.intro gx ?_)) | (refine i_at g0 ?_) | (refine i_at g3 ?_) | (refine i_at g4 ?_) | (refine And.intro (by kernel_rfl) ?_) | (refine z0j he ?_) | (refine z0j fn ?_) | (refine ccB ([2]) (n2) ?_) | (refine ccB ([2]) (n1) ?_) | (refine ccA ([]) (ce) ?_) | (refine cb_t hB ?_) | (refine z0c h4 ?_) | (refine stpQ ?_))
    refine hQ1 _ _ ?_
    clear hQ1 Q1
    repeat ((try conv => whnf); first | (with_reducible first | refine z08 (fun Qs hN hE hR => ?_) | refine z06 ?_ | refine z00 (fun Qb kN kE kX kR => ?_) | refine z02 ?_ | refine z03 ?_ | refine z07 ?_ | refine z04 ?_ | refine z05 ?_ | (show W _ _ _ (.cond _ _ _) _ _; refine z01 rfl ?_) | (refine hN _ ?_; try clear hN hE hR Qs) | ((first | refine hE _ _ ?_ | refine hR _ ?_); try clear hN hE hR Qs) | ((first | refine kN _ ?_ | refine kE _ ?_ | refine kX _ _ rfl ?_ | refine kR _ ?_); try clear kN kE kX kR Qb)) | (refine stpQ ?_))
    (refine z09 (by rfl) ?_ ?_ (by rfl)) <;> (repeat' (first | (exact eqA) | (refine And.intro ?_ ?_) | ((fail_if_success (with_reducible (show _ = _))); (show _ = _)))) <;> first | (rw [hall]; done) | (rw [hall]; rfl)
theorem z7x (p : List Bs) (h0 : 0 < p.length) (hb : ∀ i, (pt p i).length ≤ 600) :
 CT Tryd.prog 43 [] [.sl 1 (strE p)] (.tup [.agg (evC (evR (rawM p))), .bool (okR (rawM p) && evOk (evR (rawM p)))]) [] := by
 rcases zaD (w := pt p 0) with ⟨j, hj, hw, hi⟩ | ⟨hi, hn⟩
 ·by_cases hl : p.length = mvN j
  ·have hr : rawM p = some (mvE j p, mvB j p) := by rw [rawM, hi, if_pos ⟨hj, hl⟩]
   rw [hr]
   show CT _ _ _ _ (.tup [.agg (evC (mvE j p)), .bool (mvB j p && evOk (mvE j p))]) _
   by_cases k0 : j = 0
   ·by_cases h4 : pt p 4 = [45]
    ·exact za1 p j k0 h4 hw hl ⟨hb 3, hb 4⟩
    ·exact za2 p j k0 h4 hw hl ⟨hb 3, hb 4⟩
   by_cases k1 : j = 1
   ·subst k1; exact zbm p _ rfl hw hl ⟨hb 3, hb 4⟩
   by_cases k2 : j = 2
   ·subst k2; exact zbn p _ rfl hw hl ⟨hb 3, hb 4⟩
   by_cases k3 : j = 3
   ·subst k3; exact zbo p _ rfl hw hl ⟨hb 3, hb 4⟩
   by_cases k8 : j = 8
   ·subst k8; exact zbp p _ rfl hw hl ⟨hb 3, hb 4⟩
   by_cases k9 : j = 9
   ·subst k9; exact zbq p _ rfl hw hl ⟨hb 3, hb 4⟩
   exact za0 p j ⟨by omega, by omega⟩ hw hl ⟨hb 3, hb 4⟩
  ·have hr : rawM p = none := by rw [rawM, hi, if_neg (fun c => hl c.2)]
   rw [hr]
   exact z9Z p j hj h0 hw hl
 ·have hr : rawM p = none := by rw [rawM, hi, if_neg (fun c => by have := c.1; omega)]
  rw [hr]
  exact zbl p h0 hn
end
end Go.Proofs.YtfgkjgfigjpkoaaDoor
