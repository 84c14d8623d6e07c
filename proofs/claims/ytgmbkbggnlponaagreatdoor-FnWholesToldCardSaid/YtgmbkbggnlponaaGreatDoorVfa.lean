/- Functions by content: a complete proof of any content is verified alike by both sides. -/
import Derived.Test.YtgmbkbggnlponaaGreatDoorStb
import Derived.Test.YtgmbkbggnlponaaGreatDoorVe
namespace Go.Proofs.YtgmbkbggnlponaaGreatDoor
set_option maxRecDepth 100000
set_option maxHeartbeats 8000000
set_option linter.unusedVariables false
set_option linter.unusedSimpArgs false
set_option linter.unusedSectionVars false
open Go.RowKit Pl
def slA (root : Bs) (ho ep : Int) (ro pr : Bs) (a : Int) (op sh si : List Bs) : Bool := z2C ho ep ro pr && (decide (a = ep - 1) && (z2D a op sh si && decide (z3A (z1k ⟨ho.toNat, ep.toNat, ro, pr⟩) ⟨a.toNat, op, sh, si⟩ = root)))
section
attribute [local irreducible] z0t z0u z0y AnsP LeP W CvE
theorem zfu (root : Bs) (ho ep : Int) (ro pr : Bs) (a : Int) (op sh si : List Bs) (h1 : op.length ≤ 1048576) (h2 : sh.length ≤ 1048576) (h3 : si.length ≤ 1048576) : CT Tryz.prog 18 [] [.str root, .agg [.int .i64 ho, .int .i64 ep, .str ro, .str pr, .int .i64 a, .sl 1 (strE op), .sl 1 (strE sh), .sl 1 (strE si)]] (.bool (slA root ho ep ro pr a op sh si)) [] := by
 have c1 := z78 ho ep ro pr
 unfold slA
 unfold z2I at c1
 cases hh : z2C ho ep ro pr with
 | false =>
   rw [hh] at c1
   rw [Bool.false_and]
   refine z01 z0d 1 rfl Tryz.func18 rfl rfl rfl ?_
   conv => arg 6; whnf
   repeat ((try conv => whnf); first | (with_reducible first | refine z0b (fun Qs hN hE hR => ?_) | refine z09 ?_ | refine z03 (fun Qb kN kE kX kR => ?_) | refine z05 ?_ | refine z06 ?_ | refine z0a ?_ | refine z07 ?_ | refine z08 ?_ | (show W _ _ _ (.cond _ _ _) _ _; refine z04 rfl ?_) | (refine hN _ ?_; try clear hN hE hR Qs; (try (conv => arg 6; dsimp only [ovl, List.set, List.map, ren0]))) | ((first | refine hE _ _ ?_ | refine hR _ ?_); try clear hN hE hR Qs) | ((first | refine kN _ ?_ | refine kE _ ?_ | refine kX _ _ rfl ?_ | refine kR _ ?_); try clear kN kE kX kR Qb)) | (refine ccA ([]) (c1) ?_) | (refine And.intro (by kernel_rfl) ?_) | (refine stpQ ?_))
   (refine z00 (by rfl) ?_ ?_ (by rfl)) <;> (repeat' (first | (exact eqA) | (refine And.intro ?_ ?_) | ((fail_if_success (with_reducible (show _ = _))); (show _ = _)))) <;> rfl
 | true =>
   rw [hh] at c1
   rw [Bool.true_and]
   obtain ⟨ho', ep', rfl, rfl, g⟩ := z9a hh
   have c2 := zgv ep' ⟨g.2.1, g.2.2.1⟩
   have c3 := z88 ⟨ho', ep', ro, pr⟩ g
   unfold hdE at c3
   simp only [Int.toNat_natCast] at c3 ⊢
   have h01 : 1 ≤ ep' := g.2.1
   have e4 : ((ep' - 1 : Nat) : Int) = (ep' : Int) - 1 := by omega
   rw [e4] at c2
   by_cases ha : a = (ep' : Int) - 1
   ·rw [decide_eq_true ha, Bool.true_and]
    cases hs : z2D a op sh si with
    | false =>
      rw [Bool.false_and]
      have c4 := zcO root (z1k ⟨ho', ep', ro, pr⟩) a op sh si h1 h2 h3 hs
      unfold z23 at c4
      generalize z1k ⟨ho', ep', ro, pr⟩ = ST at c3 c4
      refine z01 z0d 1 rfl Tryz.func18 rfl rfl rfl ?_
      conv => arg 6; whnf
      repeat ((try conv => whnf); first | (with_reducible first | refine z0b (fun Qs hN hE hR => ?_) | refine z09 ?_ | refine z03 (fun Qb kN kE kX kR => ?_) | refine z05 ?_ | refine z06 ?_ | refine z0a ?_ | refine z07 ?_ | refine z08 ?_ | (show W _ _ _ (.cond _ _ _) _ _; refine z04 rfl ?_) | (refine hN _ ?_; try clear hN hE hR Qs; (try (conv => arg 6; dsimp only [ovl, List.set, List.map, ren0]))) | ((first | refine hE _ _ ?_ | refine hR _ ?_); try clear hN hE hR Qs) | ((first | refine kN _ ?_ | refine kE _ ?_ | refine kX _ _ rfl ?_ | refine kR _ ?_); try clear kN kE kX kR Qb)) | (refine ccA ([]) (c1) ?_) | (refine ccA ([]) (c2) ?_) | (refine ccA ([]) (c3) ?_) | (refine ccA ([]) (c4) ?_) | (refine z0i ha ?_) | (refine And.intro (by kernel_rfl) ?_) | (refine stpQ ?_))
      (refine z00 (by rfl) ?_ ?_ (by rfl)) <;> (repeat' (first | (exact eqA) | (refine And.intro ?_ ?_) | ((fail_if_success (with_reducible (show _ = _))); (show _ = _)))) <;> rfl
    | true =>
      rw [Bool.true_and]
      obtain ⟨a', rfl, gs⟩ := z9b hs
      have c4 : CT Tryz.prog _ [] [.str root, .str (z1k ⟨ho', ep', ro, pr⟩), _] _ [] := zfl _ _ ⟨a', op, sh, si⟩ gs (by rw [z4s]; omega)
      unfold sgE at c4
      simp only [Int.toNat_natCast] at c4 ⊢
      generalize decide (z3A (z1k ⟨ho', ep', ro, pr⟩) ⟨a', op, sh, si⟩ = root) = B at c4 ⊢
      generalize z1k ⟨ho', ep', ro, pr⟩ = ST at c3 c4
      refine z01 z0d 1 rfl Tryz.func18 rfl rfl rfl ?_
      conv => arg 6; whnf
      repeat ((try conv => whnf); first | (with_reducible first | refine z0b (fun Qs hN hE hR => ?_) | refine z09 ?_ | refine z03 (fun Qb kN kE kX kR => ?_) | refine z05 ?_ | refine z06 ?_ | refine z0a ?_ | refine z07 ?_ | refine z08 ?_ | (show W _ _ _ (.cond _ _ _) _ _; refine z04 rfl ?_) | (refine hN _ ?_; try clear hN hE hR Qs; (try (conv => arg 6; dsimp only [ovl, List.set, List.map, ren0]))) | ((first | refine hE _ _ ?_ | refine hR _ ?_); try clear hN hE hR Qs) | ((first | refine kN _ ?_ | refine kE _ ?_ | refine kX _ _ rfl ?_ | refine kR _ ?_); try clear kN kE kX kR Qb)) | (refine ccA ([]) (c1) ?_) | (refine ccA ([]) (c2) ?_) | (refine ccA ([]) (c3) ?_) | (refine ccA ([]) (c4) ?_) | (refine z0i ha ?_) | (refine And.intro (by kernel_rfl) ?_) | (refine stpQ ?_))
      (refine z00 (by rfl) ?_ ?_ (by rfl)) <;> (repeat' (first | (exact eqA) | (refine And.intro ?_ ?_) | ((fail_if_success (with_reducible (show _ = _))); (show _ = _)))) <;> rfl
   ·rw [decide_eq_false ha, Bool.false_and]
    refine z01 z0d 1 rfl Tryz.func18 rfl rfl rfl ?_
    conv => arg 6; whnf
    repeat ((try conv => whnf); first | (with_reducible first | refine z0b (fun Qs hN hE hR => ?_) | refine z09 ?_ | refine z03 (fun Qb kN kE kX kR => ?_) | refine z05 ?_ | refine z06 ?_ | refine z0a ?_ | refine z07 ?_ | refine z08 ?_ | (show W _ _ _ (.cond _ _ _) _ _; refine z04 rfl ?_) | (refine hN _ ?_; try clear hN hE hR Qs; (try (conv => arg 6; dsimp only [ovl, List.set, List.map, ren0]))) | ((first | refine hE _ _ ?_ | refine hR _ ?_); try clear hN hE hR Qs) | ((first | refine kN _ ?_ | refine kE _ ?_ | refine kX _ _ rfl ?_ | refine kR _ ?_); try clear kN kE kX kR Qb)) | (refine ccA ([]) (c1) ?_) | (refine ccA ([]) (c2) ?_) | (refine z0k ha ?_) | (refine And.intro (by kernel_rfl) ?_) | (refine stpQ ?_))
    (refine z00 (by rfl) ?_ ?_ (by rfl)) <;> (repeat' (first | (exact eqA) | (refine And.intro ?_ ?_) | ((fail_if_success (with_reducible (show _ = _))); (show _ = _)))) <;> rfl
theorem zdQ (root : Bs) (ho ep : Int) (ro pr : Bs) (a : Int) (op sh si : List Bs) (h1 : op.length ≤ 1048576) (h2 : sh.length ≤ 1048576) (h3 : si.length ≤ 1048576) : CT Tryz.prog 26 [] [.str root, .agg [.int .i64 ho, .int .i64 ep, .str ro, .str pr, .int .i64 a, .sl 1 (strE op), .sl 1 (strE sh), .sl 1 (strE si)]] (.bool (slA root ho ep ro pr a op sh si)) [] := by
 have c1 := z46 ho ep ro pr
 unfold slA
 unfold z2I at c1
 cases hh : z2C ho ep ro pr with
 | false =>
   rw [hh] at c1
   rw [Bool.false_and]
   refine z01 z0d 1 rfl Tryz.func26 rfl rfl rfl ?_
   conv => arg 6; whnf
   repeat ((try conv => whnf); first | (with_reducible first | refine z0b (fun Qs hN hE hR => ?_) | refine z09 ?_ | refine z03 (fun Qb kN kE kX kR => ?_) | refine z05 ?_ | refine z06 ?_ | refine z0a ?_ | refine z07 ?_ | refine z08 ?_ | (show W _ _ _ (.cond _ _ _) _ _; refine z04 rfl ?_) | (refine hN _ ?_; try clear hN hE hR Qs; (try (conv => arg 6; dsimp only [ovl, List.set, List.map, ren0]))) | ((first | refine hE _ _ ?_ | refine hR _ ?_); try clear hN hE hR Qs) | ((first | refine kN _ ?_ | refine kE _ ?_ | refine kX _ _ rfl ?_ | refine kR _ ?_); try clear kN kE kX kR Qb)) | (refine ccA ([]) (c1) ?_) | (refine And.intro (by kernel_rfl) ?_) | (refine stpQ ?_))
   (refine z00 (by rfl) ?_ ?_ (by rfl)) <;> (repeat' (first | (exact eqA) | (refine And.intro ?_ ?_) | ((fail_if_success (with_reducible (show _ = _))); (show _ = _)))) <;> rfl
 | true =>
   rw [hh] at c1
   rw [Bool.true_and]
   obtain ⟨ho', ep', rfl, rfl, g⟩ := z9a hh
   have c2 := zav ep' ⟨g.2.1, g.2.2.1⟩
   have c3 := z4x ⟨ho', ep', ro, pr⟩ g
   unfold hdE at c3
   simp only [Int.toNat_natCast] at c3 ⊢
   have h01 : 1 ≤ ep' := g.2.1
   have e4 : ((ep' - 1 : Nat) : Int) = (ep' : Int) - 1 := by omega
   rw [e4] at c2
   by_cases ha : a = (ep' : Int) - 1
   ·rw [decide_eq_true ha, Bool.true_and]
    cases hs : z2D a op sh si with
    | false =>
      rw [Bool.false_and]
      have c4 := zaB root (z1k ⟨ho', ep', ro, pr⟩) a op sh si h1 h2 h3 hs
      unfold z23 at c4
      generalize z1k ⟨ho', ep', ro, pr⟩ = ST at c3 c4
      refine z01 z0d 1 rfl Tryz.func26 rfl rfl rfl ?_
      conv => arg 6; whnf
      repeat ((try conv => whnf); first | (with_reducible first | refine z0b (fun Qs hN hE hR => ?_) | refine z09 ?_ | refine z03 (fun Qb kN kE kX kR => ?_) | refine z05 ?_ | refine z06 ?_ | refine z0a ?_ | refine z07 ?_ | refine z08 ?_ | (show W _ _ _ (.cond _ _ _) _ _; refine z04 rfl ?_) | (refine hN _ ?_; try clear hN hE hR Qs; (try (conv => arg 6; dsimp only [ovl, List.set, List.map, ren0]))) | ((first | refine hE _ _ ?_ | refine hR _ ?_); try clear hN hE hR Qs) | ((first | refine kN _ ?_ | refine kE _ ?_ | refine kX _ _ rfl ?_ | refine kR _ ?_); try clear kN kE kX kR Qb)) | (refine ccA ([]) (c1) ?_) | (refine ccA ([]) (c2) ?_) | (refine ccA ([]) (c3) ?_) | (refine ccA ([]) (c4) ?_) | (refine z0i ha ?_) | (refine And.intro (by kernel_rfl) ?_) | (refine stpQ ?_))
      (refine z00 (by rfl) ?_ ?_ (by rfl)) <;> (repeat' (first | (exact eqA) | (refine And.intro ?_ ?_) | ((fail_if_success (with_reducible (show _ = _))); (show _ = _)))) <;> rfl
    | true =>
      rw [Bool.true_and]
      obtain ⟨a', rfl, gs⟩ := z9b hs
      have c4 : CT Tryz.prog _ [] [.str root, .str (z1k ⟨ho', ep', ro, pr⟩), _] _ [] := zaC _ _ ⟨a', op, sh, si⟩ gs (by rw [z4s]; omega)
      unfold sgE at c4
      simp only [Int.toNat_natCast] at c4 ⊢
      generalize decide (z3A (z1k ⟨ho', ep', ro, pr⟩) ⟨a', op, sh, si⟩ = root) = B at c4 ⊢
      generalize z1k ⟨ho', ep', ro, pr⟩ = ST at c3 c4
      refine z01 z0d 1 rfl Tryz.func26 rfl rfl rfl ?_
      conv => arg 6; whnf
      repeat ((try conv => whnf); first | (with_reducible first | refine z0b (fun Qs hN hE hR => ?_) | refine z09 ?_ | refine z03 (fun Qb kN kE kX kR => ?_) | refine z05 ?_ | refine z06 ?_ | refine z0a ?_ | refine z07 ?_ | refine z08 ?_ | (show W _ _ _ (.cond _ _ _) _ _; refine z04 rfl ?_) | (refine hN _ ?_; try clear hN hE hR Qs; (try (conv => arg 6; dsimp only [ovl, List.set, List.map, ren0]))) | ((first | refine hE _ _ ?_ | refine hR _ ?_); try clear hN hE hR Qs) | ((first | refine kN _ ?_ | refine kE _ ?_ | refine kX _ _ rfl ?_ | refine kR _ ?_); try clear kN kE kX kR Qb)) | (refine ccA ([]) (c1) ?_) | (refine ccA ([]) (c2) ?_) | (refine ccA ([]) (c3) ?_) | (refine ccA ([]) (c4) ?_) | (refine z0i ha ?_) | (refine And.intro (by kernel_rfl) ?_) | (refine stpQ ?_))
      (refine z00 (by rfl) ?_ ?_ (by rfl)) <;> (repeat' (first | (exact eqA) | (refine And.intro ?_ ?_) | ((fail_if_success (with_reducible (show _ = _))); (show _ = _)))) <;> rfl
   ·rw [decide_eq_false ha, Bool.false_and]
    refine z01 z0d 1 rfl Tryz.func26 rfl rfl rfl ?_
    conv => arg 6; whnf
    repeat ((try conv => whnf); first | (with_reducible first | refine z0b (fun Qs hN hE hR => ?_) | refine z09 ?_ | refine z03 (fun Qb kN kE kX kR => ?_) | refine z05 ?_ | refine z06 ?_ | refine z0a ?_ | refine z07 ?_ | refine z08 ?_ | (show W _ _ _ (.cond _ _ _) _ _; refine z04 rfl ?_) | (refine hN _ ?_; try clear hN hE hR Qs; (try (conv => arg 6; dsimp only [ovl, List.set, List.map, ren0]))) | ((first | refine hE _ _ ?_ | refine hR _ ?_); try clear hN hE hR Qs) | ((first | refine kN _ ?_ | refine kE _ ?_ | refine kX _ _ rfl ?_ | refine kR _ ?_); try clear kN kE kX kR Qb)) | (refine ccA ([]) (c1) ?_) | (refine ccA ([]) (c2) ?_) | (refine z0k ha ?_) | (refine And.intro (by kernel_rfl) ?_) | (refine stpQ ?_))
    (refine z00 (by rfl) ?_ ?_ (by rfl)) <;> (repeat' (first | (exact eqA) | (refine And.intro ?_ ?_) | ((fail_if_success (with_reducible (show _ = _))); (show _ = _)))) <;> rfl
end
def trB (R : List Bs) (K need : Int) : Bool := inB (R.length : Int) 1 3 && ((R.all fun x => decide ((x.length : Int) = 16)) && (inB K 0 2 && inB need 0 2))
section
attribute [local irreducible] z0t z0u z0y AnsP LeP W CvE
theorem z8c (R : List Bs) (K need : Int) (hRn : R.length ≤ 1000) : CT Tryz.prog 13 [] [.agg [.sl 1 (strE R), .int .i64 K, .int .i64 need]] (.bool (trB R K need)) [] := by
 have hl := z0c R
 have c1 := c_in (R.length : Int) 1 3
 have c2 := z1r R (R.length : Int) 16 (by omega)
 rw [decide_eq_true (show (R.length : Int) = (R.length : Int) from rfl), Bool.and_true] at c2
 have c3 := zfj K
 have c4 := c_in need 0 2
 unfold trB
 generalize inB (R.length : Int) 1 3 = b1 at c1 ⊢
 generalize (R.all fun x => decide ((x.length : Int) = 16)) = b2 at c2 ⊢
 generalize inB K 0 2 = b3 at c3 ⊢
 generalize inB need 0 2 = b4 at c4 ⊢
 cases b1
 ·refine z01 z0d 1 rfl Tryz.func13 rfl rfl rfl ?_
  repeat ((try conv => whnf); first | (with_reducible first | refine z0b (fun Qs hN hE hR => ?_) | refine z09 ?_ | refine z03 (fun Qb kN kE kX kR => ?_) | refine z05 ?_ | refine z06 ?_ | refine z0a ?_ | refine z07 ?_ | refine z08 ?_ | (show W _ _ _ (.cond _ _ _) _ _; refine z04 rfl ?_) | (refine hN _ ?_; try clear hN hE hR Qs; (try (conv => arg 6; dsimp only [ovl, List.set, List.map, ren0]))) | ((first | refine hE _ _ ?_ | refine hR _ ?_); try clear hN hE hR Qs) | ((first | refine kN _ ?_ | refine kE _ ?_ | refine kX _ _ rfl ?_ | refine kR _ ?_); try clear kN kE kX kR Qb)) | (refine Exists.intro R.length (And.intro hl ?_)) | (refine ccA ([]) (c1) ?_) | (refine ccA ([]) (c2) ?_) | (refine ccA ([]) (c3) ?_) | (refine ccA ([]) (c4) ?_) | (refine And.intro (by kernel_rfl) ?_) | (refine stpQ ?_))
  (refine z00 (by rfl) ?_ ?_ (by rfl)) <;> (repeat' (first | (exact eqA) | (refine And.intro ?_ ?_) | ((fail_if_success (with_reducible (show _ = _))); (show _ = _)))) <;> rfl
 cases b2
 ·refine z01 z0d 1 rfl Tryz.func13 rfl rfl rfl ?_
  repeat ((try conv => whnf); first | (with_reducible first | refine z0b (fun Qs hN hE hR => ?_) | refine z09 ?_ | refine z03 (fun Qb kN kE kX kR => ?_) | refine z05 ?_ | refine z06 ?_ | refine z0a ?_ | refine z07 ?_ | refine z08 ?_ | (show W _ _ _ (.cond _ _ _) _ _; refine z04 rfl ?_) | (refine hN _ ?_; try clear hN hE hR Qs; (try (conv => arg 6; dsimp only [ovl, List.set, List.map, ren0]))) | ((first | refine hE _ _ ?_ | refine hR _ ?_); try clear hN hE hR Qs) | ((first | refine kN _ ?_ | refine kE _ ?_ | refine kX _ _ rfl ?_ | refine kR _ ?_); try clear kN kE kX kR Qb)) | (refine Exists.intro R.length (And.intro hl ?_)) | (refine ccA ([]) (c1) ?_) | (refine ccA ([]) (c2) ?_) | (refine ccA ([]) (c3) ?_) | (refine ccA ([]) (c4) ?_) | (refine And.intro (by kernel_rfl) ?_) | (refine stpQ ?_))
  (refine z00 (by rfl) ?_ ?_ (by rfl)) <;> (repeat' (first | (exact eqA) | (refine And.intro ?_ ?_) | ((fail_if_success (with_reducible (show _ = _))); (show _ = _)))) <;> rfl
 cases b3
 ·refine z01 z0d 1 rfl Tryz.func13 rfl rfl rfl ?_
  repeat ((try conv => whnf); first | (with_reducible first | refine z0b (fun Qs hN hE hR => ?_) | refine z09 ?_ | refine z03 (fun Qb kN kE kX kR => ?_) | refine z05 ?_ | refine z06 ?_ | refine z0a ?_ | refine z07 ?_ | refine z08 ?_ | (show W _ _ _ (.cond _ _ _) _ _; refine z04 rfl ?_) | (refine hN _ ?_; try clear hN hE hR Qs; (try (conv => arg 6; dsimp only [ovl, List.set, List.map, ren0]))) | ((first | refine hE _ _ ?_ | refine hR _ ?_); try clear hN hE hR Qs) | ((first | refine kN _ ?_ | refine kE _ ?_ | refine kX _ _ rfl ?_ | refine kR _ ?_); try clear kN kE kX kR Qb)) | (refine Exists.intro R.length (And.intro hl ?_)) | (refine ccA ([]) (c1) ?_) | (refine ccA ([]) (c2) ?_) | (refine ccA ([]) (c3) ?_) | (refine ccA ([]) (c4) ?_) | (refine And.intro (by kernel_rfl) ?_) | (refine stpQ ?_))
  (refine z00 (by rfl) ?_ ?_ (by rfl)) <;> (repeat' (first | (exact eqA) | (refine And.intro ?_ ?_) | ((fail_if_success (with_reducible (show _ = _))); (show _ = _)))) <;> rfl
 refine z01 z0d 1 rfl Tryz.func13 rfl rfl rfl ?_
 conv => arg 6; whnf
 repeat ((try conv => whnf); first | (with_reducible first | refine z0b (fun Qs hN hE hR => ?_) | refine z09 ?_ | refine z03 (fun Qb kN kE kX kR => ?_) | refine z05 ?_ | refine z06 ?_ | refine z0a ?_ | refine z07 ?_ | refine z08 ?_ | (show W _ _ _ (.cond _ _ _) _ _; refine z04 rfl ?_) | (refine hN _ ?_; try clear hN hE hR Qs; (try (conv => arg 6; dsimp only [ovl, List.set, List.map, ren0]))) | ((first | refine hE _ _ ?_ | refine hR _ ?_); try clear hN hE hR Qs) | ((first | refine kN _ ?_ | refine kE _ ?_ | refine kX _ _ rfl ?_ | refine kR _ ?_); try clear kN kE kX kR Qb)) | (refine Exists.intro R.length (And.intro hl ?_)) | (refine ccA ([]) (c1) ?_) | (refine ccA ([]) (c2) ?_) | (refine ccA ([]) (c3) ?_) | (refine ccA ([]) (c4) ?_) | (refine And.intro (by kernel_rfl) ?_) | (refine stpQ ?_))
 (refine z00 (by rfl) ?_ ?_ (by rfl)) <;> (repeat' (first | (exact eqA) | (refine And.intro ?_ ?_) | ((fail_if_success (with_reducible (show _ = _))); (show _ = _)))) <;> rfl
theorem z7i (R : List Bs) (K need : Int) (hRn : R.length ≤ 1000) : CT Tryz.prog 14 [] [.agg [.sl 1 (strE R), .int .i64 K, .int .i64 need]] (.bool (trB R K need)) [] := by
 have hl := z0c R
 have c1 := z10 (R.length : Int) 1 3
 have c2 := z83 R 16 (by omega)
 rw [show Pl.wideB R 16 = (R.all fun x => decide ((x.length : Int) = 16)) from by unfold Pl.wideB; rw [show inB 16 1 32 = true from rfl, Bool.and_true]] at c2
 have c3 := z10 K 0 2
 have c4 := z10 need 0 2
 unfold trB
 generalize inB (R.length : Int) 1 3 = b1 at c1 ⊢
 generalize (R.all fun x => decide ((x.length : Int) = 16)) = b2 at c2 ⊢
 generalize inB K 0 2 = b3 at c3 ⊢
 generalize inB need 0 2 = b4 at c4 ⊢
 cases b1
 ·refine z01 z0d 1 rfl Tryz.func14 rfl rfl rfl ?_
  repeat ((try conv => whnf); first | (with_reducible first | refine z0b (fun Qs hN hE hR => ?_) | refine z09 ?_ | refine z03 (fun Qb kN kE kX kR => ?_) | refine z05 ?_ | refine z06 ?_ | refine z0a ?_ | refine z07 ?_ | refine z08 ?_ | (show W _ _ _ (.cond _ _ _) _ _; refine z04 rfl ?_) | (refine hN _ ?_; try clear hN hE hR Qs; (try (conv => arg 6; dsimp only [ovl, List.set, List.map, ren0]))) | ((first | refine hE _ _ ?_ | refine hR _ ?_); try clear hN hE hR Qs) | ((first | refine kN _ ?_ | refine kE _ ?_ | refine kX _ _ rfl ?_ | refine kR _ ?_); try clear kN kE kX kR Qb)) | (refine Exists.intro R.length (And.intro hl ?_)) | (refine ccA ([]) (c1) ?_) | (refine ccA ([]) (c2) ?_) | (refine ccA ([]) (c3) ?_) | (refine ccA ([]) (c4) ?_) | (refine And.intro (by kernel_rfl) ?_) | (refine stpQ ?_))
  (refine z00 (by rfl) ?_ ?_ (by rfl)) <;> (repeat' (first | (exact eqA) | (refine And.intro ?_ ?_) | ((fail_if_success (with_reducible (show _ = _))); (show _ = _)))) <;> rfl
 cases b2
 ·refine z01 z0d 1 rfl Tryz.func14 rfl rfl rfl ?_
  repeat ((try conv => whnf); first | (with_reducible first | refine z0b (fun Qs hN hE hR => ?_) | refine z09 ?_ | refine z03 (fun Qb kN kE kX kR => ?_) | refine z05 ?_ | refine z06 ?_ | refine z0a ?_ | refine z07 ?_ | refine z08 ?_ | (show W _ _ _ (.cond _ _ _) _ _; refine z04 rfl ?_) | (refine hN _ ?_; try clear hN hE hR Qs; (try (conv => arg 6; dsimp only [ovl, List.set, List.map, ren0]))) | ((first | refine hE _ _ ?_ | refine hR _ ?_); try clear hN hE hR Qs) | ((first | refine kN _ ?_ | refine kE _ ?_ | refine kX _ _ rfl ?_ | refine kR _ ?_); try clear kN kE kX kR Qb)) | (refine Exists.intro R.length (And.intro hl ?_)) | (refine ccA ([]) (c1) ?_) | (refine ccA ([]) (c2) ?_) | (refine ccA ([]) (c3) ?_) | (refine ccA ([]) (c4) ?_) | (refine And.intro (by kernel_rfl) ?_) | (refine stpQ ?_))
  (refine z00 (by rfl) ?_ ?_ (by rfl)) <;> (repeat' (first | (exact eqA) | (refine And.intro ?_ ?_) | ((fail_if_success (with_reducible (show _ = _))); (show _ = _)))) <;> rfl
 cases b3
 ·refine z01 z0d 1 rfl Tryz.func14 rfl rfl rfl ?_
  repeat ((try conv => whnf); first | (with_reducible first | refine z0b (fun Qs hN hE hR => ?_) | refine z09 ?_ | refine z03 (fun Qb kN kE kX kR => ?_) | refine z05 ?_ | refine z06 ?_ | refine z0a ?_ | refine z07 ?_ | refine z08 ?_ | (show W _ _ _ (.cond _ _ _) _ _; refine z04 rfl ?_) | (refine hN _ ?_; try clear hN hE hR Qs; (try (conv => arg 6; dsimp only [ovl, List.set, List.map, ren0]))) | ((first | refine hE _ _ ?_ | refine hR _ ?_); try clear hN hE hR Qs) | ((first | refine kN _ ?_ | refine kE _ ?_ | refine kX _ _ rfl ?_ | refine kR _ ?_); try clear kN kE kX kR Qb)) | (refine Exists.intro R.length (And.intro hl ?_)) | (refine ccA ([]) (c1) ?_) | (refine ccA ([]) (c2) ?_) | (refine ccA ([]) (c3) ?_) | (refine ccA ([]) (c4) ?_) | (refine And.intro (by kernel_rfl) ?_) | (refine stpQ ?_))
  (refine z00 (by rfl) ?_ ?_ (by rfl)) <;> (repeat' (first | (exact eqA) | (refine And.intro ?_ ?_) | ((fail_if_success (with_reducible (show _ = _))); (show _ = _)))) <;> rfl
 refine z01 z0d 1 rfl Tryz.func14 rfl rfl rfl ?_
 conv => arg 6; whnf
 repeat ((try conv => whnf); first | (with_reducible first | refine z0b (fun Qs hN hE hR => ?_) | refine z09 ?_ | refine z03 (fun Qb kN kE kX kR => ?_) | refine z05 ?_ | refine z06 ?_ | refine z0a ?_ | refine z07 ?_ | refine z08 ?_ | (show W _ _ _ (.cond _ _ _) _ _; refine z04 rfl ?_) | (refine hN _ ?_; try clear hN hE hR Qs; (try (conv => arg 6; dsimp only [ovl, List.set, List.map, ren0]))) | ((first | refine hE _ _ ?_ | refine hR _ ?_); try clear hN hE hR Qs) | ((first | refine kN _ ?_ | refine kE _ ?_ | refine kX _ _ rfl ?_ | refine kR _ ?_); try clear kN kE kX kR Qb)) | (refine Exists.intro R.length (And.intro hl ?_)) | (refine ccA ([]) (c1) ?_) | (refine ccA ([]) (c2) ?_) | (refine ccA ([]) (c3) ?_) | (refine ccA ([]) (c4) ?_) | (refine And.intro (by kernel_rfl) ?_) | (refine stpQ ?_))
 (refine z00 (by rfl) ?_ ?_ (by rfl)) <;> (repeat' (first | (exact eqA) | (refine And.intro ?_ ?_) | ((fail_if_success (with_reducible (show _ = _))); (show _ = _)))) <;> rfl
theorem zfv (h : Bs) (ix K : Nat) (s : List Bs) (hix : ix < 256) (hK : K ≤ 8) (hs : s.length = K) (hh : h.length ≤ 200) (hsl : ∀ x ∈ s, x.length = 16) :
 CT Tryz.prog 27 [] [.str h, .int .i64 (ix : Int), .int .i64 (K : Int), .sl 1 (strE s), .int .i64 16] (.str (z0Y ix 16 (8 - K) h s).2) [] := by
 have c1 := z10 (K : Int) 0 8
 rw [z0r.2 (show (0 : Int) ≤ (K : Int) ∧ (K : Int) ≤ 8 by omega)] at c1
 have hl := (z0c s).trans hs
 have f1 : ¬ (K : Int) > (K : Int) := by omega
 refine z01 z0d 1 rfl Tryz.func27 rfl rfl rfl ?_
 conv => arg 6; whnf
 repeat ((try conv => whnf); first | (with_reducible first | refine z0b (fun Qs hN hE hR => ?_) | refine z09 ?_ | refine z03 (fun Qb kN kE kX kR => ?_) | refine z05 ?_ | refine z06 ?_ | refine z0a ?_ | refine z07 ?_ | refine z08 ?_ | (show W _ _ _ (.cond _ _ _) _ _; refine z04 rfl ?_) | (refine hN _ ?_; try clear hN hE hR Qs; (try (conv => arg 6; dsimp only [ovl, List.set, List.map, ren0]))) | ((first | refine hE _ _ ?_ | refine hR _ ?_); try clear hN hE hR Qs) | ((first | refine kN _ ?_ | refine kE _ ?_ | refine kX _ _ rfl ?_ | refine kR _ ?_); try clear kN kE kX kR Qb)) | (refine ccA ([]) (c1) ?_) | (refine Exists.intro K (And.intro hl ?_)) | (refine z0k f1 ?_) | (refine And.intro (by kernel_rfl) ?_) | (refine stpQ ?_))
 refine z0h 0 ⟨[(11, .str (z0Y ix 16 (8 - K) h s).2)], [], 1⟩ Nat (fun j => ⟨[(1, .int .i64 (ix : Int)), (2, .int .i64 (K : Int)), (3, .sl 1 (strE s)), (4, .int .i64 16), (11, .str (z0Y ix 16 (8 - K) h (s.take j)).2), (12, .int .i64 (j : Int))], [], 1⟩) (fun j => j ≤ K) (fun j => K - j) 0 (by omega) ?_ ?_ ?_
 ·(refine z02 (by rfl) ?_ ?_) <;> (repeat' (first | (exact eqA) | (refine And.intro ?_ ?_) | ((fail_if_success (with_reducible (show _ = _))); (show _ = _)))) <;> first | rfl | (simp; done) | decide
 ·intro j hj
  by_cases hlt : j < K
  ·have hlt2 : j < s.length := by omega
   have g1 := z0n hlt2
   have w1 : (pAt s j).length = 16 := z1X hsl hlt2
   have hts : s.take (j + 1) = s.take j ++ [pAt s j] := by rw [List.take_succ_eq_append_getElem hlt2]; simp [pAt, List.getD, List.getElem?_eq_getElem hlt2]
   have hnx := z47 ix 16 (s.take j) (8 - K) h (pAt s j)
   rw [← hts] at hnx
   have hjl : 8 - K + (s.take j).length = 8 - K + j := by rw [List.length_take]; omega
   rw [hjl] at hnx
   have hvl : (z0Y ix 16 (8 - K) h (s.take j)).2.length ≤ 200 := by
    rcases Nat.eq_zero_or_pos j with e | e
    ·rw [e]; simpa [z0Y] using hh
    ·obtain ⟨q, rfl⟩ : ∃ q, j = q + 1 := ⟨j - 1, by omega⟩
     have hts2 : s.take (q + 1) = s.take q ++ [pAt s q] := by rw [List.take_succ_eq_append_getElem (by omega)]; simp [pAt, List.getD, List.getElem?_eq_getElem (show q < s.length by omega)]
     rw [hts2, z47, z1M (by omega)]; omega
   have cB := z93 ix (8 - K + j) hix (by omega)
   have e1 : IntKind.i64.wrap ((K : Int) - 1) = (K : Int) - 1 := wrap_i64 (by omega) (by omega)
   have e2 : IntKind.i64.wrap ((K : Int) - 1 - (j : Int)) = 7 - ((8 - K + j : Nat) : Int) := by rw [wrap_i64 (by omega) (by omega)]; omega
   have hj8 : (j : Int) < (K : Int) := by omega
   unfold z1p at hnx
   generalize hv2 : (z0Y ix 16 (8 - K) h (s.take (j + 1))).2 = v' at hnx
   generalize (z0Y ix 16 (8 - K) h (s.take j)).2 = v at hnx hvl ⊢
   generalize pAt s j = sd at g1 w1 hnx
   by_cases hb : bitB ix (8 - K + j) = 1
   ·have ct := z0U 3 [sd, v] 16 (by omega) (z1U (by omega) (by omega)) (by omega)
    have hv' : v' = z14 3 [sd, v] 16 := by rw [hnx, if_pos hb]; rfl
    rw [← hv'] at ct
    rw [hb] at cB
    clear hnx hv'
    repeat ((try conv => whnf); first | (with_reducible first | refine z0b (fun Qs hN hE hR => ?_) | refine z09 ?_ | refine z03 (fun Qb kN kE kX kR => ?_) | refine z05 ?_ | refine z06 ?_ | refine z0a ?_ | refine z07 ?_ | refine z08 ?_ | (show W _ _ _ (.cond _ _ _) _ _; refine z04 rfl ?_) | (refine hN _ ?_; try clear hN hE hR Qs; (try (conv => arg 6; dsimp only [ovl, List.set, List.map, ren0]))) | ((first | refine hE _ _ ?_ | refine hR _ ?_); try clear hN hE hR Qs) | ((first | refine kN _ ?_ | refine kE _ ?_ | refine kX _ _ rfl ?_ | refine kR _ ?_); try clear kN kE kX kR Qb)) | (refine Exists.intro K (And.intro hl ?_)) | (refine Exists.intro _ (And.intro e1.symm ?_)) | (refine Exists.intro _ (And.intro e2.symm ?_)) | (refine ccA ([]) (cB) ?_) | (refine z0k (by decide) ?_) | (refine i_at g1 ?_) | (refine ccA ([]) (ct) ?_) | (refine And.intro (by kernel_rfl) ?_) | (refine stpQ ?_))
    refine ⟨j + 1, by omega, by omega, ?_⟩
    (refine z02 (by rfl) ?_ ?_) <;> (repeat' (first | (exact eqA) | (refine And.intro ?_ ?_) | ((fail_if_success (with_reducible (show _ = _))); (show _ = _))))
    all_goals first
     | exact hv2.symm
     | rfl
   ·have hb2 : bitB ix (8 - K + j) = 0 := by unfold bitB at hb ⊢; omega
    have ct := z0U 3 [v, sd] 16 (by omega) (z1U (by omega) (by omega)) (by omega)
    have hv' : v' = z14 3 [v, sd] 16 := by rw [hnx, if_neg hb]; rfl
    rw [← hv'] at ct
    rw [hb2] at cB
    clear hnx hv'
    repeat ((try conv => whnf); first | (with_reducible first | refine z0b (fun Qs hN hE hR => ?_) | refine z09 ?_ | refine z03 (fun Qb kN kE kX kR => ?_) | refine z05 ?_ | refine z06 ?_ | refine z0a ?_ | refine z07 ?_ | refine z08 ?_ | (show W _ _ _ (.cond _ _ _) _ _; refine z04 rfl ?_) | (refine hN _ ?_; try clear hN hE hR Qs; (try (conv => arg 6; dsimp only [ovl, List.set, List.map, ren0]))) | ((first | refine hE _ _ ?_ | refine hR _ ?_); try clear hN hE hR Qs) | ((first | refine kN _ ?_ | refine kE _ ?_ | refine kX _ _ rfl ?_ | refine kR _ ?_); try clear kN kE kX kR Qb)) | (refine Exists.intro K (And.intro hl ?_)) | (refine Exists.intro _ (And.intro e1.symm ?_)) | (refine Exists.intro _ (And.intro e2.symm ?_)) | (refine ccA ([]) (cB) ?_) | (refine z0i rfl ?_) | (refine i_at g1 ?_) | (refine ccA ([]) (ct) ?_) | (refine And.intro (by kernel_rfl) ?_) | (refine stpQ ?_))
    refine ⟨j + 1, by omega, by omega, ?_⟩
    (refine z02 (by rfl) ?_ ?_) <;> (repeat' (first | (exact eqA) | (refine And.intro ?_ ?_) | ((fail_if_success (with_reducible (show _ = _))); (show _ = _))))
    all_goals first
     | exact hv2.symm
     | rfl
  ·obtain rfl : j = K := by omega
   have f2 : ¬ (j : Int) < (j : Int) := by omega
   have e : s.take j = s := by rw [← hs, List.take_length]
   rw [e]
   repeat ((try conv => whnf); first | (with_reducible first | refine z0b (fun Qs hN hE hR => ?_) | refine z09 ?_ | refine z03 (fun Qb kN kE kX kR => ?_) | refine z05 ?_ | refine z06 ?_ | refine z0a ?_ | refine z07 ?_ | refine z08 ?_ | (show W _ _ _ (.cond _ _ _) _ _; refine z04 rfl ?_) | (refine hN _ ?_; try clear hN hE hR Qs; (try (conv => arg 6; dsimp only [ovl, List.set, List.map, ren0]))) | ((first | refine hE _ _ ?_ | refine hR _ ?_); try clear hN hE hR Qs) | ((first | refine kN _ ?_ | refine kE _ ?_ | refine kX _ _ rfl ?_ | refine kR _ ?_); try clear kN kE kX kR Qb)) | (refine Exists.intro j (And.intro hl ?_)) | (refine z0k f2 ?_) | (refine And.intro (by kernel_rfl) ?_) | (refine stpQ ?_))
   (refine z02 (by rfl) ?_ ?_) <;> (repeat' (first | (exact eqA) | (refine And.intro ?_ ?_) | ((fail_if_success (with_reducible (show _ = _))); (show _ = _))))
 ·repeat ((try conv => whnf); first | (with_reducible first | refine z0b (fun Qs hN hE hR => ?_) | refine z09 ?_ | refine z03 (fun Qb kN kE kX kR => ?_) | refine z05 ?_ | refine z06 ?_ | refine z0a ?_ | refine z07 ?_ | refine z08 ?_ | (show W _ _ _ (.cond _ _ _) _ _; refine z04 rfl ?_) | (refine hN _ ?_; try clear hN hE hR Qs; (try (conv => arg 6; dsimp only [ovl, List.set, List.map, ren0]))) | ((first | refine hE _ _ ?_ | refine hR _ ?_); try clear hN hE hR Qs) | ((first | refine kN _ ?_ | refine kE _ ?_ | refine kX _ _ rfl ?_ | refine kR _ ?_); try clear kN kE kX kR Qb)) | (refine And.intro (by kernel_rfl) ?_) | (refine stpQ ?_))
  (refine z00 (by rfl) ?_ ?_ (by rfl)) <;> (repeat' (first | (exact eqA) | (refine And.intro ?_ ?_) | ((fail_if_success (with_reducible (show _ = _))); (show _ = _))))
end
abbrev WsT := Int × Int × List Bs × List Bs × List Bs
def wsT0 : WsT := (0, 0, [], [], [])
def wsAt (l : List WsT) (k : Nat) : WsT := l.getD k wsT0
def wsE (l : List WsT) : List (List T) := l.map fun x => [.int .i64 x.1, .int .i64 x.2.1, .sl 1 (strE x.2.2.1), .sl 1 (strE x.2.2.2.1), .sl 1 (strE x.2.2.2.2)]
theorem z9c (l : List WsT) : (wsE l).length = l.length := by simp [wsE]
theorem z5w {l : List WsT} {k : Nat} (h : k < l.length) : (wsE l)[k]? = some [.int .i64 (wsAt l k).1, .int .i64 (wsAt l k).2.1, .sl 1 (strE (wsAt l k).2.2.1), .sl 1 (strE (wsAt l k).2.2.2.1), .sl 1 (strE (wsAt l k).2.2.2.2)] := by
 simp [wsE, wsAt, List.getD, List.getElem?_map, List.getElem?_eq_getElem h]
structure WsOk (l : List WsT) : Prop where
 len : l.length ≤ 10
 sz : ∀ k, (wsAt l k).2.2.1.length ≤ 1000 ∧ (wsAt l k).2.2.2.1.length ≤ 1000 ∧ (wsAt l k).2.2.2.2.length ≤ 1000
def riP (l : List WsT) : Prop := ∀ k, k + 1 < l.length → (wsAt l k).1 < (wsAt l (k + 1)).1
structure Wa where
 B : List Lf
 S : List Bs
 T : List Bs
 ho : Int
 ep : Int
 ro : Bs
 pr : Bs
 a : Int
 op : List Bs
 sh : List Bs
 si : List Bs
 st : List WsT
def waE (x : Wa) : List T := [.sl 2 (lvE x.B), .sl 1 (strE x.S), .sl 1 (strE x.T), .int .i64 x.ho, .int .i64 x.ep, .str x.ro, .str x.pr, .int .i64 x.a, .sl 1 (strE x.op), .sl 1 (strE x.sh), .sl 1 (strE x.si), .sl 5 (wsE x.st)]
structure WaOk (nm : Bs) (x : Wa) : Prop where
 sz : PfSz nm x.B x.S
 tl : x.T.length ≤ 10
 op : x.op.length ≤ 1000
 sh : x.sh.length ≤ 1000
 si : x.si.length ≤ 1000
 st : WsOk x.st
def FmP (R : List Bs) (K need house : Int) (nm : Bs) (x : Wa) : Prop := trB R K need = true ∧ inB house 0 2 = true ∧ z1E nm x.B x.S 16 = true ∧ (x.S.length : Int) = 8 - K ∧ ((x.T.all fun x => decide ((x.length : Int) = 16)) = true ∧ (x.T.length : Int) = K) ∧ riP x.st
section
attribute [local irreducible] z0t z0u z0y AnsP LeP W CvE
theorem zaD (R : List Bs) (K need house : Int) (nm : Bs) (x : Wa) (hRn : R.length = 3) (hK : -5 ≤ K ∧ K ≤ 5) (g : WaOk nm x) : CT Tryz.prog 17 [] [.agg [.sl 1 (strE R), .int .i64 K, .int .i64 need], .int .i64 house, .str nm, .agg (waE x)] (.bool (@decide (FmP R K need house nm x) (Classical.propDecidable _))) [] := by
 have hRl := (z0c R).trans hRn
 have gs := g.sz
 have hSl := z0c x.S
 have hTl := z0c x.T
 have hst := z9c x.st
 have hstl := g.st.len
 have c1 := z8c R K need (by omega)
 have c2 := c_in house 0 2
 have c3 := z6S nm x.B x.S 16 (by have := gs.nm; omega) (by have := gs.len; omega) gs.fit gs.nms (by have := gs.sl; omega)
 have c4 := z1r x.T K 16 (by have := g.tl; omega)
 have hSl2 := gs.sl
 have hTl2 := g.tl
 clear gs g
 have hP : ∀ b : Bool, (b = true ↔ FmP R K need house nm x) → @decide (FmP R K need house nm x) (Classical.propDecidable _) = b := fun b h => by
  cases b
  ·exact @decide_eq_false _ (Classical.propDecidable _) fun h2 => by cases h.2 h2
  ·exact @decide_eq_true _ (Classical.propDecidable _) (h.1 rfl)
 obtain ⟨B, S, T, ho, ep, ro, pr, a, op, sh, si, st⟩ := x
 simp only at c3 c4 hSl hTl hst hstl hSl2 hTl2
 unfold FmP at hP ⊢
 simp only at hP ⊢
 generalize trB R K need = b1 at c1 hP ⊢
 generalize inB house 0 2 = b2 at c2 hP ⊢
 generalize z1E nm B S 16 = b3 at c3 hP ⊢
 generalize (T.all fun x => decide ((x.length : Int) = 16)) = b5 at c4 hP ⊢
 show CT _ _ _ [_, _, _, .agg [.sl 2 (lvE B), .sl 1 (strE S), .sl 1 (strE T), .int .i64 ho, .int .i64 ep, .str ro, .str pr, .int .i64 a, .sl 1 (strE op), .sl 1 (strE sh), .sl 1 (strE si), .sl 5 (wsE st)]] _ _
 have e1 : IntKind.i64.wrap (((3 : Nat) : Int) - 1) = 2 := by rw [wrap_i64 (by omega) (by omega)]; omega
 have e2 : IntKind.i64.wrap (8 - K) = 8 - K := wrap_i64 (by omega) (by omega)
 cases b1
 ·rw [hP false ⟨fun h => (by cases h), fun h => (by cases h.1)⟩]
  clear hP
  refine z01 z0d 1 rfl Tryz.func17 rfl rfl rfl ?_
  conv => arg 6; whnf
  repeat ((try conv => whnf); first | (with_reducible first | refine z0b (fun Qs hN hE hR => ?_) | refine z09 ?_ | refine z03 (fun Qb kN kE kX kR => ?_) | refine z05 ?_ | refine z06 ?_ | refine z0a ?_ | refine z07 ?_ | refine z08 ?_ | (show W _ _ _ (.cond _ _ _) _ _; refine z04 rfl ?_) | (refine hN _ ?_; try clear hN hE hR Qs; (try (conv => arg 6; dsimp only [ovl, List.set, List.map, ren0]))) | ((first | refine hE _ _ ?_ | refine hR _ ?_); try clear hN hE hR Qs) | ((first | refine kN _ ?_ | refine kE _ ?_ | refine kX _ _ rfl ?_ | refine kR _ ?_); try clear kN kE kX kR Qb)) | (refine ccA ([]) (c1) ?_) | (refine Exists.intro 3 (And.intro hRl ?_)) | (refine Exists.intro _ (And.intro e1.symm ?_)) | (refine ccA ([]) (c2) ?_) | (refine ccA ([]) (c3) ?_) | (refine Exists.intro S.length (And.intro hSl ?_)) | (refine Exists.intro _ (And.intro e2.symm ?_)) | (refine ccA ([]) (c4) ?_) | (refine And.intro (by kernel_rfl) ?_) | (refine stpQ ?_))
  (refine z00 (by rfl) ?_ ?_ (by rfl)) <;> (repeat' (first | (exact eqA) | (refine And.intro ?_ ?_) | ((fail_if_success (with_reducible (show _ = _))); (show _ = _)))) <;> rfl
 cases b2
 ·rw [hP false ⟨fun h => (by cases h), fun h => (by cases h.2.1)⟩]
  clear hP
  refine z01 z0d 1 rfl Tryz.func17 rfl rfl rfl ?_
  conv => arg 6; whnf
  repeat ((try conv => whnf); first | (with_reducible first | refine z0b (fun Qs hN hE hR => ?_) | refine z09 ?_ | refine z03 (fun Qb kN kE kX kR => ?_) | refine z05 ?_ | refine z06 ?_ | refine z0a ?_ | refine z07 ?_ | refine z08 ?_ | (show W _ _ _ (.cond _ _ _) _ _; refine z04 rfl ?_) | (refine hN _ ?_; try clear hN hE hR Qs; (try (conv => arg 6; dsimp only [ovl, List.set, List.map, ren0]))) | ((first | refine hE _ _ ?_ | refine hR _ ?_); try clear hN hE hR Qs) | ((first | refine kN _ ?_ | refine kE _ ?_ | refine kX _ _ rfl ?_ | refine kR _ ?_); try clear kN kE kX kR Qb)) | (refine ccA ([]) (c1) ?_) | (refine Exists.intro 3 (And.intro hRl ?_)) | (refine Exists.intro _ (And.intro e1.symm ?_)) | (refine ccA ([]) (c2) ?_) | (refine ccA ([]) (c3) ?_) | (refine Exists.intro S.length (And.intro hSl ?_)) | (refine Exists.intro _ (And.intro e2.symm ?_)) | (refine ccA ([]) (c4) ?_) | (refine And.intro (by kernel_rfl) ?_) | (refine stpQ ?_))
  (refine z00 (by rfl) ?_ ?_ (by rfl)) <;> (repeat' (first | (exact eqA) | (refine And.intro ?_ ?_) | ((fail_if_success (with_reducible (show _ = _))); (show _ = _)))) <;> rfl
 cases b3
 ·rw [hP false ⟨fun h => (by cases h), fun h => (by cases h.2.2.1)⟩]
  clear hP
  refine z01 z0d 1 rfl Tryz.func17 rfl rfl rfl ?_
  conv => arg 6; whnf
  repeat ((try conv => whnf); first | (with_reducible first | refine z0b (fun Qs hN hE hR => ?_) | refine z09 ?_ | refine z03 (fun Qb kN kE kX kR => ?_) | refine z05 ?_ | refine z06 ?_ | refine z0a ?_ | refine z07 ?_ | refine z08 ?_ | (show W _ _ _ (.cond _ _ _) _ _; refine z04 rfl ?_) | (refine hN _ ?_; try clear hN hE hR Qs; (try (conv => arg 6; dsimp only [ovl, List.set, List.map, ren0]))) | ((first | refine hE _ _ ?_ | refine hR _ ?_); try clear hN hE hR Qs) | ((first | refine kN _ ?_ | refine kE _ ?_ | refine kX _ _ rfl ?_ | refine kR _ ?_); try clear kN kE kX kR Qb)) | (refine ccA ([]) (c1) ?_) | (refine Exists.intro 3 (And.intro hRl ?_)) | (refine Exists.intro _ (And.intro e1.symm ?_)) | (refine ccA ([]) (c2) ?_) | (refine ccA ([]) (c3) ?_) | (refine Exists.intro S.length (And.intro hSl ?_)) | (refine Exists.intro _ (And.intro e2.symm ?_)) | (refine ccA ([]) (c4) ?_) | (refine And.intro (by kernel_rfl) ?_) | (refine stpQ ?_))
  (refine z00 (by rfl) ?_ ?_ (by rfl)) <;> (repeat' (first | (exact eqA) | (refine And.intro ?_ ?_) | ((fail_if_success (with_reducible (show _ = _))); (show _ = _)))) <;> rfl
 by_cases p4 : (S.length : Int) = 8 - K
 rotate_left
 ·rw [hP false ⟨fun h => (by cases h), fun h => (by exact absurd h.2.2.2.1 p4)⟩]
  clear hP
  refine z01 z0d 1 rfl Tryz.func17 rfl rfl rfl ?_
  conv => arg 6; whnf
  repeat ((try conv => whnf); first | (with_reducible first | refine z0b (fun Qs hN hE hR => ?_) | refine z09 ?_ | refine z03 (fun Qb kN kE kX kR => ?_) | refine z05 ?_ | refine z06 ?_ | refine z0a ?_ | refine z07 ?_ | refine z08 ?_ | (show W _ _ _ (.cond _ _ _) _ _; refine z04 rfl ?_) | (refine hN _ ?_; try clear hN hE hR Qs; (try (conv => arg 6; dsimp only [ovl, List.set, List.map, ren0]))) | ((first | refine hE _ _ ?_ | refine hR _ ?_); try clear hN hE hR Qs) | ((first | refine kN _ ?_ | refine kE _ ?_ | refine kX _ _ rfl ?_ | refine kR _ ?_); try clear kN kE kX kR Qb)) | (refine ccA ([]) (c1) ?_) | (refine Exists.intro 3 (And.intro hRl ?_)) | (refine Exists.intro _ (And.intro e1.symm ?_)) | (refine ccA ([]) (c2) ?_) | (refine ccA ([]) (c3) ?_) | (refine Exists.intro S.length (And.intro hSl ?_)) | (refine Exists.intro _ (And.intro e2.symm ?_)) | (refine ccA ([]) (c4) ?_) | (refine z0k p4 ?_) | (refine And.intro (by kernel_rfl) ?_) | (refine stpQ ?_))
  (refine z00 (by rfl) ?_ ?_ (by rfl)) <;> (repeat' (first | (exact eqA) | (refine And.intro ?_ ?_) | ((fail_if_success (with_reducible (show _ = _))); (show _ = _)))) <;> rfl
 by_cases p6 : (T.length : Int) = K
 rotate_left
 ·rw [decide_eq_false p6, Bool.and_false] at c4
  rw [hP false ⟨fun h => (by cases h), fun h => (by exact absurd h.2.2.2.2.1.2 p6)⟩]
  clear hP
  refine z01 z0d 1 rfl Tryz.func17 rfl rfl rfl ?_
  conv => arg 6; whnf
  repeat ((try conv => whnf); first | (with_reducible first | refine z0b (fun Qs hN hE hR => ?_) | refine z09 ?_ | refine z03 (fun Qb kN kE kX kR => ?_) | refine z05 ?_ | refine z06 ?_ | refine z0a ?_ | refine z07 ?_ | refine z08 ?_ | (show W _ _ _ (.cond _ _ _) _ _; refine z04 rfl ?_) | (refine hN _ ?_; try clear hN hE hR Qs; (try (conv => arg 6; dsimp only [ovl, List.set, List.map, ren0]))) | ((first | refine hE _ _ ?_ | refine hR _ ?_); try clear hN hE hR Qs) | ((first | refine kN _ ?_ | refine kE _ ?_ | refine kX _ _ rfl ?_ | refine kR _ ?_); try clear kN kE kX kR Qb)) | (refine ccA ([]) (c1) ?_) | (refine Exists.intro 3 (And.intro hRl ?_)) | (refine Exists.intro _ (And.intro e1.symm ?_)) | (refine ccA ([]) (c2) ?_) | (refine ccA ([]) (c3) ?_) | (refine Exists.intro S.length (And.intro hSl ?_)) | (refine Exists.intro _ (And.intro e2.symm ?_)) | (refine ccA ([]) (c4) ?_) | (refine z0i p4 ?_) | (refine And.intro (by kernel_rfl) ?_) | (refine stpQ ?_))
  (refine z00 (by rfl) ?_ ?_ (by rfl)) <;> (repeat' (first | (exact eqA) | (refine And.intro ?_ ?_) | ((fail_if_success (with_reducible (show _ = _))); (show _ = _)))) <;> rfl
 rw [decide_eq_true p6, Bool.and_true] at c4
 cases b5
 ·rw [hP false ⟨fun h => (by cases h), fun h => (by cases h.2.2.2.2.1.1)⟩]
  clear hP
  refine z01 z0d 1 rfl Tryz.func17 rfl rfl rfl ?_
  conv => arg 6; whnf
  repeat ((try conv => whnf); first | (with_reducible first | refine z0b (fun Qs hN hE hR => ?_) | refine z09 ?_ | refine z03 (fun Qb kN kE kX kR => ?_) | refine z05 ?_ | refine z06 ?_ | refine z0a ?_ | refine z07 ?_ | refine z08 ?_ | (show W _ _ _ (.cond _ _ _) _ _; refine z04 rfl ?_) | (refine hN _ ?_; try clear hN hE hR Qs; (try (conv => arg 6; dsimp only [ovl, List.set, List.map, ren0]))) | ((first | refine hE _ _ ?_ | refine hR _ ?_); try clear hN hE hR Qs) | ((first | refine kN _ ?_ | refine kE _ ?_ | refine kX _ _ rfl ?_ | refine kR _ ?_); try clear kN kE kX kR Qb)) | (refine ccA ([]) (c1) ?_) | (refine Exists.intro 3 (And.intro hRl ?_)) | (refine Exists.intro _ (And.intro e1.symm ?_)) | (refine ccA ([]) (c2) ?_) | (refine ccA ([]) (c3) ?_) | (refine Exists.intro S.length (And.intro hSl ?_)) | (refine Exists.intro _ (And.intro e2.symm ?_)) | (refine ccA ([]) (c4) ?_) | (refine z0i p4 ?_) | (refine z1C p4 ?_) | (refine And.intro (by kernel_rfl) ?_) | (refine stpQ ?_))
  (refine z00 (by rfl) ?_ ?_ (by rfl)) <;> (repeat' (first | (exact eqA) | (refine And.intro ?_ ?_) | ((fail_if_success (with_reducible (show _ = _))); (show _ = _)))) <;> rfl
 have hlen : (wsE st).length = st.length := hst
 refine z01 z0d 1 rfl Tryz.func17 rfl rfl rfl ?_
 conv => arg 6; whnf
 repeat ((try conv => whnf); first | (with_reducible first | refine z0b (fun Qs hN hE hR => ?_) | refine z09 ?_ | refine z03 (fun Qb kN kE kX kR => ?_) | refine z05 ?_ | refine z06 ?_ | refine z0a ?_ | refine z07 ?_ | refine z08 ?_ | (show W _ _ _ (.cond _ _ _) _ _; refine z04 rfl ?_) | (refine hN _ ?_; try clear hN hE hR Qs; (try (conv => arg 6; dsimp only [ovl, List.set, List.map, ren0]))) | ((first | refine hE _ _ ?_ | refine hR _ ?_); try clear hN hE hR Qs) | ((first | refine kN _ ?_ | refine kE _ ?_ | refine kX _ _ rfl ?_ | refine kR _ ?_); try clear kN kE kX kR Qb)) | (refine ccA ([]) (c1) ?_) | (refine Exists.intro 3 (And.intro hRl ?_)) | (refine Exists.intro _ (And.intro e1.symm ?_)) | (refine ccA ([]) (c2) ?_) | (refine ccA ([]) (c3) ?_) | (refine Exists.intro S.length (And.intro hSl ?_)) | (refine Exists.intro _ (And.intro e2.symm ?_)) | (refine ccA ([]) (c4) ?_) | (refine z0i p4 ?_) | (refine z1C p4 ?_) | (refine And.intro (by kernel_rfl) ?_) | (refine stpQ ?_))
 refine z6x Nat (fun i => ⟨[(7, .ptr 1 0 0), (8, .bool false), (9, .int .i64 ((i : Nat) : Int))], [(1, some (.box [.sl 2 (lvE B), .sl 1 (strE S), .sl 1 (strE T), .int .i64 ho, .int .i64 ep, .str ro, .str pr, .int .i64 a, .sl 1 (strE op), .sl 1 (strE sh), .sl 1 (strE si), .sl 5 (wsE st)]))], 2⟩) (fun i => 1 ≤ i ∧ ∀ k, k + 1 < i → k + 1 < st.length → (wsAt st k).1 < (wsAt st (k + 1)).1) (fun i => st.length + 1 - i) 1 ⟨by omega, fun k h => by omega⟩ ?_ ?_
 ·(refine z02 (by rfl) ?_ ?_) <;> (repeat' (first | (exact eqA) | (refine And.intro ?_ ?_) | ((fail_if_success (with_reducible (show _ = _))); (show _ = _)))) <;> first | rfl | decide
 ·intro Q1 hQ1 i hx
  have hi := hx.1
  have hp := hx.2
  clear hx
  by_cases hlt : i < st.length
  ·have f1 : (i : Int) < (st.length : Int) := by omega
   obtain ⟨j, rfl⟩ : ∃ j, i = j + 1 := ⟨i - 1, by omega⟩
   have ga := z5w (show j < st.length by omega)
   have gb := z5w hlt
   have e3 : IntKind.i64.wrap (((j + 1 : Nat) : Int) - 1) = ((j : Nat) : Int) := by rw [wrap_i64 (by omega) (by omega)]; omega
   by_cases hr : (wsAt st j).1 < (wsAt st (j + 1)).1
   ·have f2 : ¬ (wsAt st j).1 ≥ (wsAt st (j + 1)).1 := by omega
    have hp2 : ∀ k, k + 1 < j + 1 + 1 → k + 1 < st.length → (wsAt st k).1 < (wsAt st (k + 1)).1 := fun k h1 h2 => by
     rcases Nat.lt_or_ge (k + 1) (j + 1) with q | q
     ·exact hp k q h2
     ·obtain rfl : k = j := by omega
      exact hr
    clear hp hP hr
    generalize wsAt st j = s0 at ga f2
    generalize wsAt st (j + 1) = s1 at gb f2
    obtain ⟨p1, p2, p3, p4, p5⟩ := s0
    obtain ⟨q1, q2, q3, q4, q5⟩ := s1
    repeat ((try conv => whnf); first | (with_reducible first | refine z0b (fun Qs hN hE hR => ?_) | refine z09 ?_ | refine z03 (fun Qb kN kE kX kR => ?_) | refine z05 ?_ | refine z06 ?_ | refine z0a ?_ | refine z07 ?_ | refine z08 ?_ | (show W _ _ _ (.cond _ _ _) _ _; refine z04 rfl ?_) | (refine hN _ ?_; try clear hN hE hR Qs; (try (conv => arg 6; dsimp only [ovl, List.set, List.map, ren0]))) | ((first | refine hE _ _ ?_ | refine hR _ ?_); try clear hN hE hR Qs) | ((first | refine kN _ ?_ | refine kE _ ?_ | refine kX _ _ rfl ?_ | refine kR _ ?_); try clear kN kE kX kR Qb)) | (refine Exists.intro st.length (And.intro hlen ?_)) | (refine z0i f1 ?_) | (refine Exists.intro _ (And.intro e3.symm ?_)) | (refine i_at ga ?_) | (refine i_at gb ?_) | (refine z0k f2 ?_) | (refine And.intro (by kernel_rfl) ?_) | (refine stpQ ?_))
    refine ⟨j + 1 + 1, ⟨by omega, hp2⟩, by omega, ?_⟩
    (refine z02 (by rfl) ?_ ?_) <;> (repeat' (first | (exact eqA) | (refine And.intro ?_ ?_) | ((fail_if_success (with_reducible (show _ = _))); (show _ = _))))
   ·have f2 : (wsAt st j).1 ≥ (wsAt st (j + 1)).1 := by omega
    have eA := hP false ⟨fun h => (by cases h), fun h => (hr (h.2.2.2.2.2 j hlt)).elim⟩
    clear hP hp hr
    generalize wsAt st j = s0 at ga f2
    generalize wsAt st (j + 1) = s1 at gb f2
    obtain ⟨p1, p2, p3, p4, p5⟩ := s0
    obtain ⟨q1, q2, q3, q4, q5⟩ := s1
    repeat ((try conv => whnf); first | (with_reducible first | refine z0b (fun Qs hN hE hR => ?_) | refine z09 ?_ | refine z03 (fun Qb kN kE kX kR => ?_) | refine z05 ?_ | refine z06 ?_ | refine z0a ?_ | refine z07 ?_ | refine z08 ?_ | (show W _ _ _ (.cond _ _ _) _ _; refine z04 rfl ?_) | (refine hN _ ?_; try clear hN hE hR Qs; (try (conv => arg 6; dsimp only [ovl, List.set, List.map, ren0]))) | ((first | refine hE _ _ ?_ | refine hR _ ?_); try clear hN hE hR Qs) | ((first | refine kN _ ?_ | refine kE _ ?_ | refine kX _ _ rfl ?_ | refine kR _ ?_); try clear kN kE kX kR Qb)) | (refine Exists.intro st.length (And.intro hlen ?_)) | (refine z0i f1 ?_) | (refine Exists.intro _ (And.intro e3.symm ?_)) | (refine i_at ga ?_) | (refine i_at gb ?_) | (refine z0i f2 ?_) | (refine And.intro (by kernel_rfl) ?_) | (refine stpQ ?_))
    refine hQ1 _ _ ?_
    clear hQ1 Q1
    repeat ((try conv => whnf); first | (with_reducible first | refine z0b (fun Qs hN hE hR => ?_) | refine z09 ?_ | refine z03 (fun Qb kN kE kX kR => ?_) | refine z05 ?_ | refine z06 ?_ | refine z0a ?_ | refine z07 ?_ | refine z08 ?_ | (show W _ _ _ (.cond _ _ _) _ _; refine z04 rfl ?_) | (refine hN _ ?_; try clear hN hE hR Qs; (try (conv => arg 6; dsimp only [ovl, List.set, List.map, ren0]))) | ((first | refine hE _ _ ?_ | refine hR _ ?_); try clear hN hE hR Qs) | ((first | refine kN _ ?_ | refine kE _ ?_ | refine kX _ _ rfl ?_ | refine kR _ ?_); try clear kN kE kX kR Qb)) | (refine And.intro (by kernel_rfl) ?_) | (refine stpQ ?_))
    (refine z00 (by rfl) ?_ ?_ (by rfl)) <;> (repeat' (first | (exact eqA) | (refine And.intro ?_ ?_) | ((fail_if_success (with_reducible (show _ = _))); (show _ = _)))) <;> first | rfl | (rw [eA]; done)
  ·have f1 : ¬ (i : Int) < (st.length : Int) := by omega
   have eA := hP true ⟨fun _ => ⟨rfl, rfl, rfl, p4, ⟨rfl, p6⟩, fun k hk => hp k (by omega) hk⟩, fun _ => rfl⟩
   clear hP hp
   repeat ((try conv => whnf); first | (with_reducible first | refine z0b (fun Qs hN hE hR => ?_) | refine z09 ?_ | refine z03 (fun Qb kN kE kX kR => ?_) | refine z05 ?_ | refine z06 ?_ | refine z0a ?_ | refine z07 ?_ | refine z08 ?_ | (show W _ _ _ (.cond _ _ _) _ _; refine z04 rfl ?_) | (refine hN _ ?_; try clear hN hE hR Qs; (try (conv => arg 6; dsimp only [ovl, List.set, List.map, ren0]))) | ((first | refine hE _ _ ?_ | refine hR _ ?_); try clear hN hE hR Qs) | ((first | refine kN _ ?_ | refine kE _ ?_ | refine kX _ _ rfl ?_ | refine kR _ ?_); try clear kN kE kX kR Qb)) | (refine Exists.intro st.length (And.intro hlen ?_)) | (refine z0k f1 ?_) | (refine And.intro (by kernel_rfl) ?_) | (refine stpQ ?_))
   refine hQ1 _ _ ?_
   clear hQ1 Q1
   repeat ((try conv => whnf); first | (with_reducible first | refine z0b (fun Qs hN hE hR => ?_) | refine z09 ?_ | refine z03 (fun Qb kN kE kX kR => ?_) | refine z05 ?_ | refine z06 ?_ | refine z0a ?_ | refine z07 ?_ | refine z08 ?_ | (show W _ _ _ (.cond _ _ _) _ _; refine z04 rfl ?_) | (refine hN _ ?_; try clear hN hE hR Qs; (try (conv => arg 6; dsimp only [ovl, List.set, List.map, ren0]))) | ((first | refine hE _ _ ?_ | refine hR _ ?_); try clear hN hE hR Qs) | ((first | refine kN _ ?_ | refine kE _ ?_ | refine kX _ _ rfl ?_ | refine kR _ ?_); try clear kN kE kX kR Qb)) | (refine And.intro (by kernel_rfl) ?_) | (refine stpQ ?_))
   (refine z00 (by rfl) ?_ ?_ (by rfl)) <;> (repeat' (first | (exact eqA) | (refine And.intro ?_ ?_) | ((fail_if_success (with_reducible (show _ = _))); (show _ = _)))) <;> (rw [eA]; done)
theorem zdR (R : List Bs) (K need house : Int) (nm : Bs) (x : Wa) (hRn : R.length = 3) (hK : -5 ≤ K ∧ K ≤ 5) (g : WaOk nm x) : CT Tryz.prog 25 [] [.agg [.sl 1 (strE R), .int .i64 K, .int .i64 need], .int .i64 house, .str nm, .agg (waE x)] (.bool (@decide (FmP R K need house nm x) (Classical.propDecidable _))) [] := by
 have hRl := (z0c R).trans hRn
 have gs := g.sz
 have hSl := z0c x.S
 have hTl := z0c x.T
 have hst := z9c x.st
 have hstl := g.st.len
 have c1 := z7i R K need (by omega)
 have c2 := z10 house 0 2
 have c3 := z5p nm x.B x.S 16 gs
 have c4 := z83 x.T 16 (by have := g.tl; omega)
 rw [show Pl.wideB x.T 16 = (x.T.all fun x => decide ((x.length : Int) = 16)) from by unfold Pl.wideB; rw [show inB 16 1 32 = true from rfl, Bool.and_true]] at c4
 have hSl2 := gs.sl
 have hTl2 := g.tl
 clear gs g
 have hP : ∀ b : Bool, (b = true ↔ FmP R K need house nm x) → @decide (FmP R K need house nm x) (Classical.propDecidable _) = b := fun b h => by
  cases b
  ·exact @decide_eq_false _ (Classical.propDecidable _) fun h2 => by cases h.2 h2
  ·exact @decide_eq_true _ (Classical.propDecidable _) (h.1 rfl)
 obtain ⟨B, S, T, ho, ep, ro, pr, a, op, sh, si, st⟩ := x
 simp only at c3 c4 hSl hTl hst hstl hSl2 hTl2
 unfold FmP at hP ⊢
 simp only at hP ⊢
 generalize trB R K need = b1 at c1 hP ⊢
 generalize inB house 0 2 = b2 at c2 hP ⊢
 generalize z1E nm B S 16 = b3 at c3 hP ⊢
 generalize (T.all fun x => decide ((x.length : Int) = 16)) = b5 at c4 hP ⊢
 show CT _ _ _ [_, _, _, .agg [.sl 2 (lvE B), .sl 1 (strE S), .sl 1 (strE T), .int .i64 ho, .int .i64 ep, .str ro, .str pr, .int .i64 a, .sl 1 (strE op), .sl 1 (strE sh), .sl 1 (strE si), .sl 5 (wsE st)]] _ _
 have e1 : IntKind.i64.wrap (((3 : Nat) : Int) - 1) = 2 := by rw [wrap_i64 (by omega) (by omega)]; omega
 have e2 : IntKind.i64.wrap (8 - K) = 8 - K := wrap_i64 (by omega) (by omega)
 cases b1
 ·rw [hP false ⟨fun h => (by cases h), fun h => (by cases h.1)⟩]
  clear hP
  refine z01 z0d 1 rfl Tryz.func25 rfl rfl rfl ?_
  conv => arg 6; whnf
  repeat ((try conv => whnf); first | (with_reducible first | refine z0b (fun Qs hN hE hR => ?_) | refine z09 ?_ | refine z03 (fun Qb kN kE kX kR => ?_) | refine z05 ?_ | refine z06 ?_ | refine z0a ?_ | refine z07 ?_ | refine z08 ?_ | (show W _ _ _ (.cond _ _ _) _ _; refine z04 rfl ?_) | (refine hN _ ?_; try clear hN hE hR Qs; (try (conv => arg 6; dsimp only [ovl, List.set, List.map, ren0]))) | ((first | refine hE _ _ ?_ | refine hR _ ?_); try clear hN hE hR Qs) | ((first | refine kN _ ?_ | refine kE _ ?_ | refine kX _ _ rfl ?_ | refine kR _ ?_); try clear kN kE kX kR Qb)) | (refine ccA ([]) (c1) ?_) | (refine Exists.intro 3 (And.intro hRl ?_)) | (refine Exists.intro _ (And.intro e1.symm ?_)) | (refine ccA ([]) (c2) ?_) | (refine ccA ([]) (c3) ?_) | (refine Exists.intro S.length (And.intro hSl ?_)) | (refine Exists.intro _ (And.intro e2.symm ?_)) | (refine Exists.intro T.length (And.intro hTl ?_)) | (refine ccA ([]) (c4) ?_) | (refine And.intro (by kernel_rfl) ?_) | (refine stpQ ?_))
  (refine z00 (by rfl) ?_ ?_ (by rfl)) <;> (repeat' (first | (exact eqA) | (refine And.intro ?_ ?_) | ((fail_if_success (with_reducible (show _ = _))); (show _ = _)))) <;> rfl
 cases b2
 ·rw [hP false ⟨fun h => (by cases h), fun h => (by cases h.2.1)⟩]
  clear hP
  refine z01 z0d 1 rfl Tryz.func25 rfl rfl rfl ?_
  conv => arg 6; whnf
  repeat ((try conv => whnf); first | (with_reducible first | refine z0b (fun Qs hN hE hR => ?_) | refine z09 ?_ | refine z03 (fun Qb kN kE kX kR => ?_) | refine z05 ?_ | refine z06 ?_ | refine z0a ?_ | refine z07 ?_ | refine z08 ?_ | (show W _ _ _ (.cond _ _ _) _ _; refine z04 rfl ?_) | (refine hN _ ?_; try clear hN hE hR Qs; (try (conv => arg 6; dsimp only [ovl, List.set, List.map, ren0]))) | ((first | refine hE _ _ ?_ | refine hR _ ?_); try clear hN hE hR Qs) | ((first | refine kN _ ?_ | refine kE _ ?_ | refine kX _ _ rfl ?_ | refine kR _ ?_); try clear kN kE kX kR Qb)) | (refine ccA ([]) (c1) ?_) | (refine Exists.intro 3 (And.intro hRl ?_)) | (refine Exists.intro _ (And.intro e1.symm ?_)) | (refine ccA ([]) (c2) ?_) | (refine ccA ([]) (c3) ?_) | (refine Exists.intro S.length (And.intro hSl ?_)) | (refine Exists.intro _ (And.intro e2.symm ?_)) | (refine Exists.intro T.length (And.intro hTl ?_)) | (refine ccA ([]) (c4) ?_) | (refine And.intro (by kernel_rfl) ?_) | (refine stpQ ?_))
  (refine z00 (by rfl) ?_ ?_ (by rfl)) <;> (repeat' (first | (exact eqA) | (refine And.intro ?_ ?_) | ((fail_if_success (with_reducible (show _ = _))); (show _ = _)))) <;> rfl
 cases b3
 ·rw [hP false ⟨fun h => (by cases h), fun h => (by cases h.2.2.1)⟩]
  clear hP
  refine z01 z0d 1 rfl Tryz.func25 rfl rfl rfl ?_
  conv => arg 6; whnf
  repeat ((try conv => whnf); first | (with_reducible first | refine z0b (fun Qs hN hE hR => ?_) | refine z09 ?_ | refine z03 (fun Qb kN kE kX kR => ?_) | refine z05 ?_ | refine z06 ?_ | refine z0a ?_ | refine z07 ?_ | refine z08 ?_ | (show W _ _ _ (.cond _ _ _) _ _; refine z04 rfl ?_) | (refine hN _ ?_; try clear hN hE hR Qs; (try (conv => arg 6; dsimp only [ovl, List.set, List.map, ren0]))) | ((first | refine hE _ _ ?_ | refine hR _ ?_); try clear hN hE hR Qs) | ((first | refine kN _ ?_ | refine kE _ ?_ | refine kX _ _ rfl ?_ | refine kR _ ?_); try clear kN kE kX kR Qb)) | (refine ccA ([]) (c1) ?_) | (refine Exists.intro 3 (And.intro hRl ?_)) | (refine Exists.intro _ (And.intro e1.symm ?_)) | (refine ccA ([]) (c2) ?_) | (refine ccA ([]) (c3) ?_) | (refine Exists.intro S.length (And.intro hSl ?_)) | (refine Exists.intro _ (And.intro e2.symm ?_)) | (refine Exists.intro T.length (And.intro hTl ?_)) | (refine ccA ([]) (c4) ?_) | (refine And.intro (by kernel_rfl) ?_) | (refine stpQ ?_))
  (refine z00 (by rfl) ?_ ?_ (by rfl)) <;> (repeat' (first | (exact eqA) | (refine And.intro ?_ ?_) | ((fail_if_success (with_reducible (show _ = _))); (show _ = _)))) <;> rfl
 by_cases p4 : (S.length : Int) = 8 - K
 rotate_left
 ·rw [hP false ⟨fun h => (by cases h), fun h => (by exact absurd h.2.2.2.1 p4)⟩]
  clear hP
  refine z01 z0d 1 rfl Tryz.func25 rfl rfl rfl ?_
  conv => arg 6; whnf
  repeat ((try conv => whnf); first | (with_reducible first | refine z0b (fun Qs hN hE hR => ?_) | refine z09 ?_ | refine z03 (fun Qb kN kE kX kR => ?_) | refine z05 ?_ | refine z06 ?_ | refine z0a ?_ | refine z07 ?_ | refine z08 ?_ | (show W _ _ _ (.cond _ _ _) _ _; refine z04 rfl ?_) | (refine hN _ ?_; try clear hN hE hR Qs; (try (conv => arg 6; dsimp only [ovl, List.set, List.map, ren0]))) | ((first | refine hE _ _ ?_ | refine hR _ ?_); try clear hN hE hR Qs) | ((first | refine kN _ ?_ | refine kE _ ?_ | refine kX _ _ rfl ?_ | refine kR _ ?_); try clear kN kE kX kR Qb)) | (refine ccA ([]) (c1) ?_) | (refine Exists.intro 3 (And.intro hRl ?_)) | (refine Exists.intro _ (And.intro e1.symm ?_)) | (refine ccA ([]) (c2) ?_) | (refine ccA ([]) (c3) ?_) | (refine Exists.intro S.length (And.intro hSl ?_)) | (refine Exists.intro _ (And.intro e2.symm ?_)) | (refine Exists.intro T.length (And.intro hTl ?_)) | (refine ccA ([]) (c4) ?_) | (refine z0k p4 ?_) | (refine And.intro (by kernel_rfl) ?_) | (refine stpQ ?_))
  (refine z00 (by rfl) ?_ ?_ (by rfl)) <;> (repeat' (first | (exact eqA) | (refine And.intro ?_ ?_) | ((fail_if_success (with_reducible (show _ = _))); (show _ = _)))) <;> rfl
 by_cases p6 : (T.length : Int) = K
 rotate_left
 ·rw [hP false ⟨fun h => (by cases h), fun h => (by exact absurd h.2.2.2.2.1.2 p6)⟩]
  clear hP
  refine z01 z0d 1 rfl Tryz.func25 rfl rfl rfl ?_
  conv => arg 6; whnf
  repeat ((try conv => whnf); first | (with_reducible first | refine z0b (fun Qs hN hE hR => ?_) | refine z09 ?_ | refine z03 (fun Qb kN kE kX kR => ?_) | refine z05 ?_ | refine z06 ?_ | refine z0a ?_ | refine z07 ?_ | refine z08 ?_ | (show W _ _ _ (.cond _ _ _) _ _; refine z04 rfl ?_) | (refine hN _ ?_; try clear hN hE hR Qs; (try (conv => arg 6; dsimp only [ovl, List.set, List.map, ren0]))) | ((first | refine hE _ _ ?_ | refine hR _ ?_); try clear hN hE hR Qs) | ((first | refine kN _ ?_ | refine kE _ ?_ | refine kX _ _ rfl ?_ | refine kR _ ?_); try clear kN kE kX kR Qb)) | (refine ccA ([]) (c1) ?_) | (refine Exists.intro 3 (And.intro hRl ?_)) | (refine Exists.intro _ (And.intro e1.symm ?_)) | (refine ccA ([]) (c2) ?_) | (refine ccA ([]) (c3) ?_) | (refine Exists.intro S.length (And.intro hSl ?_)) | (refine Exists.intro _ (And.intro e2.symm ?_)) | (refine Exists.intro T.length (And.intro hTl ?_)) | (refine ccA ([]) (c4) ?_) | (refine z1C p4 ?_) | (refine z0k p6 ?_) | (refine And.intro (by kernel_rfl) ?_) | (refine stpQ ?_))
  (refine z00 (by rfl) ?_ ?_ (by rfl)) <;> (repeat' (first | (exact eqA) | (refine And.intro ?_ ?_) | ((fail_if_success (with_reducible (show _ = _))); (show _ = _)))) <;> rfl
 cases b5
 ·rw [hP false ⟨fun h => (by cases h), fun h => (by cases h.2.2.2.2.1.1)⟩]
  clear hP
  refine z01 z0d 1 rfl Tryz.func25 rfl rfl rfl ?_
  conv => arg 6; whnf
  repeat ((try conv => whnf); first | (with_reducible first | refine z0b (fun Qs hN hE hR => ?_) | refine z09 ?_ | refine z03 (fun Qb kN kE kX kR => ?_) | refine z05 ?_ | refine z06 ?_ | refine z0a ?_ | refine z07 ?_ | refine z08 ?_ | (show W _ _ _ (.cond _ _ _) _ _; refine z04 rfl ?_) | (refine hN _ ?_; try clear hN hE hR Qs; (try (conv => arg 6; dsimp only [ovl, List.set, List.map, ren0]))) | ((first | refine hE _ _ ?_ | refine hR _ ?_); try clear hN hE hR Qs) | ((first | refine kN _ ?_ | refine kE _ ?_ | refine kX _ _ rfl ?_ | refine kR _ ?_); try clear kN kE kX kR Qb)) | (refine ccA ([]) (c1) ?_) | (refine Exists.intro 3 (And.intro hRl ?_)) | (refine Exists.intro _ (And.intro e1.symm ?_)) | (refine ccA ([]) (c2) ?_) | (refine ccA ([]) (c3) ?_) | (refine Exists.intro S.length (And.intro hSl ?_)) | (refine Exists.intro _ (And.intro e2.symm ?_)) | (refine Exists.intro T.length (And.intro hTl ?_)) | (refine ccA ([]) (c4) ?_) | (refine z1C p4 ?_) | (refine z1C p6 ?_) | (refine And.intro (by kernel_rfl) ?_) | (refine stpQ ?_))
  (refine z00 (by rfl) ?_ ?_ (by rfl)) <;> (repeat' (first | (exact eqA) | (refine And.intro ?_ ?_) | ((fail_if_success (with_reducible (show _ = _))); (show _ = _)))) <;> rfl
 have hlen : (wsE st).length = st.length := hst
 refine z01 z0d 1 rfl Tryz.func25 rfl rfl rfl ?_
 conv => arg 6; whnf
 repeat ((try conv => whnf); first | (with_reducible first | refine z0b (fun Qs hN hE hR => ?_) | refine z09 ?_ | refine z03 (fun Qb kN kE kX kR => ?_) | refine z05 ?_ | refine z06 ?_ | refine z0a ?_ | refine z07 ?_ | refine z08 ?_ | (show W _ _ _ (.cond _ _ _) _ _; refine z04 rfl ?_) | (refine hN _ ?_; try clear hN hE hR Qs; (try (conv => arg 6; dsimp only [ovl, List.set, List.map, ren0]))) | ((first | refine hE _ _ ?_ | refine hR _ ?_); try clear hN hE hR Qs) | ((first | refine kN _ ?_ | refine kE _ ?_ | refine kX _ _ rfl ?_ | refine kR _ ?_); try clear kN kE kX kR Qb)) | (refine ccA ([]) (c1) ?_) | (refine Exists.intro 3 (And.intro hRl ?_)) | (refine Exists.intro _ (And.intro e1.symm ?_)) | (refine ccA ([]) (c2) ?_) | (refine ccA ([]) (c3) ?_) | (refine Exists.intro S.length (And.intro hSl ?_)) | (refine Exists.intro _ (And.intro e2.symm ?_)) | (refine Exists.intro T.length (And.intro hTl ?_)) | (refine ccA ([]) (c4) ?_) | (refine z1C p4 ?_) | (refine z1C p6 ?_) | (refine And.intro (by kernel_rfl) ?_) | (refine stpQ ?_))
 refine z6x Nat (fun i => ⟨[(7, .ptr 1 0 0), (8, .bool false), (9, .int .i64 ((i : Nat) : Int))], [(1, some (.box [.sl 2 (lvE B), .sl 1 (strE S), .sl 1 (strE T), .int .i64 ho, .int .i64 ep, .str ro, .str pr, .int .i64 a, .sl 1 (strE op), .sl 1 (strE sh), .sl 1 (strE si), .sl 5 (wsE st)]))], 2⟩) (fun i => 1 ≤ i ∧ ∀ k, k + 1 < i → k + 1 < st.length → (wsAt st k).1 < (wsAt st (k + 1)).1) (fun i => st.length + 1 - i) 1 ⟨by omega, fun k h => by omega⟩ ?_ ?_
 ·(refine z02 (by rfl) ?_ ?_) <;> (repeat' (first | (exact eqA) | (refine And.intro ?_ ?_) | ((fail_if_success (with_reducible (show _ = _))); (show _ = _)))) <;> first | rfl | decide
 ·intro Q1 hQ1 i hx
  have hi := hx.1
  have hp := hx.2
  clear hx
  by_cases hlt : i < st.length
  ·have f1 : (i : Int) < (st.length : Int) := by omega
   obtain ⟨j, rfl⟩ : ∃ j, i = j + 1 := ⟨i - 1, by omega⟩
   have ga := z5w (show j < st.length by omega)
   have gb := z5w hlt
   have e3 : IntKind.i64.wrap (((j + 1 : Nat) : Int) - 1) = ((j : Nat) : Int) := by rw [wrap_i64 (by omega) (by omega)]; omega
   by_cases hr : (wsAt st j).1 < (wsAt st (j + 1)).1
   ·have f2 : ¬ (wsAt st j).1 ≥ (wsAt st (j + 1)).1 := by omega
    have hp2 : ∀ k, k + 1 < j + 1 + 1 → k + 1 < st.length → (wsAt st k).1 < (wsAt st (k + 1)).1 := fun k h1 h2 => by
     rcases Nat.lt_or_ge (k + 1) (j + 1) with q | q
     ·exact hp k q h2
     ·obtain rfl : k = j := by omega
      exact hr
    clear hp hP hr
    generalize wsAt st j = s0 at ga f2
    generalize wsAt st (j + 1) = s1 at gb f2
    obtain ⟨p1, p2, p3, p4, p5⟩ := s0
    obtain ⟨q1, q2, q3, q4, q5⟩ := s1
    repeat ((try conv => whnf); first | (with_reducible first | refine z0b (fun Qs hN hE hR => ?_) | refine z09 ?_ | refine z03 (fun Qb kN kE kX kR => ?_) | refine z05 ?_ | refine z06 ?_ | refine z0a ?_ | refine z07 ?_ | refine z08 ?_ | (show W _ _ _ (.cond _ _ _) _ _; refine z04 rfl ?_) | (refine hN _ ?_; try clear hN hE hR Qs; (try (conv => arg 6; dsimp only [ovl, List.set, List.map, ren0]))) | ((first | refine hE _ _ ?_ | refine hR _ ?_); try clear hN hE hR Qs) | ((first | refine kN _ ?_ | refine kE _ ?_ | refine kX _ _ rfl ?_ | refine kR _ ?_); try clear kN kE kX kR Qb)) | (refine Exists.intro st.length (And.intro hlen ?_)) | (refine z0i f1 ?_) | (refine Exists.intro _ (And.intro e3.symm ?_)) | (refine i_at ga ?_) | (refine i_at gb ?_) | (refine z0k f2 ?_) | (refine And.intro (by kernel_rfl) ?_) | (refine stpQ ?_))
    refine ⟨j + 1 + 1, ⟨by omega, hp2⟩, by omega, ?_⟩
    (refine z02 (by rfl) ?_ ?_) <;> (repeat' (first | (exact eqA) | (refine And.intro ?_ ?_) | ((fail_if_success (with_reducible (show _ = _))); (show _ = _))))
   ·have f2 : (wsAt st j).1 ≥ (wsAt st (j + 1)).1 := by omega
    have eA := hP false ⟨fun h => (by cases h), fun h => (hr (h.2.2.2.2.2 j hlt)).elim⟩
    clear hP hp hr
    generalize wsAt st j = s0 at ga f2
    generalize wsAt st (j + 1) = s1 at gb f2
    obtain ⟨p1, p2, p3, p4, p5⟩ := s0
    obtain ⟨q1, q2, q3, q4, q5⟩ := s1
    repeat ((try conv => whnf); first | (with_reducible first | refine z0b (fun Qs hN hE hR => ?_) | refine z09 ?_ | refine z03 (fun Qb kN kE kX kR => ?_) | refine z05 ?_ | refine z06 ?_ | refine z0a ?_ | refine z07 ?_ | refine z08 ?_ | (show W _ _ _ (.cond _ _ _) _ _; refine z04 rfl ?_) | (refine hN _ ?_; try clear hN hE hR Qs; (try (conv => arg 6; dsimp only [ovl, List.set, List.map, ren0]))) | ((first | refine hE _ _ ?_ | refine hR _ ?_); try clear hN hE hR Qs) | ((first | refine kN _ ?_ | refine kE _ ?_ | refine kX _ _ rfl ?_ | refine kR _ ?_); try clear kN kE kX kR Qb)) | (refine Exists.intro st.length (And.intro hlen ?_)) | (refine z0i f1 ?_) | (refine Exists.intro _ (And.intro e3.symm ?_)) | (refine i_at ga ?_) | (refine i_at gb ?_) | (refine z0i f2 ?_) | (refine And.intro (by kernel_rfl) ?_) | (refine stpQ ?_))
    refine hQ1 _ _ ?_
    clear hQ1 Q1
    repeat ((try conv => whnf); first | (with_reducible first | refine z0b (fun Qs hN hE hR => ?_) | refine z09 ?_ | refine z03 (fun Qb kN kE kX kR => ?_) | refine z05 ?_ | refine z06 ?_ | refine z0a ?_ | refine z07 ?_ | refine z08 ?_ | (show W _ _ _ (.cond _ _ _) _ _; refine z04 rfl ?_) | (refine hN _ ?_; try clear hN hE hR Qs; (try (conv => arg 6; dsimp only [ovl, List.set, List.map, ren0]))) | ((first | refine hE _ _ ?_ | refine hR _ ?_); try clear hN hE hR Qs) | ((first | refine kN _ ?_ | refine kE _ ?_ | refine kX _ _ rfl ?_ | refine kR _ ?_); try clear kN kE kX kR Qb)) | (refine And.intro (by kernel_rfl) ?_) | (refine stpQ ?_))
    (refine z00 (by rfl) ?_ ?_ (by rfl)) <;> (repeat' (first | (exact eqA) | (refine And.intro ?_ ?_) | ((fail_if_success (with_reducible (show _ = _))); (show _ = _)))) <;> first | rfl | (rw [eA]; done)
  ·have f1 : ¬ (i : Int) < (st.length : Int) := by omega
   have eA := hP true ⟨fun _ => ⟨rfl, rfl, rfl, p4, ⟨rfl, p6⟩, fun k hk => hp k (by omega) hk⟩, fun _ => rfl⟩
   clear hP hp
   repeat ((try conv => whnf); first | (with_reducible first | refine z0b (fun Qs hN hE hR => ?_) | refine z09 ?_ | refine z03 (fun Qb kN kE kX kR => ?_) | refine z05 ?_ | refine z06 ?_ | refine z0a ?_ | refine z07 ?_ | refine z08 ?_ | (show W _ _ _ (.cond _ _ _) _ _; refine z04 rfl ?_) | (refine hN _ ?_; try clear hN hE hR Qs; (try (conv => arg 6; dsimp only [ovl, List.set, List.map, ren0]))) | ((first | refine hE _ _ ?_ | refine hR _ ?_); try clear hN hE hR Qs) | ((first | refine kN _ ?_ | refine kE _ ?_ | refine kX _ _ rfl ?_ | refine kR _ ?_); try clear kN kE kX kR Qb)) | (refine Exists.intro st.length (And.intro hlen ?_)) | (refine z0k f1 ?_) | (refine And.intro (by kernel_rfl) ?_) | (refine stpQ ?_))
   refine hQ1 _ _ ?_
   clear hQ1 Q1
   repeat ((try conv => whnf); first | (with_reducible first | refine z0b (fun Qs hN hE hR => ?_) | refine z09 ?_ | refine z03 (fun Qb kN kE kX kR => ?_) | refine z05 ?_ | refine z06 ?_ | refine z0a ?_ | refine z07 ?_ | refine z08 ?_ | (show W _ _ _ (.cond _ _ _) _ _; refine z04 rfl ?_) | (refine hN _ ?_; try clear hN hE hR Qs; (try (conv => arg 6; dsimp only [ovl, List.set, List.map, ren0]))) | ((first | refine hE _ _ ?_ | refine hR _ ?_); try clear hN hE hR Qs) | ((first | refine kN _ ?_ | refine kE _ ?_ | refine kX _ _ rfl ?_ | refine kR _ ?_); try clear kN kE kX kR Qb)) | (refine And.intro (by kernel_rfl) ?_) | (refine stpQ ?_))
   (refine z00 (by rfl) ?_ ?_ (by rfl)) <;> (repeat' (first | (exact eqA) | (refine And.intro ?_ ?_) | ((fail_if_success (with_reducible (show _ = _))); (show _ = _)))) <;> (rw [eA]; done)
end
end Go.Proofs.YtgmbkbggnlponaaGreatDoor
