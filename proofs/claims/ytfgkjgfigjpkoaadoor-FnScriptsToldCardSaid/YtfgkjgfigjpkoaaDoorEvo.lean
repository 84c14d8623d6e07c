/- Functions by content: which moves and events are valid, by the program and by the reference. -/
import Derived.Test.YtfgkjgfigjpkoaaDoorPlE
namespace Go.Proofs.YtfgkjgfigjpkoaaDoor
set_option maxRecDepth 100000
set_option maxHeartbeats 2000000
set_option linter.unusedVariables false
set_option linter.unusedSimpArgs false
set_option linter.unusedSectionVars false
open Go.RowKit Pl
section
attribute [local irreducible] z0t z0u z0C AnsP LeP
theorem z7t (n : Int) : CT Tryd.prog 57 [] [.int .i64 n] (.bool (inB n 0 2)) [] := by
 have c1 := c_in n 0 2
 generalize inB n 0 2 = b at c1 ⊢
 refine z0d z0f 1 rfl Tryd.func57 rfl rfl rfl ?_
 repeat ((try conv => whnf); first | (refine ccA ([]) (c1) ?_) | (refine stpQ ?_))
 (refine z09 (by rfl) ?_ ?_ (by rfl)) <;> (repeat' (first | (exact eqA) | (refine And.intro ?_ ?_) | ((fail_if_success (with_reducible (show _ = _))); (show _ = _))))
theorem z7u (n : Int) : CT Tryd.prog 13 [] [.int .i64 n] (.bool (inB n 0 2)) [] := by
 have c1 := c_in n 0 2
 generalize inB n 0 2 = b at c1 ⊢
 refine z0d z0f 1 rfl Tryd.func13 rfl rfl rfl ?_
 repeat ((try conv => whnf); first | (refine ccA ([]) (c1) ?_) | (refine stpQ ?_))
 (refine z09 (by rfl) ?_ ?_ (by rfl)) <;> (repeat' (first | (exact eqA) | (refine And.intro ?_ ?_) | ((fail_if_success (with_reducible (show _ = _))); (show _ = _))))
theorem z9W (e : Evt) (hf : (e.cn.length : Int) ≤ 1000000000 ∧ (e.cv.length : Int) ≤ 1000000000) : CT Tryd.prog 58 [] [.agg (mvC e)] (.bool (mvOk e)) [] := by
 have c1 := c_in e.mk 1 10
 have c2 := c_in e.mn 0 4
 have c3 := z7q (e.ci, e.cn, e.cv) hf
 unfold chL at c3
 simp only at c3
 unfold mvOk mvC chZ
 obtain ⟨k, h, a, mk, mn, ma, ci, cn, cv, tx⟩ := e
 simp only at c1 c2 c3 ⊢
 clear hf
 generalize z0s ci cn cv = bc at c3 ⊢
 refine z0d z0f 1 rfl Tryd.func58 rfl rfl rfl ?_
 cases h1 : inB mk 1 10
 ·rw [h1] at c1
  simp only [Bool.false_and]
  repeat ((try conv => whnf); first | (refine ccA ([]) (c1) ?_) | (refine stpQ ?_))
  (refine z09 (by rfl) ?_ ?_ (by rfl)) <;> (repeat' (first | (exact eqA) | (refine And.intro ?_ ?_) | ((fail_if_success (with_reducible (show _ = _))); (show _ = _))))
 ·rw [h1] at c1
  simp only [Bool.true_and]
  cases h2 : inB mn 0 4
  ·rw [h2] at c2
   simp only [Bool.false_and]
   repeat ((try conv => whnf); first | (refine ccA ([]) (c1) ?_) | (refine ccA ([]) (c2) ?_) | (refine stpQ ?_))
   (refine z09 (by rfl) ?_ ?_ (by rfl)) <;> (repeat' (first | (exact eqA) | (refine And.intro ?_ ?_) | ((fail_if_success (with_reducible (show _ = _))); (show _ = _))))
  ·rw [h2] at c2
   simp only [Bool.true_and]
   clear h1 h2
   by_cases h3 : ma < 0
   ·rw [decide_eq_true h3]
    simp only [Bool.not_true, Bool.false_and]
    repeat ((try conv => whnf); first | (refine ccA ([]) (c1) ?_) | (refine ccA ([]) (c2) ?_) | (refine z0b h3 ?_) | (refine stpQ ?_))
    (refine z09 (by rfl) ?_ ?_ (by rfl)) <;> (repeat' (first | (exact eqA) | (refine And.intro ?_ ?_) | ((fail_if_success (with_reducible (show _ = _))); (show _ = _))))
   ·rw [decide_eq_false h3]
    simp only [Bool.not_false, Bool.true_and]
    by_cases h4 : mk = 1
    ·rw [decide_eq_true h4]
     simp only [cond_true]
     repeat ((try conv => whnf); first | (refine ccA ([]) (c1) ?_) | (refine ccA ([]) (c2) ?_) | (refine ccA ([]) (c3) ?_) | (refine z0c h3 ?_) | (refine z0b h4 ?_) | (refine stpQ ?_))
     (refine z09 (by rfl) ?_ ?_ (by rfl)) <;> (repeat' (first | (exact eqA) | (refine And.intro ?_ ?_) | ((fail_if_success (with_reducible (show _ = _))); (show _ = _))))
    ·rw [decide_eq_false h4]
     simp only [cond_false]
     repeat ((try conv => whnf); first | (refine ccA ([]) (c1) ?_) | (refine ccA ([]) (c2) ?_) | (refine z0c h3 ?_) | (refine z0c h4 ?_) | (refine stpQ ?_))
     (refine z09 (by rfl) ?_ ?_ (by rfl)) <;> (repeat' (first | (exact eqA) | (refine And.intro ?_ ?_) | ((fail_if_success (with_reducible (show _ = _))); (show _ = _))))
theorem z0D (e : Evt) (hf : (e.cn.length : Int) ≤ 1000000000 ∧ (e.cv.length : Int) ≤ 1000000000) : CT Tryd.prog 44 [] [.agg (evC e)] (.bool (evOk e)) [] := by
 have c1 := c_in e.k 1 8
 have c2 := z7t e.h
 have c3 := z9W e hf
 unfold evOk evC mvC mvZ at *
 generalize mvOk e = bm at c3 ⊢
 obtain ⟨k, h, a, mk, mn, ma, ci, cn, cv, tx⟩ := e
 simp only at c1 c2 c3 ⊢
 clear hf
 refine z0d z0f 1 rfl Tryd.func44 rfl rfl rfl ?_
 cases h1 : inB k 1 8
 ·rw [h1] at c1
  simp only [Bool.false_and]
  repeat ((try conv => whnf); first | (refine ccA ([]) (c1) ?_) | (refine stpQ ?_))
  (refine z09 (by rfl) ?_ ?_ (by rfl)) <;> (repeat' (first | (exact eqA) | (refine And.intro ?_ ?_) | ((fail_if_success (with_reducible (show _ = _))); (show _ = _))))
 ·rw [h1] at c1
  simp only [Bool.true_and]
  cases h2 : inB h 0 2
  ·rw [h2] at c2
   simp only [Bool.false_and]
   repeat ((try conv => whnf); first | (refine ccA ([]) (c1) ?_) | (refine ccA ([]) (c2) ?_) | (refine stpQ ?_))
   (refine z09 (by rfl) ?_ ?_ (by rfl)) <;> (repeat' (first | (exact eqA) | (refine And.intro ?_ ?_) | ((fail_if_success (with_reducible (show _ = _))); (show _ = _))))
  ·rw [h2] at c2
   simp only [Bool.true_and]
   clear h1 h2
   by_cases h3 : a < 0
   ·rw [decide_eq_true h3]
    simp only [Bool.not_true, Bool.false_and]
    repeat ((try conv => whnf); first | (refine ccA ([]) (c1) ?_) | (refine ccA ([]) (c2) ?_) | (refine z0b h3 ?_) | (refine stpQ ?_))
    (refine z09 (by rfl) ?_ ?_ (by rfl)) <;> (repeat' (first | (exact eqA) | (refine And.intro ?_ ?_) | ((fail_if_success (with_reducible (show _ = _))); (show _ = _))))
   ·rw [decide_eq_false h3]
    simp only [Bool.not_false, Bool.true_and]
    by_cases h4 : k = 1
    ·have h4n : ¬ ¬ k = 1 := fun c => c h4
     have h5 : ¬ k = 5 := by omega
     have h6 : ¬ k = 6 := by omega
     rw [decide_eq_true h4, decide_eq_false h5, decide_eq_false h6]
     simp only [cond_true, cond_false]
     cases bm
     ·simp only [Bool.false_and]
      repeat ((try conv => whnf); first | (refine ccA ([]) (c1) ?_) | (refine ccA ([]) (c2) ?_) | (refine ccA ([]) (c3) ?_) | (refine z0c h3 ?_) | (refine z0b h4 ?_) | (refine z0j h4 ?_) | (refine stpQ ?_))
      (refine z09 (by rfl) ?_ ?_ (by rfl)) <;> (repeat' (first | (exact eqA) | (refine And.intro ?_ ?_) | ((fail_if_success (with_reducible (show _ = _))); (show _ = _))))
     ·simp only [Bool.true_and]
      repeat ((try conv => whnf); first | (refine ccA ([]) (c1) ?_) | (refine ccA ([]) (c2) ?_) | (refine ccA ([]) (c3) ?_) | (refine z0c h3 ?_) | (refine z0b h4 ?_) | (refine z0j h4 ?_) | (refine z0c h5 ?_) | (refine z0c h6 ?_) | (refine stpQ ?_))
      (refine z09 (by rfl) ?_ ?_ (by rfl)) <;> (repeat' (first | (exact eqA) | (refine And.intro ?_ ?_) | ((fail_if_success (with_reducible (show _ = _))); (show _ = _))))
    ·rw [decide_eq_false h4]
     simp only [cond_false]
     generalize hq : eqC [T.int .i64 mk, T.int .i64 mn, T.int .i64 ma, T.int .i64 ci, T.str cn, T.str cv] [T.int .i64 0, T.int .i64 0, T.int .i64 0, T.int .i64 0, T.str [], T.str []] = q
     cases q
     ·simp only [Bool.false_and]
      have hq2 : (!eqC [T.int .i64 mk, T.int .i64 mn, T.int .i64 ma, T.int .i64 ci, T.str cn, T.str cv] [T.int .i64 0, T.int .i64 0, T.int .i64 0, T.int .i64 0, T.str [], T.str []]) = true := by rw [hq]; rfl
      repeat ((try conv => whnf); first | (refine ccA ([]) (c1) ?_) | (refine ccA ([]) (c2) ?_) | (refine z0c h3 ?_) | (refine z0c h4 ?_) | (refine z0r h4 ?_) | (refine cb_t hq2 ?_) | (refine stpQ ?_))
      (refine z09 (by rfl) ?_ ?_ (by rfl)) <;> (repeat' (first | (exact eqA) | (refine And.intro ?_ ?_) | ((fail_if_success (with_reducible (show _ = _))); (show _ = _))))
     ·simp only [Bool.true_and]
      have hq2 : (!eqC [T.int .i64 mk, T.int .i64 mn, T.int .i64 ma, T.int .i64 ci, T.str cn, T.str cv] [T.int .i64 0, T.int .i64 0, T.int .i64 0, T.int .i64 0, T.str [], T.str []]) = false := by rw [hq]; rfl
      by_cases h5 : k = 5
      ·rw [decide_eq_true h5]
       simp only [cond_true]
       repeat ((try conv => whnf); first | (refine ccA ([]) (c1) ?_) | (refine ccA ([]) (c2) ?_) | (refine z0c h3 ?_) | (refine z0c h4 ?_) | (refine z0r h4 ?_) | (refine cb_f hq2 ?_) | (refine z0b h5 ?_) | (refine stpQ ?_))
       (refine z09 (by rfl) ?_ ?_ (by rfl)) <;> (repeat' (first | (exact eqA) | (refine And.intro ?_ ?_) | ((fail_if_success (with_reducible (show _ = _))); (show _ = _))))
      ·rw [decide_eq_false h5]
       simp only [cond_false]
       by_cases h6 : k = 6
       ·rw [decide_eq_true h6]
        simp only [cond_true]
        repeat ((try conv => whnf); first | (refine ccA ([]) (c1) ?_) | (refine ccA ([]) (c2) ?_) | (refine z0c h3 ?_) | (refine z0c h4 ?_) | (refine z0r h4 ?_) | (refine cb_f hq2 ?_) | (refine z0c h5 ?_) | (refine z0b h6 ?_) | (refine stpQ ?_))
        (refine z09 (by rfl) ?_ ?_ (by rfl)) <;> (repeat' (first | (exact eqA) | (refine And.intro ?_ ?_) | ((fail_if_success (with_reducible (show _ = _))); (show _ = _))))
       ·rw [decide_eq_false h6]
        simp only [cond_false]
        repeat ((try conv => whnf); first | (refine ccA ([]) (c1) ?_) | (refine ccA ([]) (c2) ?_) | (refine z0c h3 ?_) | (refine z0c h4 ?_) | (refine z0r h4 ?_) | (refine cb_f hq2 ?_) | (refine z0c h5 ?_) | (refine z0c h6 ?_) | (refine stpQ ?_))
        (refine z09 (by rfl) ?_ ?_ (by rfl)) <;> (repeat' (first | (exact eqA) | (refine And.intro ?_ ?_) | ((fail_if_success (with_reducible (show _ = _))); (show _ = _))))
theorem z8R (e : Evt) (hf : (e.cn.length : Int) ≤ 1000000000 ∧ (e.cv.length : Int) ≤ 1000000000) : CT Tryd.prog 46 [] [.agg (mvC e)] (.bool (mvOk e)) [] := by
 have c1 := z2C e.mk 1 10
 have c2 := z2C e.mn 0 4
 have c3 := z63 (e.ci, e.cn, e.cv) hf
 unfold chL at c3
 simp only at c3
 unfold mvOk mvC chZ
 obtain ⟨k, h, a, mk, mn, ma, ci, cn, cv, tx⟩ := e
 simp only at c1 c2 c3 ⊢
 clear hf
 generalize z0s ci cn cv = bc at c3 ⊢
 refine z0d z0f 1 rfl Tryd.func46 rfl rfl rfl ?_
 cases h1 : inB mk 1 10
 ·rw [h1] at c1
  simp only [Bool.false_and]
  repeat ((try conv => whnf); first | (refine ccA ([]) (c1) ?_) | (refine stpQ ?_))
  (refine z09 (by rfl) ?_ ?_ (by rfl)) <;> (repeat' (first | (exact eqA) | (refine And.intro ?_ ?_) | ((fail_if_success (with_reducible (show _ = _))); (show _ = _))))
 ·rw [h1] at c1
  simp only [Bool.true_and]
  cases h2 : inB mn 0 4
  ·rw [h2] at c2
   simp only [Bool.false_and]
   repeat ((try conv => whnf); first | (refine ccA ([]) (c1) ?_) | (refine ccA ([]) (c2) ?_) | (refine stpQ ?_))
   (refine z09 (by rfl) ?_ ?_ (by rfl)) <;> (repeat' (first | (exact eqA) | (refine And.intro ?_ ?_) | ((fail_if_success (with_reducible (show _ = _))); (show _ = _))))
  ·rw [h2] at c2
   simp only [Bool.true_and]
   clear h1 h2
   by_cases h3 : ma < 0
   ·rw [decide_eq_true h3]
    simp only [Bool.not_true, Bool.false_and]
    repeat ((try conv => whnf); first | (refine ccA ([]) (c1) ?_) | (refine ccA ([]) (c2) ?_) | (refine z0b h3 ?_) | (refine stpQ ?_))
    (refine z09 (by rfl) ?_ ?_ (by rfl)) <;> (repeat' (first | (exact eqA) | (refine And.intro ?_ ?_) | ((fail_if_success (with_reducible (show _ = _))); (show _ = _))))
   ·rw [decide_eq_false h3]
    simp only [Bool.not_false, Bool.true_and]
    by_cases h4 : mk = 1
    ·rw [decide_eq_true h4]
     simp only [cond_true]
     repeat ((try conv => whnf); first | (refine ccA ([]) (c1) ?_) | (refine ccA ([]) (c2) ?_) | (refine ccA ([]) (c3) ?_) | (refine z0c h3 ?_) | (refine z0b h4 ?_) | (refine stpQ ?_))
     (refine z09 (by rfl) ?_ ?_ (by rfl)) <;> (repeat' (first | (exact eqA) | (refine And.intro ?_ ?_) | ((fail_if_success (with_reducible (show _ = _))); (show _ = _))))
    ·rw [decide_eq_false h4]
     simp only [cond_false]
     repeat ((try conv => whnf); first | (refine ccA ([]) (c1) ?_) | (refine ccA ([]) (c2) ?_) | (refine z0c h3 ?_) | (refine z0c h4 ?_) | (refine stpQ ?_))
     (refine z09 (by rfl) ?_ ?_ (by rfl)) <;> (repeat' (first | (exact eqA) | (refine And.intro ?_ ?_) | ((fail_if_success (with_reducible (show _ = _))); (show _ = _))))
theorem z7v (e : Evt) (hf : (e.cn.length : Int) ≤ 1000000000 ∧ (e.cv.length : Int) ≤ 1000000000) : CT Tryd.prog 33 [] [.agg (evC e)] (.bool (evOk e)) [] := by
 have c1 := z2C e.k 1 8
 have c2 := z2C e.h 0 2
 have c3 := z8R e hf
 unfold evOk evC mvC mvZ at *
 generalize mvOk e = bm at c3 ⊢
 obtain ⟨k, h, a, mk, mn, ma, ci, cn, cv, tx⟩ := e
 simp only at c1 c2 c3 ⊢
 clear hf
 refine z0d z0f 1 rfl Tryd.func33 rfl rfl rfl ?_
 cases h1 : inB k 1 8
 ·rw [h1] at c1
  simp only [Bool.false_and]
  repeat ((try conv => whnf); first | (refine ccA ([]) (c1) ?_) | (refine stpQ ?_))
  (refine z09 (by rfl) ?_ ?_ (by rfl)) <;> (repeat' (first | (exact eqA) | (refine And.intro ?_ ?_) | ((fail_if_success (with_reducible (show _ = _))); (show _ = _))))
 ·rw [h1] at c1
  simp only [Bool.true_and]
  cases h2 : inB h 0 2
  ·rw [h2] at c2
   simp only [Bool.false_and]
   repeat ((try conv => whnf); first | (refine ccA ([]) (c1) ?_) | (refine ccA ([]) (c2) ?_) | (refine stpQ ?_))
   (refine z09 (by rfl) ?_ ?_ (by rfl)) <;> (repeat' (first | (exact eqA) | (refine And.intro ?_ ?_) | ((fail_if_success (with_reducible (show _ = _))); (show _ = _))))
  ·rw [h2] at c2
   simp only [Bool.true_and]
   clear h1 h2
   by_cases h3 : a < 0
   ·rw [decide_eq_true h3]
    simp only [Bool.not_true, Bool.false_and]
    repeat ((try conv => whnf); first | (refine ccA ([]) (c1) ?_) | (refine ccA ([]) (c2) ?_) | (refine z0b h3 ?_) | (refine stpQ ?_))
    (refine z09 (by rfl) ?_ ?_ (by rfl)) <;> (repeat' (first | (exact eqA) | (refine And.intro ?_ ?_) | ((fail_if_success (with_reducible (show _ = _))); (show _ = _))))
   ·rw [decide_eq_false h3]
    simp only [Bool.not_false, Bool.true_and]
    by_cases h4 : k = 1
    ·have h4n : ¬ ¬ k = 1 := fun c => c h4
     have h5 : ¬ k = 5 := by omega
     have h6 : ¬ k = 6 := by omega
     rw [decide_eq_true h4, decide_eq_false h5, decide_eq_false h6]
     simp only [cond_true, cond_false]
     cases bm
     ·simp only [Bool.false_and]
      repeat ((try conv => whnf); first | (refine ccA ([]) (c1) ?_) | (refine ccA ([]) (c2) ?_) | (refine ccA ([]) (c3) ?_) | (refine z0c h3 ?_) | (refine z0b h4 ?_) | (refine z0j h4 ?_) | (refine stpQ ?_))
      (refine z09 (by rfl) ?_ ?_ (by rfl)) <;> (repeat' (first | (exact eqA) | (refine And.intro ?_ ?_) | ((fail_if_success (with_reducible (show _ = _))); (show _ = _))))
     ·simp only [Bool.true_and]
      repeat ((try conv => whnf); first | (refine ccA ([]) (c1) ?_) | (refine ccA ([]) (c2) ?_) | (refine ccA ([]) (c3) ?_) | (refine z0c h3 ?_) | (refine z0b h4 ?_) | (refine z0j h4 ?_) | (refine z0c h5 ?_) | (refine z0c h6 ?_) | (refine stpQ ?_))
      (refine z09 (by rfl) ?_ ?_ (by rfl)) <;> (repeat' (first | (exact eqA) | (refine And.intro ?_ ?_) | ((fail_if_success (with_reducible (show _ = _))); (show _ = _))))
    ·rw [decide_eq_false h4]
     simp only [cond_false]
     generalize hq : eqC [T.int .i64 mk, T.int .i64 mn, T.int .i64 ma, T.int .i64 ci, T.str cn, T.str cv] [T.int .i64 0, T.int .i64 0, T.int .i64 0, T.int .i64 0, T.str [], T.str []] = q
     cases q
     ·simp only [Bool.false_and]
      have hq2 : (!eqC [T.int .i64 mk, T.int .i64 mn, T.int .i64 ma, T.int .i64 ci, T.str cn, T.str cv] [T.int .i64 0, T.int .i64 0, T.int .i64 0, T.int .i64 0, T.str [], T.str []]) = true := by rw [hq]; rfl
      repeat ((try conv => whnf); first | (refine ccA ([]) (c1) ?_) | (refine ccA ([]) (c2) ?_) | (refine z0c h3 ?_) | (refine z0c h4 ?_) | (refine z0r h4 ?_) | (refine cb_t hq2 ?_) | (refine stpQ ?_))
      (refine z09 (by rfl) ?_ ?_ (by rfl)) <;> (repeat' (first | (exact eqA) | (refine And.intro ?_ ?_) | ((fail_if_success (with_reducible (show _ = _))); (show _ = _))))
     ·simp only [Bool.true_and]
      have hq2 : (!eqC [T.int .i64 mk, T.int .i64 mn, T.int .i64 ma, T.int .i64 ci, T.str cn, T.str cv] [T.int .i64 0, T.int .i64 0, T.int .i64 0, T.int .i64 0, T.str [], T.str []]) = false := by rw [hq]; rfl
      by_cases h5 : k = 5
      ·rw [decide_eq_true h5]
       simp only [cond_true]
       repeat ((try conv => whnf); first | (refine ccA ([]) (c1) ?_) | (refine ccA ([]) (c2) ?_) | (refine z0c h3 ?_) | (refine z0c h4 ?_) | (refine z0r h4 ?_) | (refine cb_f hq2 ?_) | (refine z0b h5 ?_) | (refine stpQ ?_))
       (refine z09 (by rfl) ?_ ?_ (by rfl)) <;> (repeat' (first | (exact eqA) | (refine And.intro ?_ ?_) | ((fail_if_success (with_reducible (show _ = _))); (show _ = _))))
      ·rw [decide_eq_false h5]
       simp only [cond_false]
       by_cases h6 : k = 6
       ·rw [decide_eq_true h6]
        simp only [cond_true]
        repeat ((try conv => whnf); first | (refine ccA ([]) (c1) ?_) | (refine ccA ([]) (c2) ?_) | (refine z0c h3 ?_) | (refine z0c h4 ?_) | (refine z0r h4 ?_) | (refine cb_f hq2 ?_) | (refine z0c h5 ?_) | (refine z0b h6 ?_) | (refine stpQ ?_))
        (refine z09 (by rfl) ?_ ?_ (by rfl)) <;> (repeat' (first | (exact eqA) | (refine And.intro ?_ ?_) | ((fail_if_success (with_reducible (show _ = _))); (show _ = _))))
       ·rw [decide_eq_false h6]
        simp only [cond_false]
        repeat ((try conv => whnf); first | (refine ccA ([]) (c1) ?_) | (refine ccA ([]) (c2) ?_) | (refine z0c h3 ?_) | (refine z0c h4 ?_) | (refine z0r h4 ?_) | (refine cb_f hq2 ?_) | (refine z0c h5 ?_) | (refine z0c h6 ?_) | (refine stpQ ?_))
        (refine z09 (by rfl) ?_ ?_ (by rfl)) <;> (repeat' (first | (exact eqA) | (refine And.intro ?_ ?_) | ((fail_if_success (with_reducible (show _ = _))); (show _ = _))))
end
end Go.Proofs.YtfgkjgfigjpkoaaDoor
