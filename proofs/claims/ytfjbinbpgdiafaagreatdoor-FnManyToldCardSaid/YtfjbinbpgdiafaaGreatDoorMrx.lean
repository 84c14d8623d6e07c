/- Functions by content: the reference's root of any proof of many. -/
import Derived.Test.YtfjbinbpgdiafaaGreatDoorMrt
import Derived.Test.YtfjbinbpgdiafaaGreatDoorPmx
namespace Go.Proofs.YtfjbinbpgdiafaaGreatDoor
set_option maxRecDepth 100000
set_option maxHeartbeats 32000000
set_option linter.unusedVariables false
set_option linter.unusedSimpArgs false
set_option linter.unusedSectionVars false
open Go.RowKit Pl
theorem z5L (a b : Bs) (w : Nat) (ha : a.length ≤ 32) (hb : b.length ≤ 32) (hw : 1 ≤ w ∧ w ≤ 32) : ∃ u : Bs, u.length ≤ 32 ∧ u = z1t 3 [a, b] w ∧ CT Tryz.prog 41 [] [.int .i64 3, .sl 1 [[.str a], [.str b]], .int .i64 (w : Int)] (.str u) [] := by
 refine ⟨z1t 3 [a, b] w, ?_, rfl, z33 3 [a, b] w (by omega) (zbf ha hb) hw⟩
 have : (z1t 3 [a, b] w).length = w := z32 (by omega)
 omega
section
attribute [local irreducible] z0t z0u z0A AnsP LeP W CvE mH mAll
theorem zbo (names : List Bs) (bks : List (List Lf)) (sides : List Bs) (w : Int) (hn : names.length ≤ 1000) (hl : ∀ s ∈ names, (s.length : Int) ≤ 100000000) (hb : bks.length ≤ 1000) (hbk : ∀ b ∈ bks, Sml b) (hs : sides.length ≤ 1000) : CT Tryz.prog 65 [] [.agg [.sl 1 (strE names), .sl 1 (bkE bks), .sl 1 (strE sides)], .int .i64 w] (.bool (zbm names bks sides w)) [] := by
 have cX := z2f names (by omega) hl
 rw [z5s] at cX
 have cN := z49 names (by omega) hl
 have cW := c_wide sides w (by omega)
 unfold zbm
 generalize z0N names = b1 at *
 generalize ixsN names = K at *
 generalize Pl.wideB sides w = b2 at *
 have hKe := z1d K
 have hbe := z2c bks
 cases b1 with
 | false =>
   simp only [Bool.false_and]
   refine z0b z0p 1 rfl Tryz.func65 rfl rfl rfl ?_
   conv => arg 6; whnf
   repeat ((try conv => whnf); first | (with_reducible first | refine z0a (fun Qs hN hE hR => ?_) | refine z08 ?_ | refine z00 (fun Qb kN kE kX kR => ?_) | refine z04 ?_ | refine z05 ?_ | refine z09 ?_ | refine z06 ?_ | refine z07 ?_ | (show W _ _ _ (.cond _ _ _) _ _; refine z03 rfl ?_) | (refine hN _ ?_; try clear hN hE hR Qs; (try (conv => arg 6; dsimp only [ovl, List.set, List.map, ren0]))) | ((first | refine hE _ _ ?_ | refine hR _ ?_); try clear hN hE hR Qs) | ((first | refine kN _ ?_ | refine kE _ ?_ | refine kX _ _ rfl ?_ | refine kR _ ?_); try clear kN kE kX kR Qb)) | (refine ccA ([]) (cN) ?_) | (refine ccA ([]) (cW) ?_) | (refine And.intro (by kernel_rfl) ?_) | (refine stpQ ?_))
   (refine z02 (by rfl) ?_ ?_ (by rfl)) <;> (repeat' (first | (exact eqA) | (refine And.intro ?_ ?_) | ((fail_if_success (with_reducible (show _ = _))); (show _ = _))))
 | true =>
 cases b2 with
 | false =>
   simp only [Bool.false_and, Bool.and_false]
   refine z0b z0p 1 rfl Tryz.func65 rfl rfl rfl ?_
   conv => arg 6; whnf
   repeat ((try conv => whnf); first | (with_reducible first | refine z0a (fun Qs hN hE hR => ?_) | refine z08 ?_ | refine z00 (fun Qb kN kE kX kR => ?_) | refine z04 ?_ | refine z05 ?_ | refine z09 ?_ | refine z06 ?_ | refine z07 ?_ | (show W _ _ _ (.cond _ _ _) _ _; refine z03 rfl ?_) | (refine hN _ ?_; try clear hN hE hR Qs; (try (conv => arg 6; dsimp only [ovl, List.set, List.map, ren0]))) | ((first | refine hE _ _ ?_ | refine hR _ ?_); try clear hN hE hR Qs) | ((first | refine kN _ ?_ | refine kE _ ?_ | refine kX _ _ rfl ?_ | refine kR _ ?_); try clear kN kE kX kR Qb)) | (refine ccA ([]) (cN) ?_) | (refine ccA ([]) (cW) ?_) | (refine And.intro (by kernel_rfl) ?_) | (refine stpQ ?_))
   (refine z02 (by rfl) ?_ ?_ (by rfl)) <;> (repeat' (first | (exact eqA) | (refine And.intro ?_ ?_) | ((fail_if_success (with_reducible (show _ = _))); (show _ = _))))
 | true =>
 by_cases f1 : (bks.length : Int) = (K.length : Int)
 rotate_left
 ·rw [decide_eq_false (show ¬ bks.length = K.length by omega)]
  simp only [Bool.false_and, Bool.and_false]
  refine z0b z0p 1 rfl Tryz.func65 rfl rfl rfl ?_
  conv => arg 6; whnf
  repeat ((try conv => whnf); first | (with_reducible first | refine z0a (fun Qs hN hE hR => ?_) | refine z08 ?_ | refine z00 (fun Qb kN kE kX kR => ?_) | refine z04 ?_ | refine z05 ?_ | refine z09 ?_ | refine z06 ?_ | refine z07 ?_ | (show W _ _ _ (.cond _ _ _) _ _; refine z03 rfl ?_) | (refine hN _ ?_; try clear hN hE hR Qs; (try (conv => arg 6; dsimp only [ovl, List.set, List.map, ren0]))) | ((first | refine hE _ _ ?_ | refine hR _ ?_); try clear hN hE hR Qs) | ((first | refine kN _ ?_ | refine kE _ ?_ | refine kX _ _ rfl ?_ | refine kR _ ?_); try clear kN kE kX kR Qb)) | (refine ccA ([]) (cN) ?_) | (refine ccA ([]) (cW) ?_) | (refine ccA ([]) (cX) ?_) | (refine Exists.intro bks.length (And.intro hbe ?_)) | (refine Exists.intro K.length (And.intro hKe ?_)) | (refine z3j f1 ?_) | (refine And.intro (by kernel_rfl) ?_) | (refine stpQ ?_))
  (refine z02 (by rfl) ?_ ?_ (by rfl)) <;> (repeat' (first | (exact eqA) | (refine And.intro ?_ ?_) | ((fail_if_success (with_reducible (show _ = _))); (show _ = _))))
 rw [decide_eq_true (show bks.length = K.length by omega)]
 simp only [Bool.true_and]
 have kB : bksB bks K = true → ∀ i (h : i < bks.length), leavesOk bks[i] = true ∧ (z0k bks[i] ((K.getD i 0 : Nat) : Int)).length = bks[i].length := fun h i hi => by
  simp only [bksB, List.all_eq_true, List.mem_range, Bool.and_eq_true, decide_eq_true_eq] at h
  have := h i hi
  simpa [List.getD, List.getElem?_eq_getElem hi] using this
 have kB2 : (∀ i (h : i < bks.length), leavesOk bks[i] = true ∧ (z0k bks[i] ((K.getD i 0 : Nat) : Int)).length = bks[i].length) → bksB bks K = true := fun h => by
  simp only [bksB, List.all_eq_true, List.mem_range, Bool.and_eq_true, decide_eq_true_eq]
  intro i hi
  have e : bks.getD i [] = bks[i] := by simp [List.getD, List.getElem?_eq_getElem hi]
  rw [e]
  exact h i hi
 generalize bksB bks K = b5 at *
 refine z0b z0p 1 rfl Tryz.func65 rfl rfl rfl ?_
 conv => arg 6; whnf
 repeat ((try conv => whnf); first | (with_reducible first | refine z0a (fun Qs hN hE hR => ?_) | refine z08 ?_ | refine z00 (fun Qb kN kE kX kR => ?_) | refine z04 ?_ | refine z05 ?_ | refine z09 ?_ | refine z06 ?_ | refine z07 ?_ | (show W _ _ _ (.cond _ _ _) _ _; refine z03 rfl ?_) | (refine hN _ ?_; try clear hN hE hR Qs; (try (conv => arg 6; dsimp only [ovl, List.set, List.map, ren0]))) | ((first | refine hE _ _ ?_ | refine hR _ ?_); try clear hN hE hR Qs) | ((first | refine kN _ ?_ | refine kE _ ?_ | refine kX _ _ rfl ?_ | refine kR _ ?_); try clear kN kE kX kR Qb)) | (refine ccA ([]) (cN) ?_) | (refine ccA ([]) (cW) ?_) | (refine ccA ([]) (cX) ?_) | (refine Exists.intro bks.length (And.intro hbe ?_)) | (refine Exists.intro K.length (And.intro hKe ?_)) | (refine z3k f1 ?_) | (refine And.intro (by kernel_rfl) ?_) | (refine stpQ ?_))
 refine z1o Nat (fun i => ⟨[(2, .ptr 1 0 0), (5, .sl 1 (npE K)), (6, .int .i64 (i : Int))], [(1, some (.box [.sl 1 (strE names), .sl 1 (bkE bks), .sl 1 (strE sides)]))], 2⟩) (fun i => i ≤ bks.length ∧ ∀ j (h : j < bks.length), j < i → leavesOk bks[j] = true ∧ (z0k bks[j] ((K.getD j 0 : Nat) : Int)).length = bks[j].length) (fun i => bks.length - i) 0 ⟨Nat.zero_le _, fun j _ h => absurd h (Nat.not_lt_zero _)⟩ ?_ ?_
 ·(refine z01 (by rfl) ?_ ?_)
  all_goals (repeat' (first | (exact trivial) | ((try conv => whnf); first | (exact trivial) | (refine And.intro ?_ ?_))))
  all_goals first
   | rfl
   | decide
 ·intro Q1 hQ1 i hx
  obtain ⟨hi, hg1⟩ := hx
  by_cases hlt : i < bks.length
  ·have f2 : (i : Int) < ((K.length : Nat) : Int) := by omega
   have gb := z2T hlt
   have hik : i < K.length := by omega
   have gk := z0C hik
   have hkd : K.getD i 0 = K[i] := by simp [List.getD, List.getElem?_eq_getElem hik]
   have hsm := hbk _ (List.getElem_mem hlt)
   have cO := z1n bks[i] (by have := hsm.1; omega) hsm.fit
   by_cases hok : leavesOk bks[i] = true
   rotate_left
   ·have hok' : leavesOk bks[i] = false := by simpa using hok
    rw [hok'] at cO
    obtain rfl : b5 = false := by
     cases b5 with
     | false => rfl
     | true => exact absurd (kB rfl i hlt).1 hok
    clear kB kB2 hg1 hkd hok hok' hsm
    generalize lvE bks[i] = BB at *
    generalize K[i] = p at *
    repeat ((try conv => whnf); first | (with_reducible first | refine z0a (fun Qs hN hE hR => ?_) | refine z08 ?_ | refine z00 (fun Qb kN kE kX kR => ?_) | refine z04 ?_ | refine z05 ?_ | refine z09 ?_ | refine z06 ?_ | refine z07 ?_ | (show W _ _ _ (.cond _ _ _) _ _; refine z03 rfl ?_) | (refine hN _ ?_; try clear hN hE hR Qs; (try (conv => arg 6; dsimp only [ovl, List.set, List.map, ren0]))) | ((first | refine hE _ _ ?_ | refine hR _ ?_); try clear hN hE hR Qs) | ((first | refine kN _ ?_ | refine kE _ ?_ | refine kX _ _ rfl ?_ | refine kR _ ?_); try clear kN kE kX kR Qb)) | (refine Exists.intro K.length (And.intro hKe ?_)) | (refine z0c f2 ?_) | (refine i_at gb ?_) | (refine ccA ([]) (cO) ?_) | (refine And.intro (by kernel_rfl) ?_) | (refine stpQ ?_))
    refine hQ1 _ _ ?_
    clear hQ1 Q1
    repeat ((try conv => whnf); first | (with_reducible first | refine z0a (fun Qs hN hE hR => ?_) | refine z08 ?_ | refine z00 (fun Qb kN kE kX kR => ?_) | refine z04 ?_ | refine z05 ?_ | refine z09 ?_ | refine z06 ?_ | refine z07 ?_ | (show W _ _ _ (.cond _ _ _) _ _; refine z03 rfl ?_) | (refine hN _ ?_; try clear hN hE hR Qs; (try (conv => arg 6; dsimp only [ovl, List.set, List.map, ren0]))) | ((first | refine hE _ _ ?_ | refine hR _ ?_); try clear hN hE hR Qs) | ((first | refine kN _ ?_ | refine kE _ ?_ | refine kX _ _ rfl ?_ | refine kR _ ?_); try clear kN kE kX kR Qb)) | (refine stpQ ?_))
    (refine z02 (by rfl) ?_ ?_ (by rfl)) <;> (repeat' (first | (exact eqA) | (refine And.intro ?_ ?_) | ((fail_if_success (with_reducible (show _ = _))); (show _ = _))))
   rw [hok] at cO
   have cB := z5K bks[i] ((K[i] : Nat) : Int) (by have := hsm.1; omega) (fun k => by have := (hsm.2 k).1; omega)
   have hlv : (lvE bks[i]).length = bks[i].length := by simp [lvE]
   have hlb : (lvE (z0k bks[i] ((K[i] : Nat) : Int))).length = (z0k bks[i] ((K[i] : Nat) : Int)).length := by simp [lvE]
   by_cases hq : (z0k bks[i] ((K[i] : Nat) : Int)).length = bks[i].length
   ·have f3 : (((lvE (z0k bks[i] ((K[i] : Nat) : Int))).length : Nat) : Int) = (((lvE bks[i]).length : Nat) : Int) := by omega
    have hg2 : ∀ j (h : j < bks.length), j < i + 1 → leavesOk bks[j] = true ∧ (z0k bks[j] ((K.getD j 0 : Nat) : Int)).length = bks[j].length := fun j h hji => by
     by_cases he : j < i
     ·exact hg1 j h he
     ·obtain rfl : j = i := by omega
      rw [hkd]; exact ⟨hok, hq⟩
    clear kB kB2 hg1 hq hkd hlv hlb
    generalize lvE (z0k bks[i] ((K[i] : Nat) : Int)) = BL at *
    generalize lvE bks[i] = BB at *
    generalize K[i] = p at *
    repeat ((try conv => whnf); first | (with_reducible first | refine z0a (fun Qs hN hE hR => ?_) | refine z08 ?_ | refine z00 (fun Qb kN kE kX kR => ?_) | refine z04 ?_ | refine z05 ?_ | refine z09 ?_ | refine z06 ?_ | refine z07 ?_ | (show W _ _ _ (.cond _ _ _) _ _; refine z03 rfl ?_) | (refine hN _ ?_; try clear hN hE hR Qs; (try (conv => arg 6; dsimp only [ovl, List.set, List.map, ren0]))) | ((first | refine hE _ _ ?_ | refine hR _ ?_); try clear hN hE hR Qs) | ((first | refine kN _ ?_ | refine kE _ ?_ | refine kX _ _ rfl ?_ | refine kR _ ?_); try clear kN kE kX kR Qb)) | (refine Exists.intro K.length (And.intro hKe ?_)) | (refine z0c f2 ?_) | (refine i_at gb ?_) | (refine ccA ([]) (cO) ?_) | (refine i_at gk ?_) | (refine ccA ([]) (cB) ?_) | (refine z3k f3 ?_) | (refine And.intro (by kernel_rfl) ?_) | (refine stpQ ?_))
    refine ⟨i + 1, ⟨hlt, hg2⟩, by omega, ?_⟩
    (refine z01 (by rfl) ?_ ?_) <;> (repeat' (first | (exact eqA) | (refine And.intro ?_ ?_) | ((fail_if_success (with_reducible (show _ = _))); (show _ = _)))) <;> rfl
   ·have f3 : ¬ (((lvE (z0k bks[i] ((K[i] : Nat) : Int))).length : Nat) : Int) = (((lvE bks[i]).length : Nat) : Int) := by omega
    obtain rfl : b5 = false := by
     cases b5 with
     | false => rfl
     | true => have := (kB rfl i hlt).2; rw [hkd] at this; exact absurd this hq
    clear kB kB2 hg1 hq hkd hlv hlb
    generalize lvE (z0k bks[i] ((K[i] : Nat) : Int)) = BL at *
    generalize lvE bks[i] = BB at *
    generalize K[i] = p at *
    repeat ((try conv => whnf); first | (with_reducible first | refine z0a (fun Qs hN hE hR => ?_) | refine z08 ?_ | refine z00 (fun Qb kN kE kX kR => ?_) | refine z04 ?_ | refine z05 ?_ | refine z09 ?_ | refine z06 ?_ | refine z07 ?_ | (show W _ _ _ (.cond _ _ _) _ _; refine z03 rfl ?_) | (refine hN _ ?_; try clear hN hE hR Qs; (try (conv => arg 6; dsimp only [ovl, List.set, List.map, ren0]))) | ((first | refine hE _ _ ?_ | refine hR _ ?_); try clear hN hE hR Qs) | ((first | refine kN _ ?_ | refine kE _ ?_ | refine kX _ _ rfl ?_ | refine kR _ ?_); try clear kN kE kX kR Qb)) | (refine Exists.intro K.length (And.intro hKe ?_)) | (refine z0c f2 ?_) | (refine i_at gb ?_) | (refine ccA ([]) (cO) ?_) | (refine i_at gk ?_) | (refine ccA ([]) (cB) ?_) | (refine z3j f3 ?_) | (refine And.intro (by kernel_rfl) ?_) | (refine stpQ ?_))
    refine hQ1 _ _ ?_
    clear hQ1 Q1
    repeat ((try conv => whnf); first | (with_reducible first | refine z0a (fun Qs hN hE hR => ?_) | refine z08 ?_ | refine z00 (fun Qb kN kE kX kR => ?_) | refine z04 ?_ | refine z05 ?_ | refine z09 ?_ | refine z06 ?_ | refine z07 ?_ | (show W _ _ _ (.cond _ _ _) _ _; refine z03 rfl ?_) | (refine hN _ ?_; try clear hN hE hR Qs; (try (conv => arg 6; dsimp only [ovl, List.set, List.map, ren0]))) | ((first | refine hE _ _ ?_ | refine hR _ ?_); try clear hN hE hR Qs) | ((first | refine kN _ ?_ | refine kE _ ?_ | refine kX _ _ rfl ?_ | refine kR _ ?_); try clear kN kE kX kR Qb)) | (refine stpQ ?_))
    (refine z02 (by rfl) ?_ ?_ (by rfl)) <;> (repeat' (first | (exact eqA) | (refine And.intro ?_ ?_) | ((fail_if_success (with_reducible (show _ = _))); (show _ = _))))
  ·have hie : i = bks.length := by omega
   subst hie
   have f2 : ¬ ((bks.length : Nat) : Int) < ((K.length : Nat) : Int) := by omega
   obtain rfl : b5 = true := kB2 fun j h => hg1 j h h
   repeat ((try conv => whnf); first | (with_reducible first | refine z0a (fun Qs hN hE hR => ?_) | refine z08 ?_ | refine z00 (fun Qb kN kE kX kR => ?_) | refine z04 ?_ | refine z05 ?_ | refine z09 ?_ | refine z06 ?_ | refine z07 ?_ | (show W _ _ _ (.cond _ _ _) _ _; refine z03 rfl ?_) | (refine hN _ ?_; try clear hN hE hR Qs; (try (conv => arg 6; dsimp only [ovl, List.set, List.map, ren0]))) | ((first | refine hE _ _ ?_ | refine hR _ ?_); try clear hN hE hR Qs) | ((first | refine kN _ ?_ | refine kE _ ?_ | refine kX _ _ rfl ?_ | refine kR _ ?_); try clear kN kE kX kR Qb)) | (refine Exists.intro K.length (And.intro hKe ?_)) | (refine z0d f2 ?_) | (refine stpQ ?_))
   refine hQ1 _ _ ?_
   clear hQ1 Q1
   repeat ((try conv => whnf); first | (with_reducible first | refine z0a (fun Qs hN hE hR => ?_) | refine z08 ?_ | refine z00 (fun Qb kN kE kX kR => ?_) | refine z04 ?_ | refine z05 ?_ | refine z09 ?_ | refine z06 ?_ | refine z07 ?_ | (show W _ _ _ (.cond _ _ _) _ _; refine z03 rfl ?_) | (refine hN _ ?_; try clear hN hE hR Qs; (try (conv => arg 6; dsimp only [ovl, List.set, List.map, ren0]))) | ((first | refine hE _ _ ?_ | refine hR _ ?_); try clear hN hE hR Qs) | ((first | refine kN _ ?_ | refine kE _ ?_ | refine kX _ _ rfl ?_ | refine kR _ ?_); try clear kN kE kX kR Qb)) | (refine stpQ ?_))
   (refine z02 (by rfl) ?_ ?_ (by rfl)) <;> (repeat' (first | (exact eqA) | (refine And.intro ?_ ?_) | ((fail_if_success (with_reducible (show _ = _))); (show _ = _))))
theorem z3r (names : List Bs) (bks : List (List Lf)) (sides : List Bs) (w : Int) (hn : names.length ≤ 1000) (hl : ∀ s ∈ names, (s.length : Int) ≤ 100000000) (hb : bks.length ≤ 1000) (hbk : ∀ b ∈ bks, Sml b) (hs : sides.length ≤ 1000) : CT Tryz.prog 20 [] [.agg [.sl 1 (strE names), .sl 1 (bkE bks), .sl 1 (strE sides)], .int .i64 w] (.tup [.str (z9l names bks sides w), .bool (z15 names bks sides w)]) [] := by
 have cF := zbo names bks sides w hn hl hb hbk hs
 obtain ⟨RT, eRT, hFf, hT⟩ := z6y names bks sides w
 rw [eRT]
 clear eRT
 rw [zbn] at hFf hT ⊢
 cases hF : zbm names bks sides w with
 | false =>
   rw [hF] at cF
   have eR : RT = [] := hFf (by rw [hF]; rfl)
   subst eR
   clear hFf hT
   simp only [Bool.false_and]
   refine z0b z0p 1 rfl Tryz.func20 rfl rfl rfl ?_
   conv => arg 6; whnf
   repeat ((try conv => whnf); first | (with_reducible first | refine z0a (fun Qs hN hE hR => ?_) | refine z08 ?_ | refine z00 (fun Qb kN kE kX kR => ?_) | refine z04 ?_ | refine z05 ?_ | refine z09 ?_ | refine z06 ?_ | refine z07 ?_ | (show W _ _ _ (.cond _ _ _) _ _; refine z03 rfl ?_) | (refine hN _ ?_; try clear hN hE hR Qs; (try (conv => arg 6; dsimp only [ovl, List.set, List.map, ren0]))) | ((first | refine hE _ _ ?_ | refine hR _ ?_); try clear hN hE hR Qs) | ((first | refine kN _ ?_ | refine kE _ ?_ | refine kX _ _ rfl ?_ | refine kR _ ?_); try clear kN kE kX kR Qb)) | (refine ccA ([]) (cF) ?_) | (refine And.intro (by kernel_rfl) ?_) | (refine stpQ ?_))
   (refine z02 (by rfl) ?_ ?_ (by rfl)) <;> (repeat' (first | (exact eqA) | (refine And.intro ?_ ?_) | ((fail_if_success (with_reducible (show _ = _))); (show _ = _))))
 | true =>
 rw [hF] at cF hFf hT
 unfold zbm at hF
 simp only [Bool.and_eq_true, decide_eq_true_eq] at hF
 obtain ⟨h1, h2, h3, h4⟩ := hF
 have hbo : ∀ i (h : i < bks.length), leavesOk bks[i] = true := fun i hi => by
  simp only [bksB, List.all_eq_true, List.mem_range, Bool.and_eq_true, decide_eq_true_eq] at h4
  have := (h4 i hi).1
  simpa [List.getD, List.getElem?_eq_getElem hi] using this
 simp only [Bool.true_and] at hFf hT ⊢
 have cX := z2f names (by omega) hl
 rw [z5s] at cX
 have hK := z2b names
 have hKl := z7h names
 have hKne := z9j (names := names) (fun c => by rw [c] at h1; exact absurd h1 (by decide))
 have hKn := z1Y names
 generalize ixsN names = K at *
 have hKe := z1d K
 have hbe := z2c bks
 have hse := z0h sides
 simp only [Pl.wideB, Bool.and_eq_true, List.all_eq_true, decide_eq_true_eq] at h2
 have hwi := z1b.1 h2.2
 obtain ⟨wn, rfl⟩ : ∃ n : Nat, w = n := ⟨w.toNat, by omega⟩
 have hsl : ∀ x ∈ sides, x.length ≤ 32 := fun x hx => by have := h2.1 x hx; omega
 obtain ⟨okT, hokT⟩ : ∃ okT, okT = decide (sides.length = z1e 8 K) := ⟨_, rfl⟩
 rw [← hokT] at hFf hT ⊢
 rw [Int.toNat_natCast] at hT
 obtain ⟨TOT, hTOT⟩ : ∃ TOT, TOT = mAll wn 8 K (bks.map (bkH wn)) sides := ⟨_, rfl⟩
 rw [← hTOT] at hT
 clear h1 h2 h4
 refine z0b z0p 1 rfl Tryz.func20 rfl rfl rfl ?_
 conv => arg 6; whnf
 repeat ((try conv => whnf); first | (with_reducible first | refine z0a (fun Qs hN hE hR => ?_) | refine z08 ?_ | refine z00 (fun Qb kN kE kX kR => ?_) | refine z04 ?_ | refine z05 ?_ | refine z09 ?_ | refine z06 ?_ | refine z07 ?_ | (show W _ _ _ (.cond _ _ _) _ _; refine z03 rfl ?_) | (refine hN _ ?_; try clear hN hE hR Qs; (try (conv => arg 6; dsimp only [ovl, List.set, List.map, ren0]))) | ((first | refine hE _ _ ?_ | refine hR _ ?_); try clear hN hE hR Qs) | ((first | refine kN _ ?_ | refine kE _ ?_ | refine kX _ _ rfl ?_ | refine kR _ ?_); try clear kN kE kX kR Qb)) | (refine ccA ([]) (cF) ?_) | (refine ccA ([]) (cX) ?_) | (refine And.intro (by kernel_rfl) ?_) | (refine stpQ ?_))
 refine z1o (Nat × List Bs) (fun x => ⟨[(1, .int .i64 (wn : Int)), (2, .ptr 1 0 0), (6, .sl 1 (npE K)), (7, .ref 2), (8, .int .i64 (x.1 : Int))], [(1, some (.box [.sl 1 (strE names), .sl 1 (bkE bks), .sl 1 (strE sides)])), (2, some (.row 1 (strE x.2)))], 3⟩) (fun x => x.1 ≤ bks.length ∧ x.2 = (bks.take x.1).map (bkH wn) ∧ x.2.length = x.1 ∧ (∀ u ∈ x.2, u.length ≤ 32)) (fun x => bks.length - x.1) (0, []) ⟨Nat.zero_le _, rfl, rfl, fun u hu => by cases hu⟩ ?_ ?_
 ·(refine z01 (by rfl) ?_ ?_)
  all_goals (repeat' (first | (exact trivial) | ((try conv => whnf); first | (exact trivial) | (refine And.intro ?_ ?_))))
  all_goals first
   | rfl
   | decide
 ·intro Q1 hQ1 x hx
  obtain ⟨i, hs'⟩ := x
  obtain ⟨hi, hq1, hl1, hu1⟩ := hx
  dsimp only at hi hq1 hl1 hu1 ⊢
  have he1 := z0h hs'
  by_cases hlt : i < bks.length
  ·have f2 : (i : Int) < ((K.length : Nat) : Int) := by omega
   have gb := z2T hlt
   have hok := hbo i hlt
   have cH := z3O bks[i] wn hok (by omega)
   have hcl : (cutB (z0B bks[i]) wn).length ≤ 32 := by have : (cutB (z0B bks[i]) wn).length = wn := z32 (by omega); omega
   have hq2 : hs' ++ [cutB (z0B bks[i]) wn] = (bks.take (i + 1)).map (bkH wn) := by rw [List.take_succ_eq_append_getElem hlt, List.map_append, ← hq1]; rfl
   generalize cutB (z0B bks[i]) wn = u at *
   clear hq1
   have happ := z1H hs' u
   generalize lvE bks[i] = BB at *
   clear hokT
   repeat ((try conv => whnf); first | (with_reducible first | refine z0a (fun Qs hN hE hR => ?_) | refine z08 ?_ | refine z00 (fun Qb kN kE kX kR => ?_) | refine z04 ?_ | refine z05 ?_ | refine z09 ?_ | refine z06 ?_ | refine z07 ?_ | (show W _ _ _ (.cond _ _ _) _ _; refine z03 rfl ?_) | (refine hN _ ?_; try clear hN hE hR Qs; (try (conv => arg 6; dsimp only [ovl, List.set, List.map, ren0]))) | ((first | refine hE _ _ ?_ | refine hR _ ?_); try clear hN hE hR Qs) | ((first | refine kN _ ?_ | refine kE _ ?_ | refine kX _ _ rfl ?_ | refine kR _ ?_); try clear kN kE kX kR Qb)) | (refine Exists.intro K.length (And.intro hKe ?_)) | (refine z0c f2 ?_) | (refine i_at gb ?_) | (refine ccA ([]) (cH) ?_) | (refine And.intro (by simp only [List.length_append, List.length_set, List.length_replicate, List.length_cons, List.length_nil]; omega) ?_) | (refine And.intro (by kernel_rfl) ?_) | (refine stpQ ?_))
   refine ⟨(i + 1, hs' ++ [u]), ⟨hlt, hq2, by simp [hl1], fun v hv => ?_⟩, (by show bks.length - (i + 1) < bks.length - i; omega), ?_⟩
   ·rcases List.mem_append.1 hv with hv | hv
    ·exact hu1 v hv
    ·rw [List.mem_singleton] at hv; subst hv; exact hcl
   ·(try dsimp only)
    rw [happ]
    (refine z01 (by rfl) ?_ ?_) <;> (repeat' (first | (exact eqA) | (refine And.intro ?_ ?_) | ((fail_if_success (with_reducible (show _ = _))); (show _ = _)))) <;> rfl
  ·have hie : i = bks.length := by omega
   subst hie
   have f2 : ¬ ((bks.length : Nat) : Int) < ((K.length : Nat) : Int) := by omega
   rw [List.take_length] at hq1
   have hA0 : mAll wn 8 K hs' sides = TOT := by rw [hq1]; exact hTOT.symm
   repeat ((try conv => whnf); first | (with_reducible first | refine z0a (fun Qs hN hE hR => ?_) | refine z08 ?_ | refine z00 (fun Qb kN kE kX kR => ?_) | refine z04 ?_ | refine z05 ?_ | refine z09 ?_ | refine z06 ?_ | refine z07 ?_ | (show W _ _ _ (.cond _ _ _) _ _; refine z03 rfl ?_) | (refine hN _ ?_; try clear hN hE hR Qs; (try (conv => arg 6; dsimp only [ovl, List.set, List.map, ren0]))) | ((first | refine hE _ _ ?_ | refine hR _ ?_); try clear hN hE hR Qs) | ((first | refine kN _ ?_ | refine kE _ ?_ | refine kX _ _ rfl ?_ | refine kR _ ?_); try clear kN kE kX kR Qb)) | (refine Exists.intro K.length (And.intro hKe ?_)) | (refine z0d f2 ?_) | (refine stpQ ?_))
   refine hQ1 _ _ ?_
   clear hQ1 Q1
   repeat ((try conv => whnf); first | (with_reducible first | refine z0a (fun Qs hN hE hR => ?_) | refine z08 ?_ | refine z00 (fun Qb kN kE kX kR => ?_) | refine z04 ?_ | refine z05 ?_ | refine z09 ?_ | refine z06 ?_ | refine z07 ?_ | (show W _ _ _ (.cond _ _ _) _ _; refine z03 rfl ?_) | (refine hN _ ?_; try clear hN hE hR Qs; (try (conv => arg 6; dsimp only [ovl, List.set, List.map, ren0]))) | ((first | refine hE _ _ ?_ | refine hR _ ?_); try clear hN hE hR Qs) | ((first | refine kN _ ?_ | refine kE _ ?_ | refine kX _ _ rfl ?_ | refine kR _ ?_); try clear kN kE kX kR Qb)) | (refine And.intro (by kernel_rfl) ?_) | (refine stpQ ?_))
   refine z1o (Nat × List Nat × List Bs × Nat) (fun x => ⟨[(1, .int .i64 (wn : Int)), (2, .ptr 1 0 0), (6, .sl 1 (npE x.2.1)), (7, .sl 1 (strE x.2.2.1)), (9, .int .i64 (x.2.2.2 : Int)), (10, .int .i64 (x.1 : Int))], [(1, some (.box [.sl 1 (strE names), .sl 1 (bkE bks), .sl 1 (strE sides)]))], 2⟩) (fun x => x.1 ≤ 8 ∧ x.2.2.1.length = x.2.1.length ∧ (∀ u ∈ x.2.2.1, u.length ≤ 32) ∧ Ups x.2.1 ∧ (∀ p ∈ x.2.1, p < 256) ∧ x.2.1 ≠ [] ∧ x.2.1.length ≤ 1000 ∧ x.2.2.2 ≤ sides.length ∧ z1e 8 K = x.2.2.2 + z1e x.1 x.2.1 ∧ mAll wn x.1 x.2.1 x.2.2.1 (sides.drop x.2.2.2) = TOT) (fun x => x.1) (8, K, hs', 0) ⟨Nat.le_refl _, by show hs'.length = K.length; omega, hu1, hK, hKl, hKne, by show K.length ≤ 1000; omega, Nat.zero_le _, by show z1e 8 K = 0 + z1e 8 K; omega, by show mAll wn 8 K hs' (sides.drop 0) = TOT; rw [List.drop_zero]; exact hA0⟩ ?_ ?_
   ·(refine z01 (by rfl) ?_ ?_)
    all_goals (repeat' (first | (exact trivial) | ((try conv => whnf); first | (exact trivial) | (refine And.intro ?_ ?_))))
    all_goals first
     | rfl
     | decide
   ·clear hl1 hu1 hK hKl hKne hKe he1 cX cF
    intro Q2 hQ2 x hx
    obtain ⟨d, L, hh, us⟩ := x
    obtain ⟨hd8, hhl, hhu, hL, hL2, hLne, hLm, hus, hmn, hma⟩ := hx
    dsimp only at hd8 hhl hhu hL hL2 hLne hLm hus hmn hma ⊢
    have hLl := z1d L
    have hhe := z0h hh
    cases d with
    | zero =>
      have f4 : ¬ ((0 : Nat) : Int) > 0 := by omega
      rw [z1e, Nat.add_zero] at hmn
      obtain ⟨h0, hr, rfl⟩ : ∃ h0 hr, hh = h0 :: hr := by
       cases hh with
       | nil => exact absurd (List.length_eq_zero_iff.1 hhl.symm) hLne
       | cons a b => exact ⟨a, b, rfl⟩
      have gs : (strE (h0 :: hr))[0]? = some [.str h0] := rfl
      by_cases hse0 : us < sides.length
      ·obtain rfl : okT = false := by rw [hokT]; exact decide_eq_false (by omega)
       have f6 : ((us : Nat) : Int) < ((sides.length : Nat) : Int) := by omega
       have eR : RT = [] := hFf rfl
       clear hokT hma hTOT hA0 hq1
       repeat ((try conv => whnf); first | (with_reducible first | refine z0a (fun Qs hN hE hR => ?_) | refine z08 ?_ | refine z00 (fun Qb kN kE kX kR => ?_) | refine z04 ?_ | refine z05 ?_ | refine z09 ?_ | refine z06 ?_ | refine z07 ?_ | (show W _ _ _ (.cond _ _ _) _ _; refine z03 rfl ?_) | (refine hN _ ?_; try clear hN hE hR Qs; (try (conv => arg 6; dsimp only [ovl, List.set, List.map, ren0]))) | ((first | refine hE _ _ ?_ | refine hR _ ?_); try clear hN hE hR Qs) | ((first | refine kN _ ?_ | refine kE _ ?_ | refine kX _ _ rfl ?_ | refine kR _ ?_); try clear kN kE kX kR Qb)) | (refine z0d f4 ?_) | (refine stpQ ?_))
       refine hQ2 _ _ ?_
       clear hQ2 Q2
       subst eR
       repeat ((try conv => whnf); first | (with_reducible first | refine z0a (fun Qs hN hE hR => ?_) | refine z08 ?_ | refine z00 (fun Qb kN kE kX kR => ?_) | refine z04 ?_ | refine z05 ?_ | refine z09 ?_ | refine z06 ?_ | refine z07 ?_ | (show W _ _ _ (.cond _ _ _) _ _; refine z03 rfl ?_) | (refine hN _ ?_; try clear hN hE hR Qs; (try (conv => arg 6; dsimp only [ovl, List.set, List.map, ren0]))) | ((first | refine hE _ _ ?_ | refine hR _ ?_); try clear hN hE hR Qs) | ((first | refine kN _ ?_ | refine kE _ ?_ | refine kX _ _ rfl ?_ | refine kR _ ?_); try clear kN kE kX kR Qb)) | (refine Exists.intro sides.length (And.intro hse ?_)) | (refine z0c f6 ?_) | (refine And.intro (by kernel_rfl) ?_) | (refine stpQ ?_))
       (refine z02 (by rfl) ?_ ?_ (by rfl)) <;> (repeat' (first | (exact eqA) | (refine And.intro ?_ ?_) | ((fail_if_success (with_reducible (show _ = _))); (show _ = _)))) <;> rfl
      ·obtain rfl : okT = true := by rw [hokT]; exact decide_eq_true (by omega)
       have f6 : ¬ ((us : Nat) : Int) < ((sides.length : Nat) : Int) := by omega
       have eR : RT = h0 := by
        rw [hT rfl, ← hma, mAll]
        rfl
       clear hokT hma hTOT hA0 hq1
       repeat ((try conv => whnf); first | (with_reducible first | refine z0a (fun Qs hN hE hR => ?_) | refine z08 ?_ | refine z00 (fun Qb kN kE kX kR => ?_) | refine z04 ?_ | refine z05 ?_ | refine z09 ?_ | refine z06 ?_ | refine z07 ?_ | (show W _ _ _ (.cond _ _ _) _ _; refine z03 rfl ?_) | (refine hN _ ?_; try clear hN hE hR Qs; (try (conv => arg 6; dsimp only [ovl, List.set, List.map, ren0]))) | ((first | refine hE _ _ ?_ | refine hR _ ?_); try clear hN hE hR Qs) | ((first | refine kN _ ?_ | refine kE _ ?_ | refine kX _ _ rfl ?_ | refine kR _ ?_); try clear kN kE kX kR Qb)) | (refine z0d f4 ?_) | (refine stpQ ?_))
       refine hQ2 _ _ ?_
       clear hQ2 Q2
       subst eR
       repeat ((try conv => whnf); first | (with_reducible first | refine z0a (fun Qs hN hE hR => ?_) | refine z08 ?_ | refine z00 (fun Qb kN kE kX kR => ?_) | refine z04 ?_ | refine z05 ?_ | refine z09 ?_ | refine z06 ?_ | refine z07 ?_ | (show W _ _ _ (.cond _ _ _) _ _; refine z03 rfl ?_) | (refine hN _ ?_; try clear hN hE hR Qs; (try (conv => arg 6; dsimp only [ovl, List.set, List.map, ren0]))) | ((first | refine hE _ _ ?_ | refine hR _ ?_); try clear hN hE hR Qs) | ((first | refine kN _ ?_ | refine kE _ ?_ | refine kX _ _ rfl ?_ | refine kR _ ?_); try clear kN kE kX kR Qb)) | (refine Exists.intro sides.length (And.intro hse ?_)) | (refine z0d f6 ?_) | (refine z7o gs ?_) | (refine And.intro (by kernel_rfl) ?_) | (refine stpQ ?_))
       (refine z02 (by rfl) ?_ ?_ (by rfl)) <;> (repeat' (first | (exact eqA) | (refine And.intro ?_ ?_) | ((fail_if_success (with_reducible (show _ = _))); (show _ = _)))) <;> rfl
    | succ d =>
      have f4 : ((d + 1 : Nat) : Int) > 0 := by omega
      rw [show z1e (d + 1) L = lvNd L + z1e d (lvUp L) from rfl] at hmn
      rw [mAll] at hma
      obtain ⟨MH, hMH⟩ : ∃ MH, MH = mH wn L hh (sides.drop us) := ⟨_, rfl⟩
      rw [← hMH] at hma
      clear hTOT hA0 hq1
      repeat ((try conv => whnf); first | (with_reducible first | refine z0a (fun Qs hN hE hR => ?_) | refine z08 ?_ | refine z00 (fun Qb kN kE kX kR => ?_) | refine z04 ?_ | refine z05 ?_ | refine z09 ?_ | refine z06 ?_ | refine z07 ?_ | (show W _ _ _ (.cond _ _ _) _ _; refine z03 rfl ?_) | (refine hN _ ?_; try clear hN hE hR Qs; (try (conv => arg 6; dsimp only [ovl, List.set, List.map, ren0]))) | ((first | refine hE _ _ ?_ | refine hR _ ?_); try clear hN hE hR Qs) | ((first | refine kN _ ?_ | refine kE _ ?_ | refine kX _ _ rfl ?_ | refine kR _ ?_); try clear kN kE kX kR Qb)) | (refine z0c f4 ?_) | (refine And.intro (by kernel_rfl) ?_) | (refine stpQ ?_))
      refine z1o (Nat × Nat × List Bs × Nat) (fun x => ⟨[(1, .int .i64 (wn : Int)), (2, .ptr 1 0 0), (6, .sl 1 (npE L)), (7, .sl 1 (strE hh)), (9, .int .i64 (x.2.2.2 : Int)), (10, .int .i64 ((d + 1 : Nat) : Int)), (11, .ref 2), (12, .int .i64 (x.1 : Int))], [(1, some (.box [.sl 1 (strE names), .sl 1 (bkE bks), .sl 1 (strE sides)])), (2, some (.row 1 (strE x.2.2.1)))], 3⟩) (fun x => x.1 ≤ L.length ∧ ((x.2.1 = x.1 ∧ ¬ sndI L x.1) ∨ (x.2.1 = x.1 + 1 ∧ sndI L x.1)) ∧ x.2.2.1.length + (lvUp (L.drop x.2.1)).length = (lvUp L).length ∧ x.2.2.1.length ≤ x.1 ∧ (∀ u ∈ x.2.2.1, u.length ≤ 32) ∧ x.2.2.2 ≤ sides.length ∧ us + lvNd L = x.2.2.2 + lvNd (L.drop x.2.1) ∧ (x.2.2.1 ++ (mH wn (L.drop x.2.1) (hh.drop x.2.1) (sides.drop x.2.2.2)).1, (mH wn (L.drop x.2.1) (hh.drop x.2.1) (sides.drop x.2.2.2)).2) = MH) (fun x => L.length - x.1) (0, 0, [], us) ⟨Nat.zero_le _, .inl ⟨rfl, fun ⟨_, h0, _⟩ => absurd h0 (Nat.lt_irrefl _)⟩, by show 0 + _ = _; rw [List.drop_zero]; omega, Nat.le_refl _, (fun u hu => by cases hu), hus, by show us + lvNd L = us + lvNd L; rfl, (by show ([] ++ (mH wn (L.drop 0) (hh.drop 0) (sides.drop us)).1, (mH wn (L.drop 0) (hh.drop 0) (sides.drop us)).2) = MH; rw [List.drop_zero, List.drop_zero, List.nil_append, hMH])⟩ ?_ ?_
      ·(refine z01 (by rfl) ?_ ?_)
       all_goals (repeat' (first | (exact trivial) | ((try conv => whnf); first | (exact trivial) | (refine And.intro ?_ ?_))))
       all_goals first
        | rfl
        | decide
      ·intro Q3 hQ3 x hx
       obtain ⟨i, j, nx, vs⟩ := x
       obtain ⟨hk, hsnd, hup, hnl, hnu, hvs, hnd, hmi⟩ := hx
       dsimp only at hk hsnd hup hnl hnu hvs hnd hmi ⊢
       have hnxe := z0h nx
       by_cases hkl : i < L.length
       ·have f5 : (i : Int) < ((L.length : Nat) : Int) := by omega
        have gp := z0C hkl
        have hkh : i < hh.length := by omega
        have gh := z1T hkh
        have hp256 := hL2 _ (List.getElem_mem hkl)
        have hh1 := hhu _ (List.getElem_mem hkh)
        rcases hsnd with ⟨rfl, hns⟩ | ⟨rfl, hys⟩
        ·have nse : ∀ h2 : j + 1 < L.length, sndI L (j + 1) → L[j] % 2 = 0 ∧ L[j + 1] = L[j] + 1 := fun h2 ⟨_, _, c1, c2⟩ => by
          have e : L[j + 1 - 1] = L[j] := rfl
          rw [e] at c2
          exact ⟨by omega, by omega⟩
         by_cases hpair : ∃ h2 : j + 1 < L.length, L[j] % 2 = 0 ∧ L[j + 1] = L[j] + 1
         ·obtain ⟨h2, h3, h4⟩ := hpair
          obtain ⟨lu, ln⟩ := z98 h2 h3 h4
          have fk1 : ((j + 1 : Nat) : Int) < ((L.length : Nat) : Int) := by omega
          have gq := z0C h2
          have hkh2 : j + 1 < hh.length := by omega
          have gh2 := z1T hkh2
          have hh2 := hhu _ (List.getElem_mem hkh2)
          have fe1 : ((L[j + 1] : Nat) : Int) = ((L[j] + 1 : Nat) : Int) := by omega
          have fpe : ((L[j] % 2 : Nat) : Int) = 0 := by omega
          obtain ⟨u, hu, hud, cH⟩ := z5L hh[j] hh[j + 1] wn hh1 hh2 (by omega)
          have hmi2 : ((nx ++ [u]) ++ (mH wn (L.drop (j + 2)) (hh.drop (j + 2)) (sides.drop vs)).1, (mH wn (L.drop (j + 2)) (hh.drop (j + 2)) (sides.drop vs)).2) = MH := by rw [← hmi, zd1 h2 hkh2 h3 h4, ← hud, List.append_assoc]; rfl
          have hap2 := z1H nx u
          have inv2 : (nx ++ [u]).length + (lvUp (L.drop (j + 2))).length = (lvUp L).length := by rw [lu] at hup; simp at hup ⊢; omega
          have inv3 : us + lvNd L = vs + lvNd (L.drop (j + 2)) := by rw [hnd, ln]
          have inv4 : sndI L (j + 1) := ⟨h2, by omega, by omega, by show L[j + 1 - 1] + 1 = L[j + 1]; have e : L[j + 1 - 1] = L[j] := rfl; omega⟩
          clear hup hnd lu ln h3 hhu hL2 hL hokT nse hns hud hmi hMH
          generalize L[j + 1] = q at *
          generalize L[j] = p at *
          generalize hh[j + 1] = hb2 at *
          generalize hh[j] = hb1 at *
          repeat ((try conv => whnf); first | (with_reducible first | refine z0a (fun Qs hN hE hR => ?_) | refine z08 ?_ | refine z00 (fun Qb kN kE kX kR => ?_) | refine z04 ?_ | refine z05 ?_ | refine z09 ?_ | refine z06 ?_ | refine z07 ?_ | (show W _ _ _ (.cond _ _ _) _ _; refine z03 rfl ?_) | (refine hN _ ?_; try clear hN hE hR Qs; (try (conv => arg 6; dsimp only [ovl, List.set, List.map, ren0]))) | ((first | refine hE _ _ ?_ | refine hR _ ?_); try clear hN hE hR Qs) | ((first | refine kN _ ?_ | refine kE _ ?_ | refine kX _ _ rfl ?_ | refine kR _ ?_); try clear kN kE kX kR Qb)) | (refine z0c f5 ?_) | (refine z0c fk1 ?_) | (refine z0d fkn ?_) | (refine z0c fe1 ?_) | (refine z0d fen ?_) | (refine z0c fpe ?_) | (refine z0d fpo ?_) | (refine z0c fo1 ?_) | (refine z0d fo0 ?_) | (refine z0c fi1 ?_) | (refine z0d fi0 ?_) | (refine z0c fr1 ?_) | (refine z0d frn ?_) | (refine z0c fu1 ?_) | (refine z0d fu0 ?_) | (refine i_at gp ?_) | (refine i_at gh ?_) | (refine i_at gq ?_) | (refine i_at gr ?_) | (refine i_at gh2 ?_) | (refine i_at gs ?_) | (refine Exists.intro L.length (And.intro hLl ?_)) | (refine Exists.intro sides.length (And.intro hse ?_)) | (refine z1c (n := nat_lit 2) ?_) | (refine ccA ([]) (cH) ?_) | (refine And.intro (by simp only [List.length_append, List.length_set, List.length_replicate, List.length_cons, List.length_nil]; omega) ?_) | (refine And.intro (by kernel_rfl) ?_) | (refine stpQ ?_))
          refine ⟨(j + 1, j + 2, nx ++ [u], vs), ⟨by show j + 1 ≤ L.length; omega, .inr ⟨rfl, inv4⟩, inv2, by simp; omega, fun v hv => ?_, hvs, inv3, hmi2⟩, (by show L.length - (j + 1) < L.length - j; omega), ?_⟩
          ·rcases List.mem_append.1 hv with hv | hv
           ·exact hnu v hv
           ·rw [List.mem_singleton] at hv; subst hv; exact hu
          ·(try dsimp only)
           rw [hap2]
           (refine z01 (by rfl) ?_ ?_) <;> (repeat' (first | (exact eqA) | (refine And.intro ?_ ?_) | ((fail_if_success (with_reducible (show _ = _))); (show _ = _)))) <;> rfl
         ·obtain ⟨lu, ln⟩ := zcG hkl (fun h2 c => hpair ⟨h2, c⟩)
          have inv4 : ¬ sndI L (j + 1) := fun c => hpair ⟨c.1, nse c.1 c⟩
          by_cases hmore : vs < sides.length
          ·have fu0 : ¬ ((vs : Nat) : Int) ≥ ((sides.length : Nat) : Int) := by omega
           have gs := z1T hmore
           have hs0 := hsl _ (List.getElem_mem hmore)
           have inv3 : us + lvNd L = (vs + 1) + lvNd (L.drop (j + 1)) := by rw [hnd, ln]; omega
           by_cases hev : L[j] % 2 = 0
           ·have fpe : ((L[j] % 2 : Nat) : Int) = 0 := by omega
            have fo0 : ¬ ((L[j] % 2 : Nat) : Int) = 1 := by omega
            obtain ⟨u, hu, hud, cH⟩ := z5L hh[j] sides[vs] wn hh1 hs0 (by omega)
            have hmi2 : ((nx ++ [u]) ++ (mH wn (L.drop (j + 1)) (hh.drop (j + 1)) (sides.drop (vs + 1))).1, (mH wn (L.drop (j + 1)) (hh.drop (j + 1)) (sides.drop (vs + 1))).2) = MH := by rw [← hmi, List.drop_eq_getElem_cons hmore, zaz hkl hhl (fun h2 c => hpair ⟨h2, c⟩), hs1, if_pos hev, ← hud, List.append_assoc]; rfl
            have hap2 := z1H nx u
            have inv2 : (nx ++ [u]).length + (lvUp (L.drop (j + 1))).length = (lvUp L).length := by rw [lu] at hup; simp at hup ⊢; omega
            by_cases h2 : j + 1 < L.length
            ·have fk1 : ((j + 1 : Nat) : Int) < ((L.length : Nat) : Int) := by omega
             have gq := z0C h2
             have fen : ¬ ((L[j + 1] : Nat) : Int) = ((L[j] + 1 : Nat) : Int) := fun c => hpair ⟨h2, hev, by omega⟩
             clear hpair nse hns hL2 hL hhu lu ln hup hnd hokT hev hud hmi hMH
             generalize L[j + 1] = q at *
             generalize L[j] = p at *
             generalize hh[j] = hb1 at *
             generalize sides[vs] = sv at *
             repeat ((try conv => whnf); first | (with_reducible first | refine z0a (fun Qs hN hE hR => ?_) | refine z08 ?_ | refine z00 (fun Qb kN kE kX kR => ?_) | refine z04 ?_ | refine z05 ?_ | refine z09 ?_ | refine z06 ?_ | refine z07 ?_ | (show W _ _ _ (.cond _ _ _) _ _; refine z03 rfl ?_) | (refine hN _ ?_; try clear hN hE hR Qs; (try (conv => arg 6; dsimp only [ovl, List.set, List.map, ren0]))) | ((first | refine hE _ _ ?_ | refine hR _ ?_); try clear hN hE hR Qs) | ((first | refine kN _ ?_ | refine kE _ ?_ | refine kX _ _ rfl ?_ | refine kR _ ?_); try clear kN kE kX kR Qb)) | (refine z0c f5 ?_) | (refine z0c fk1 ?_) | (refine z0d fkn ?_) | (refine z0c fe1 ?_) | (refine z0d fen ?_) | (refine z0c fpe ?_) | (refine z0d fpo ?_) | (refine z0c fo1 ?_) | (refine z0d fo0 ?_) | (refine z0c fi1 ?_) | (refine z0d fi0 ?_) | (refine z0c fr1 ?_) | (refine z0d frn ?_) | (refine z0c fu1 ?_) | (refine z0d fu0 ?_) | (refine i_at gp ?_) | (refine i_at gh ?_) | (refine i_at gq ?_) | (refine i_at gr ?_) | (refine i_at gh2 ?_) | (refine i_at gs ?_) | (refine Exists.intro L.length (And.intro hLl ?_)) | (refine Exists.intro sides.length (And.intro hse ?_)) | (refine z1c (n := nat_lit 2) ?_) | (refine ccA ([]) (cH) ?_) | (refine And.intro (by simp only [List.length_append, List.length_set, List.length_replicate, List.length_cons, List.length_nil]; omega) ?_) | (refine And.intro (by kernel_rfl) ?_) | (refine stpQ ?_))
             refine ⟨(j + 1, j + 1, nx ++ [u], vs + 1), ⟨by show j + 1 ≤ L.length; omega, .inl ⟨rfl, inv4⟩, inv2, by simp; omega, fun v hv => ?_, by show vs + 1 ≤ sides.length; omega, inv3, hmi2⟩, (by show L.length - (j + 1) < L.length - j; omega), ?_⟩
             ·rcases List.mem_append.1 hv with hv | hv
              ·exact hnu v hv
              ·rw [List.mem_singleton] at hv; subst hv; exact hu
             ·(try dsimp only)
              rw [hap2]
              (refine z01 (by rfl) ?_ ?_) <;> (repeat' (first | (exact eqA) | (refine And.intro ?_ ?_) | ((fail_if_success (with_reducible (show _ = _))); (show _ = _)))) <;> rfl
            ·have fkn : ¬ ((j + 1 : Nat) : Int) < ((L.length : Nat) : Int) := by omega
             clear hpair nse hns hL2 hL hhu lu ln hup hnd hokT hev hud hmi hMH
             generalize L[j] = p at *
             generalize hh[j] = hb1 at *
             generalize sides[vs] = sv at *
             repeat ((try conv => whnf); first | (with_reducible first | refine z0a (fun Qs hN hE hR => ?_) | refine z08 ?_ | refine z00 (fun Qb kN kE kX kR => ?_) | refine z04 ?_ | refine z05 ?_ | refine z09 ?_ | refine z06 ?_ | refine z07 ?_ | (show W _ _ _ (.cond _ _ _) _ _; refine z03 rfl ?_) | (refine hN _ ?_; try clear hN hE hR Qs; (try (conv => arg 6; dsimp only [ovl, List.set, List.map, ren0]))) | ((first | refine hE _ _ ?_ | refine hR _ ?_); try clear hN hE hR Qs) | ((first | refine kN _ ?_ | refine kE _ ?_ | refine kX _ _ rfl ?_ | refine kR _ ?_); try clear kN kE kX kR Qb)) | (refine z0c f5 ?_) | (refine z0c fk1 ?_) | (refine z0d fkn ?_) | (refine z0c fe1 ?_) | (refine z0d fen ?_) | (refine z0c fpe ?_) | (refine z0d fpo ?_) | (refine z0c fo1 ?_) | (refine z0d fo0 ?_) | (refine z0c fi1 ?_) | (refine z0d fi0 ?_) | (refine z0c fr1 ?_) | (refine z0d frn ?_) | (refine z0c fu1 ?_) | (refine z0d fu0 ?_) | (refine i_at gp ?_) | (refine i_at gh ?_) | (refine i_at gq ?_) | (refine i_at gr ?_) | (refine i_at gh2 ?_) | (refine i_at gs ?_) | (refine Exists.intro L.length (And.intro hLl ?_)) | (refine Exists.intro sides.length (And.intro hse ?_)) | (refine z1c (n := nat_lit 2) ?_) | (refine ccA ([]) (cH) ?_) | (refine And.intro (by simp only [List.length_append, List.length_set, List.length_replicate, List.length_cons, List.length_nil]; omega) ?_) | (refine And.intro (by kernel_rfl) ?_) | (refine stpQ ?_))
             refine ⟨(j + 1, j + 1, nx ++ [u], vs + 1), ⟨by show j + 1 ≤ L.length; omega, .inl ⟨rfl, inv4⟩, inv2, by simp; omega, fun v hv => ?_, by show vs + 1 ≤ sides.length; omega, inv3, hmi2⟩, (by show L.length - (j + 1) < L.length - j; omega), ?_⟩
             ·rcases List.mem_append.1 hv with hv | hv
              ·exact hnu v hv
              ·rw [List.mem_singleton] at hv; subst hv; exact hu
             ·(try dsimp only)
              rw [hap2]
              (refine z01 (by rfl) ?_ ?_) <;> (repeat' (first | (exact eqA) | (refine And.intro ?_ ?_) | ((fail_if_success (with_reducible (show _ = _))); (show _ = _)))) <;> rfl
           ·have fpo : ¬ ((L[j] % 2 : Nat) : Int) = 0 := by omega
            have fo1 : ((L[j] % 2 : Nat) : Int) = 1 := by omega
            obtain ⟨u, hu, hud, cH⟩ := z5L sides[vs] hh[j] wn hs0 hh1 (by omega)
            have hmi2 : ((nx ++ [u]) ++ (mH wn (L.drop (j + 1)) (hh.drop (j + 1)) (sides.drop (vs + 1))).1, (mH wn (L.drop (j + 1)) (hh.drop (j + 1)) (sides.drop (vs + 1))).2) = MH := by rw [← hmi, List.drop_eq_getElem_cons hmore, zaz hkl hhl (fun h2 c => hpair ⟨h2, c⟩), hs1, if_neg hev, ← hud, List.append_assoc]; rfl
            have hap2 := z1H nx u
            have inv2 : (nx ++ [u]).length + (lvUp (L.drop (j + 1))).length = (lvUp L).length := by rw [lu] at hup; simp at hup ⊢; omega
            have hp1 : 1 ≤ L[j] := by omega
            by_cases hj0 : 0 < j
            ·have fi1 : ((j : Nat) : Int) > 0 := by omega
             have gr := z0C (l := L) (k := j - 1) (by omega)
             have frn : ¬ ((L[j - 1] : Nat) : Int) = ((L[j] - 1 : Nat) : Int) := fun c => hns ⟨hkl, hj0, by omega, by omega⟩
             clear hpair nse hns hL2 hL hhu lu ln hup hnd hokT hev hud hmi hMH
             generalize L[j - 1] = r at *
             generalize L[j] = p at *
             generalize hh[j] = hb1 at *
             generalize sides[vs] = sv at *
             repeat ((try conv => whnf); first | (with_reducible first | refine z0a (fun Qs hN hE hR => ?_) | refine z08 ?_ | refine z00 (fun Qb kN kE kX kR => ?_) | refine z04 ?_ | refine z05 ?_ | refine z09 ?_ | refine z06 ?_ | refine z07 ?_ | (show W _ _ _ (.cond _ _ _) _ _; refine z03 rfl ?_) | (refine hN _ ?_; try clear hN hE hR Qs; (try (conv => arg 6; dsimp only [ovl, List.set, List.map, ren0]))) | ((first | refine hE _ _ ?_ | refine hR _ ?_); try clear hN hE hR Qs) | ((first | refine kN _ ?_ | refine kE _ ?_ | refine kX _ _ rfl ?_ | refine kR _ ?_); try clear kN kE kX kR Qb)) | (refine z0c f5 ?_) | (refine z0c fk1 ?_) | (refine z0d fkn ?_) | (refine z0c fe1 ?_) | (refine z0d fen ?_) | (refine z0c fpe ?_) | (refine z0d fpo ?_) | (refine z0c fo1 ?_) | (refine z0d fo0 ?_) | (refine z0c fi1 ?_) | (refine z0d fi0 ?_) | (refine z0c fr1 ?_) | (refine z0d frn ?_) | (refine z0c fu1 ?_) | (refine z0d fu0 ?_) | (refine i_at gp ?_) | (refine i_at gh ?_) | (refine i_at gq ?_) | (refine i_at gr ?_) | (refine i_at gh2 ?_) | (refine i_at gs ?_) | (refine Exists.intro L.length (And.intro hLl ?_)) | (refine Exists.intro sides.length (And.intro hse ?_)) | (refine z1c (n := nat_lit 2) ?_) | (refine ccA ([]) (cH) ?_) | (refine And.intro (by simp only [List.length_append, List.length_set, List.length_replicate, List.length_cons, List.length_nil]; omega) ?_) | (refine And.intro (by kernel_rfl) ?_) | (refine stpQ ?_))
             refine ⟨(j + 1, j + 1, nx ++ [u], vs + 1), ⟨by show j + 1 ≤ L.length; omega, .inl ⟨rfl, inv4⟩, inv2, by simp; omega, fun v hv => ?_, by show vs + 1 ≤ sides.length; omega, inv3, hmi2⟩, (by show L.length - (j + 1) < L.length - j; omega), ?_⟩
             ·rcases List.mem_append.1 hv with hv | hv
              ·exact hnu v hv
              ·rw [List.mem_singleton] at hv; subst hv; exact hu
             ·(try dsimp only)
              rw [hap2]
              (refine z01 (by rfl) ?_ ?_) <;> (repeat' (first | (exact eqA) | (refine And.intro ?_ ?_) | ((fail_if_success (with_reducible (show _ = _))); (show _ = _)))) <;> rfl
            ·have fi0 : ¬ ((j : Nat) : Int) > 0 := by omega
             clear hpair nse hns hL2 hL hhu lu ln hup hnd hokT hev hud hmi hMH
             generalize L[j] = p at *
             generalize hh[j] = hb1 at *
             generalize sides[vs] = sv at *
             repeat ((try conv => whnf); first | (with_reducible first | refine z0a (fun Qs hN hE hR => ?_) | refine z08 ?_ | refine z00 (fun Qb kN kE kX kR => ?_) | refine z04 ?_ | refine z05 ?_ | refine z09 ?_ | refine z06 ?_ | refine z07 ?_ | (show W _ _ _ (.cond _ _ _) _ _; refine z03 rfl ?_) | (refine hN _ ?_; try clear hN hE hR Qs; (try (conv => arg 6; dsimp only [ovl, List.set, List.map, ren0]))) | ((first | refine hE _ _ ?_ | refine hR _ ?_); try clear hN hE hR Qs) | ((first | refine kN _ ?_ | refine kE _ ?_ | refine kX _ _ rfl ?_ | refine kR _ ?_); try clear kN kE kX kR Qb)) | (refine z0c f5 ?_) | (refine z0c fk1 ?_) | (refine z0d fkn ?_) | (refine z0c fe1 ?_) | (refine z0d fen ?_) | (refine z0c fpe ?_) | (refine z0d fpo ?_) | (refine z0c fo1 ?_) | (refine z0d fo0 ?_) | (refine z0c fi1 ?_) | (refine z0d fi0 ?_) | (refine z0c fr1 ?_) | (refine z0d frn ?_) | (refine z0c fu1 ?_) | (refine z0d fu0 ?_) | (refine i_at gp ?_) | (refine i_at gh ?_) | (refine i_at gq ?_) | (refine i_at gr ?_) | (refine i_at gh2 ?_) | (refine i_at gs ?_) | (refine Exists.intro L.length (And.intro hLl ?_)) | (refine Exists.intro sides.length (And.intro hse ?_)) | (refine z1c (n := nat_lit 2) ?_) | (refine ccA ([]) (cH) ?_) | (refine And.intro (by simp only [List.length_append, List.length_set, List.length_replicate, List.length_cons, List.length_nil]; omega) ?_) | (refine And.intro (by kernel_rfl) ?_) | (refine stpQ ?_))
             refine ⟨(j + 1, j + 1, nx ++ [u], vs + 1), ⟨by show j + 1 ≤ L.length; omega, .inl ⟨rfl, inv4⟩, inv2, by simp; omega, fun v hv => ?_, by show vs + 1 ≤ sides.length; omega, inv3, hmi2⟩, (by show L.length - (j + 1) < L.length - j; omega), ?_⟩
             ·rcases List.mem_append.1 hv with hv | hv
              ·exact hnu v hv
              ·rw [List.mem_singleton] at hv; subst hv; exact hu
             ·(try dsimp only)
              rw [hap2]
              (refine z01 (by rfl) ?_ ?_) <;> (repeat' (first | (exact eqA) | (refine And.intro ?_ ?_) | ((fail_if_success (with_reducible (show _ = _))); (show _ = _)))) <;> rfl
          ·have fu1 : ((vs : Nat) : Int) ≥ ((sides.length : Nat) : Int) := by omega
           have eT : okT = false := by
            rw [hokT]
            refine decide_eq_false fun c => ?_
            omega
           have eR : RT = [] := hFf (by rw [eT])
           by_cases hev : L[j] % 2 = 0
           ·have fpe : ((L[j] % 2 : Nat) : Int) = 0 := by omega
            have fo0 : ¬ ((L[j] % 2 : Nat) : Int) = 1 := by omega
            by_cases h2 : j + 1 < L.length
            ·have fk1 : ((j + 1 : Nat) : Int) < ((L.length : Nat) : Int) := by omega
             have gq := z0C h2
             have fen : ¬ ((L[j + 1] : Nat) : Int) = ((L[j] + 1 : Nat) : Int) := fun c => hpair ⟨h2, hev, by omega⟩
             clear hpair nse hns hL2 hL hhu lu ln hup hnd hev hmi hMH
             generalize L[j + 1] = q at *
             generalize L[j] = p at *
             generalize hh[j] = hb1 at *
             repeat ((try conv => whnf); first | (with_reducible first | refine z0a (fun Qs hN hE hR => ?_) | refine z08 ?_ | refine z00 (fun Qb kN kE kX kR => ?_) | refine z04 ?_ | refine z05 ?_ | refine z09 ?_ | refine z06 ?_ | refine z07 ?_ | (show W _ _ _ (.cond _ _ _) _ _; refine z03 rfl ?_) | (refine hN _ ?_; try clear hN hE hR Qs; (try (conv => arg 6; dsimp only [ovl, List.set, List.map, ren0]))) | ((first | refine hE _ _ ?_ | refine hR _ ?_); try clear hN hE hR Qs) | ((first | refine kN _ ?_ | refine kE _ ?_ | refine kX _ _ rfl ?_ | refine kR _ ?_); try clear kN kE kX kR Qb)) | (refine z0c f5 ?_) | (refine z0c fk1 ?_) | (refine z0d fkn ?_) | (refine z0c fe1 ?_) | (refine z0d fen ?_) | (refine z0c fpe ?_) | (refine z0d fpo ?_) | (refine z0c fo1 ?_) | (refine z0d fo0 ?_) | (refine z0c fi1 ?_) | (refine z0d fi0 ?_) | (refine z0c fr1 ?_) | (refine z0d frn ?_) | (refine z0c fu1 ?_) | (refine z0d fu0 ?_) | (refine i_at gp ?_) | (refine i_at gh ?_) | (refine i_at gq ?_) | (refine i_at gr ?_) | (refine i_at gh2 ?_) | (refine i_at gs ?_) | (refine Exists.intro L.length (And.intro hLl ?_)) | (refine Exists.intro sides.length (And.intro hse ?_)) | (refine z1c (n := nat_lit 2) ?_) | (refine ccA ([]) (cH) ?_) | (refine And.intro (by simp only [List.length_append, List.length_set, List.length_replicate, List.length_cons, List.length_nil]; omega) ?_) | (refine And.intro (by kernel_rfl) ?_) | (refine stpQ ?_))
             refine hQ3 _ _ ?_
             clear hQ3 Q3
             repeat ((try conv => whnf); first | (with_reducible first | refine z0a (fun Qs hN hE hR => ?_) | refine z08 ?_ | refine z00 (fun Qb kN kE kX kR => ?_) | refine z04 ?_ | refine z05 ?_ | refine z09 ?_ | refine z06 ?_ | refine z07 ?_ | (show W _ _ _ (.cond _ _ _) _ _; refine z03 rfl ?_) | (refine hN _ ?_; try clear hN hE hR Qs; (try (conv => arg 6; dsimp only [ovl, List.set, List.map, ren0]))) | ((first | refine hE _ _ ?_ | refine hR _ ?_); try clear hN hE hR Qs) | ((first | refine kN _ ?_ | refine kE _ ?_ | refine kX _ _ rfl ?_ | refine kR _ ?_); try clear kN kE kX kR Qb)) | (refine stpQ ?_))
             refine hQ2 _ _ ?_
             clear hQ2 Q2
             subst eT
             subst eR
             repeat ((try conv => whnf); first | (with_reducible first | refine z0a (fun Qs hN hE hR => ?_) | refine z08 ?_ | refine z00 (fun Qb kN kE kX kR => ?_) | refine z04 ?_ | refine z05 ?_ | refine z09 ?_ | refine z06 ?_ | refine z07 ?_ | (show W _ _ _ (.cond _ _ _) _ _; refine z03 rfl ?_) | (refine hN _ ?_; try clear hN hE hR Qs; (try (conv => arg 6; dsimp only [ovl, List.set, List.map, ren0]))) | ((first | refine hE _ _ ?_ | refine hR _ ?_); try clear hN hE hR Qs) | ((first | refine kN _ ?_ | refine kE _ ?_ | refine kX _ _ rfl ?_ | refine kR _ ?_); try clear kN kE kX kR Qb)) | (refine And.intro (by kernel_rfl) ?_) | (refine stpQ ?_))
             (refine z02 (by rfl) ?_ ?_ (by rfl)) <;> (repeat' (first | (exact eqA) | (refine And.intro ?_ ?_) | ((fail_if_success (with_reducible (show _ = _))); (show _ = _)))) <;> rfl
            ·have fkn : ¬ ((j + 1 : Nat) : Int) < ((L.length : Nat) : Int) := by omega
             clear hpair nse hns hL2 hL hhu lu ln hup hnd hev hmi hMH
             generalize L[j] = p at *
             generalize hh[j] = hb1 at *
             repeat ((try conv => whnf); first | (with_reducible first | refine z0a (fun Qs hN hE hR => ?_) | refine z08 ?_ | refine z00 (fun Qb kN kE kX kR => ?_) | refine z04 ?_ | refine z05 ?_ | refine z09 ?_ | refine z06 ?_ | refine z07 ?_ | (show W _ _ _ (.cond _ _ _) _ _; refine z03 rfl ?_) | (refine hN _ ?_; try clear hN hE hR Qs; (try (conv => arg 6; dsimp only [ovl, List.set, List.map, ren0]))) | ((first | refine hE _ _ ?_ | refine hR _ ?_); try clear hN hE hR Qs) | ((first | refine kN _ ?_ | refine kE _ ?_ | refine kX _ _ rfl ?_ | refine kR _ ?_); try clear kN kE kX kR Qb)) | (refine z0c f5 ?_) | (refine z0c fk1 ?_) | (refine z0d fkn ?_) | (refine z0c fe1 ?_) | (refine z0d fen ?_) | (refine z0c fpe ?_) | (refine z0d fpo ?_) | (refine z0c fo1 ?_) | (refine z0d fo0 ?_) | (refine z0c fi1 ?_) | (refine z0d fi0 ?_) | (refine z0c fr1 ?_) | (refine z0d frn ?_) | (refine z0c fu1 ?_) | (refine z0d fu0 ?_) | (refine i_at gp ?_) | (refine i_at gh ?_) | (refine i_at gq ?_) | (refine i_at gr ?_) | (refine i_at gh2 ?_) | (refine i_at gs ?_) | (refine Exists.intro L.length (And.intro hLl ?_)) | (refine Exists.intro sides.length (And.intro hse ?_)) | (refine z1c (n := nat_lit 2) ?_) | (refine ccA ([]) (cH) ?_) | (refine And.intro (by simp only [List.length_append, List.length_set, List.length_replicate, List.length_cons, List.length_nil]; omega) ?_) | (refine And.intro (by kernel_rfl) ?_) | (refine stpQ ?_))
             refine hQ3 _ _ ?_
             clear hQ3 Q3
             repeat ((try conv => whnf); first | (with_reducible first | refine z0a (fun Qs hN hE hR => ?_) | refine z08 ?_ | refine z00 (fun Qb kN kE kX kR => ?_) | refine z04 ?_ | refine z05 ?_ | refine z09 ?_ | refine z06 ?_ | refine z07 ?_ | (show W _ _ _ (.cond _ _ _) _ _; refine z03 rfl ?_) | (refine hN _ ?_; try clear hN hE hR Qs; (try (conv => arg 6; dsimp only [ovl, List.set, List.map, ren0]))) | ((first | refine hE _ _ ?_ | refine hR _ ?_); try clear hN hE hR Qs) | ((first | refine kN _ ?_ | refine kE _ ?_ | refine kX _ _ rfl ?_ | refine kR _ ?_); try clear kN kE kX kR Qb)) | (refine stpQ ?_))
             refine hQ2 _ _ ?_
             clear hQ2 Q2
             subst eT
             subst eR
             repeat ((try conv => whnf); first | (with_reducible first | refine z0a (fun Qs hN hE hR => ?_) | refine z08 ?_ | refine z00 (fun Qb kN kE kX kR => ?_) | refine z04 ?_ | refine z05 ?_ | refine z09 ?_ | refine z06 ?_ | refine z07 ?_ | (show W _ _ _ (.cond _ _ _) _ _; refine z03 rfl ?_) | (refine hN _ ?_; try clear hN hE hR Qs; (try (conv => arg 6; dsimp only [ovl, List.set, List.map, ren0]))) | ((first | refine hE _ _ ?_ | refine hR _ ?_); try clear hN hE hR Qs) | ((first | refine kN _ ?_ | refine kE _ ?_ | refine kX _ _ rfl ?_ | refine kR _ ?_); try clear kN kE kX kR Qb)) | (refine And.intro (by kernel_rfl) ?_) | (refine stpQ ?_))
             (refine z02 (by rfl) ?_ ?_ (by rfl)) <;> (repeat' (first | (exact eqA) | (refine And.intro ?_ ?_) | ((fail_if_success (with_reducible (show _ = _))); (show _ = _)))) <;> rfl
           ·have fpo : ¬ ((L[j] % 2 : Nat) : Int) = 0 := by omega
            have fo1 : ((L[j] % 2 : Nat) : Int) = 1 := by omega
            have hp1 : 1 ≤ L[j] := by omega
            by_cases hj0 : 0 < j
            ·have fi1 : ((j : Nat) : Int) > 0 := by omega
             have gr := z0C (l := L) (k := j - 1) (by omega)
             have frn : ¬ ((L[j - 1] : Nat) : Int) = ((L[j] - 1 : Nat) : Int) := fun c => hns ⟨hkl, hj0, by omega, by omega⟩
             clear hpair nse hns hL2 hL hhu lu ln hup hnd hev hmi hMH
             generalize L[j - 1] = r at *
             generalize L[j] = p at *
             generalize hh[j] = hb1 at *
             repeat ((try conv => whnf); first | (with_reducible first | refine z0a (fun Qs hN hE hR => ?_) | refine z08 ?_ | refine z00 (fun Qb kN kE kX kR => ?_) | refine z04 ?_ | refine z05 ?_ | refine z09 ?_ | refine z06 ?_ | refine z07 ?_ | (show W _ _ _ (.cond _ _ _) _ _; refine z03 rfl ?_) | (refine hN _ ?_; try clear hN hE hR Qs; (try (conv => arg 6; dsimp only [ovl, List.set, List.map, ren0]))) | ((first | refine hE _ _ ?_ | refine hR _ ?_); try clear hN hE hR Qs) | ((first | refine kN _ ?_ | refine kE _ ?_ | refine kX _ _ rfl ?_ | refine kR _ ?_); try clear kN kE kX kR Qb)) | (refine z0c f5 ?_) | (refine z0c fk1 ?_) | (refine z0d fkn ?_) | (refine z0c fe1 ?_) | (refine z0d fen ?_) | (refine z0c fpe ?_) | (refine z0d fpo ?_) | (refine z0c fo1 ?_) | (refine z0d fo0 ?_) | (refine z0c fi1 ?_) | (refine z0d fi0 ?_) | (refine z0c fr1 ?_) | (refine z0d frn ?_) | (refine z0c fu1 ?_) | (refine z0d fu0 ?_) | (refine i_at gp ?_) | (refine i_at gh ?_) | (refine i_at gq ?_) | (refine i_at gr ?_) | (refine i_at gh2 ?_) | (refine i_at gs ?_) | (refine Exists.intro L.length (And.intro hLl ?_)) | (refine Exists.intro sides.length (And.intro hse ?_)) | (refine z1c (n := nat_lit 2) ?_) | (refine ccA ([]) (cH) ?_) | (refine And.intro (by simp only [List.length_append, List.length_set, List.length_replicate, List.length_cons, List.length_nil]; omega) ?_) | (refine And.intro (by kernel_rfl) ?_) | (refine stpQ ?_))
             refine hQ3 _ _ ?_
             clear hQ3 Q3
             repeat ((try conv => whnf); first | (with_reducible first | refine z0a (fun Qs hN hE hR => ?_) | refine z08 ?_ | refine z00 (fun Qb kN kE kX kR => ?_) | refine z04 ?_ | refine z05 ?_ | refine z09 ?_ | refine z06 ?_ | refine z07 ?_ | (show W _ _ _ (.cond _ _ _) _ _; refine z03 rfl ?_) | (refine hN _ ?_; try clear hN hE hR Qs; (try (conv => arg 6; dsimp only [ovl, List.set, List.map, ren0]))) | ((first | refine hE _ _ ?_ | refine hR _ ?_); try clear hN hE hR Qs) | ((first | refine kN _ ?_ | refine kE _ ?_ | refine kX _ _ rfl ?_ | refine kR _ ?_); try clear kN kE kX kR Qb)) | (refine stpQ ?_))
             refine hQ2 _ _ ?_
             clear hQ2 Q2
             subst eT
             subst eR
             repeat ((try conv => whnf); first | (with_reducible first | refine z0a (fun Qs hN hE hR => ?_) | refine z08 ?_ | refine z00 (fun Qb kN kE kX kR => ?_) | refine z04 ?_ | refine z05 ?_ | refine z09 ?_ | refine z06 ?_ | refine z07 ?_ | (show W _ _ _ (.cond _ _ _) _ _; refine z03 rfl ?_) | (refine hN _ ?_; try clear hN hE hR Qs; (try (conv => arg 6; dsimp only [ovl, List.set, List.map, ren0]))) | ((first | refine hE _ _ ?_ | refine hR _ ?_); try clear hN hE hR Qs) | ((first | refine kN _ ?_ | refine kE _ ?_ | refine kX _ _ rfl ?_ | refine kR _ ?_); try clear kN kE kX kR Qb)) | (refine And.intro (by kernel_rfl) ?_) | (refine stpQ ?_))
             (refine z02 (by rfl) ?_ ?_ (by rfl)) <;> (repeat' (first | (exact eqA) | (refine And.intro ?_ ?_) | ((fail_if_success (with_reducible (show _ = _))); (show _ = _)))) <;> rfl
            ·have fi0 : ¬ ((j : Nat) : Int) > 0 := by omega
             clear hpair nse hns hL2 hL hhu lu ln hup hnd hev hmi hMH
             generalize L[j] = p at *
             generalize hh[j] = hb1 at *
             repeat ((try conv => whnf); first | (with_reducible first | refine z0a (fun Qs hN hE hR => ?_) | refine z08 ?_ | refine z00 (fun Qb kN kE kX kR => ?_) | refine z04 ?_ | refine z05 ?_ | refine z09 ?_ | refine z06 ?_ | refine z07 ?_ | (show W _ _ _ (.cond _ _ _) _ _; refine z03 rfl ?_) | (refine hN _ ?_; try clear hN hE hR Qs; (try (conv => arg 6; dsimp only [ovl, List.set, List.map, ren0]))) | ((first | refine hE _ _ ?_ | refine hR _ ?_); try clear hN hE hR Qs) | ((first | refine kN _ ?_ | refine kE _ ?_ | refine kX _ _ rfl ?_ | refine kR _ ?_); try clear kN kE kX kR Qb)) | (refine z0c f5 ?_) | (refine z0c fk1 ?_) | (refine z0d fkn ?_) | (refine z0c fe1 ?_) | (refine z0d fen ?_) | (refine z0c fpe ?_) | (refine z0d fpo ?_) | (refine z0c fo1 ?_) | (refine z0d fo0 ?_) | (refine z0c fi1 ?_) | (refine z0d fi0 ?_) | (refine z0c fr1 ?_) | (refine z0d frn ?_) | (refine z0c fu1 ?_) | (refine z0d fu0 ?_) | (refine i_at gp ?_) | (refine i_at gh ?_) | (refine i_at gq ?_) | (refine i_at gr ?_) | (refine i_at gh2 ?_) | (refine i_at gs ?_) | (refine Exists.intro L.length (And.intro hLl ?_)) | (refine Exists.intro sides.length (And.intro hse ?_)) | (refine z1c (n := nat_lit 2) ?_) | (refine ccA ([]) (cH) ?_) | (refine And.intro (by simp only [List.length_append, List.length_set, List.length_replicate, List.length_cons, List.length_nil]; omega) ?_) | (refine And.intro (by kernel_rfl) ?_) | (refine stpQ ?_))
             refine hQ3 _ _ ?_
             clear hQ3 Q3
             repeat ((try conv => whnf); first | (with_reducible first | refine z0a (fun Qs hN hE hR => ?_) | refine z08 ?_ | refine z00 (fun Qb kN kE kX kR => ?_) | refine z04 ?_ | refine z05 ?_ | refine z09 ?_ | refine z06 ?_ | refine z07 ?_ | (show W _ _ _ (.cond _ _ _) _ _; refine z03 rfl ?_) | (refine hN _ ?_; try clear hN hE hR Qs; (try (conv => arg 6; dsimp only [ovl, List.set, List.map, ren0]))) | ((first | refine hE _ _ ?_ | refine hR _ ?_); try clear hN hE hR Qs) | ((first | refine kN _ ?_ | refine kE _ ?_ | refine kX _ _ rfl ?_ | refine kR _ ?_); try clear kN kE kX kR Qb)) | (refine stpQ ?_))
             refine hQ2 _ _ ?_
             clear hQ2 Q2
             subst eT
             subst eR
             repeat ((try conv => whnf); first | (with_reducible first | refine z0a (fun Qs hN hE hR => ?_) | refine z08 ?_ | refine z00 (fun Qb kN kE kX kR => ?_) | refine z04 ?_ | refine z05 ?_ | refine z09 ?_ | refine z06 ?_ | refine z07 ?_ | (show W _ _ _ (.cond _ _ _) _ _; refine z03 rfl ?_) | (refine hN _ ?_; try clear hN hE hR Qs; (try (conv => arg 6; dsimp only [ovl, List.set, List.map, ren0]))) | ((first | refine hE _ _ ?_ | refine hR _ ?_); try clear hN hE hR Qs) | ((first | refine kN _ ?_ | refine kE _ ?_ | refine kX _ _ rfl ?_ | refine kR _ ?_); try clear kN kE kX kR Qb)) | (refine And.intro (by kernel_rfl) ?_) | (refine stpQ ?_))
             (refine z02 (by rfl) ?_ ?_ (by rfl)) <;> (repeat' (first | (exact eqA) | (refine And.intro ?_ ?_) | ((fail_if_success (with_reducible (show _ = _))); (show _ = _)))) <;> rfl
        ·obtain ⟨h7, h8, h9, h10⟩ := hys
         have gr := z0C (l := L) (k := i - 1) (by omega)
         have fpo : ¬ ((L[i] % 2 : Nat) : Int) = 0 := by omega
         have fo1 : ((L[i] % 2 : Nat) : Int) = 1 := by omega
         have fi1 : ((i : Nat) : Int) > 0 := by omega
         have fr1 : ((L[i - 1] : Nat) : Int) = ((L[i] - 1 : Nat) : Int) := by omega
         have hp1 : 1 ≤ L[i] := by omega
         have inv4 : ¬ sndI L (i + 1) := fun ⟨c0, c1, c2, c3⟩ => by
          have e : L[i + 1 - 1] = L[i] := rfl
          rw [e] at c3
          omega
         clear hhu hL2 hL hokT h9 h10 hMH
         generalize L[i - 1] = r at *
         generalize L[i] = p at *
         generalize hh[i] = hb1 at *
         repeat ((try conv => whnf); first | (with_reducible first | refine z0a (fun Qs hN hE hR => ?_) | refine z08 ?_ | refine z00 (fun Qb kN kE kX kR => ?_) | refine z04 ?_ | refine z05 ?_ | refine z09 ?_ | refine z06 ?_ | refine z07 ?_ | (show W _ _ _ (.cond _ _ _) _ _; refine z03 rfl ?_) | (refine hN _ ?_; try clear hN hE hR Qs; (try (conv => arg 6; dsimp only [ovl, List.set, List.map, ren0]))) | ((first | refine hE _ _ ?_ | refine hR _ ?_); try clear hN hE hR Qs) | ((first | refine kN _ ?_ | refine kE _ ?_ | refine kX _ _ rfl ?_ | refine kR _ ?_); try clear kN kE kX kR Qb)) | (refine z0c f5 ?_) | (refine z0c fk1 ?_) | (refine z0d fkn ?_) | (refine z0c fe1 ?_) | (refine z0d fen ?_) | (refine z0c fpe ?_) | (refine z0d fpo ?_) | (refine z0c fo1 ?_) | (refine z0d fo0 ?_) | (refine z0c fi1 ?_) | (refine z0d fi0 ?_) | (refine z0c fr1 ?_) | (refine z0d frn ?_) | (refine z0c fu1 ?_) | (refine z0d fu0 ?_) | (refine i_at gp ?_) | (refine i_at gh ?_) | (refine i_at gq ?_) | (refine i_at gr ?_) | (refine i_at gh2 ?_) | (refine i_at gs ?_) | (refine Exists.intro L.length (And.intro hLl ?_)) | (refine Exists.intro sides.length (And.intro hse ?_)) | (refine z1c (n := nat_lit 2) ?_) | (refine ccA ([]) (cH) ?_) | (refine And.intro (by simp only [List.length_append, List.length_set, List.length_replicate, List.length_cons, List.length_nil]; omega) ?_) | (refine And.intro (by kernel_rfl) ?_) | (refine stpQ ?_))
         refine ⟨(i + 1, i + 1, nx, vs), ⟨by show i + 1 ≤ L.length; omega, .inl ⟨rfl, inv4⟩, hup, by show nx.length ≤ i + 1; omega, hnu, hvs, hnd, hmi⟩, (by show L.length - (i + 1) < L.length - i; omega), ?_⟩
         (refine z01 (by rfl) ?_ ?_) <;> (repeat' (first | (exact eqA) | (refine And.intro ?_ ?_) | ((fail_if_success (with_reducible (show _ = _))); (show _ = _)))) <;> rfl
       ·have hke : i = L.length := by omega
        subst hke
        have hj : j = L.length := by
         rcases hsnd with ⟨h, _⟩ | ⟨_, h, _⟩
         ·exact h
         ·exact absurd h (Nat.lt_irrefl _)
        subst hj
        have f5 : ¬ ((L.length : Nat) : Int) < ((L.length : Nat) : Int) := by omega
        rw [List.drop_length] at hup hnd
        simp only [lvUp, lvNd, List.length_nil, Nat.add_zero] at hup hnd
        have i1 := z1G hL
        have i2 := z7e hL2
        have i3 := z97 hLne
        have cA := z6z L (by omega) hL hL2
        have inv4 : z1e 8 K = vs + z1e d (lvUp L) := by omega
        rw [List.drop_length, zey] at hmi
        simp only [List.append_nil] at hmi
        rw [← hmi] at hma
        have inv5 : mAll wn d (lvUp L) nx (sides.drop vs) = TOT := hma
        clear hma hmi hMH
        generalize lvUp L = up at *
        clear hmn hnd hL hL2 hLne hhu hokT hsnd
        repeat ((try conv => whnf); first | (with_reducible first | refine z0a (fun Qs hN hE hR => ?_) | refine z08 ?_ | refine z00 (fun Qb kN kE kX kR => ?_) | refine z04 ?_ | refine z05 ?_ | refine z09 ?_ | refine z06 ?_ | refine z07 ?_ | (show W _ _ _ (.cond _ _ _) _ _; refine z03 rfl ?_) | (refine hN _ ?_; try clear hN hE hR Qs; (try (conv => arg 6; dsimp only [ovl, List.set, List.map, ren0]))) | ((first | refine hE _ _ ?_ | refine hR _ ?_); try clear hN hE hR Qs) | ((first | refine kN _ ?_ | refine kE _ ?_ | refine kX _ _ rfl ?_ | refine kR _ ?_); try clear kN kE kX kR Qb)) | (refine Exists.intro L.length (And.intro hLl ?_)) | (refine z0d f5 ?_) | (refine stpQ ?_))
        refine hQ3 _ _ ?_
        clear hQ3 Q3
        repeat ((try conv => whnf); first | (with_reducible first | refine z0a (fun Qs hN hE hR => ?_) | refine z08 ?_ | refine z00 (fun Qb kN kE kX kR => ?_) | refine z04 ?_ | refine z05 ?_ | refine z09 ?_ | refine z06 ?_ | refine z07 ?_ | (show W _ _ _ (.cond _ _ _) _ _; refine z03 rfl ?_) | (refine hN _ ?_; try clear hN hE hR Qs; (try (conv => arg 6; dsimp only [ovl, List.set, List.map, ren0]))) | ((first | refine hE _ _ ?_ | refine hR _ ?_); try clear hN hE hR Qs) | ((first | refine kN _ ?_ | refine kE _ ?_ | refine kX _ _ rfl ?_ | refine kR _ ?_); try clear kN kE kX kR Qb)) | (refine ccA ([]) (cA) ?_) | (refine And.intro (by kernel_rfl) ?_) | (refine stpQ ?_))
        refine ⟨(d, up, nx, vs), ⟨by show d ≤ 8; omega, hup, hnu, i1, i2, i3, by show up.length ≤ 1000; omega, hvs, inv4, inv5⟩, (by show d < d + 1; omega), ?_⟩
        (refine z01 (by rfl) ?_ ?_) <;> (repeat' (first | (exact eqA) | (refine And.intro ?_ ?_) | ((fail_if_success (with_reducible (show _ = _))); (show _ = _)))) <;> rfl
end
theorem z9o (names : List Bs) (bks : List (List Lf)) (sides : List Bs) (w : Int) (hn : names.length ≤ 1000) (hl : ∀ s ∈ names, (s.length : Int) ≤ 100000000) (hb : bks.length ≤ 1000) (hbk : ∀ b ∈ bks, leavesOk b = true) (hs : sides.length ≤ 1000) : CT Tryz.prog 20 [] [.agg [.sl 1 (strE names), .sl 1 (bkE bks), .sl 1 (strE sides)], .int .i64 w] (.tup [.any, .bool (z15 names bks sides w)]) [] := zex (z3r names bks sides w hn hl hb (fun b h => z5A (hbk b h)) hs)
end Go.Proofs.YtfjbinbpgdiafaaGreatDoor
