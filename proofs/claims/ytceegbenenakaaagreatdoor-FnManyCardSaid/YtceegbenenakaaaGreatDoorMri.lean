/- Functions by content: the program tells whether a proof of many leads to a root. -/
import Derived.Test.YtceegbenenakaaaGreatDoorPmn
import Derived.Test.YtceegbenenakaaaGreatDoorTt
namespace Go.Proofs.YtceegbenenakaaaGreatDoor
set_option maxRecDepth 100000
set_option maxHeartbeats 4000000
set_option linter.unusedVariables false
set_option linter.unusedSimpArgs false
set_option linter.unusedSectionVars false
open Go.RowKit Pl
def bkE (l : List (List Lf)) : List (List T) := l.map fun v => [.sl 2 (lvE v)]
theorem z4S (l : List (List Lf)) : (bkE l).length = l.length := by simp [bkE]
theorem z88 {l : List (List Lf)} {k : Nat} (h : k < l.length) : (bkE l)[k]? = some [.sl 2 (lvE l[k])] := by simp [bkE, List.getElem?_eq_getElem h]
theorem z3E {l : List Bs} {k : Nat} (h : k < l.length) : (strE l)[k]? = some [.str l[k]] := by simp [strE, List.getElem?_eq_getElem h]
theorem z30 (l : List Bs) (x : Bs) : strE (l ++ [x]) = strE l ++ [[.str x]] := by simp [strE]
section
attribute [local irreducible] z0s z0x z0C AnsP LeP W CvE
theorem z4T (names : List Bs) (hn : names.length ≤ 1048576) (hl : ∀ s ∈ names, (s.length : Int) ≤ 100000000) : CT Tryz.prog 31 [] [.sl 1 (strE names)] (.bool (z1v names)) [] := by
 have hlen := z0g names
 have key : z1v names = true → ∀ i (h : i < names.length), z0H names[i] = true ∧ i < 8 := fun h i hi => by
  simp only [z1v, Bool.and_eq_true, List.all_eq_true, decide_eq_true_eq] at h
  exact ⟨h.1 _ (List.getElem_mem hi), by omega⟩
 have kn : (∀ i (h : i < names.length), z0H names[i] = true ∧ i < 8) → z1v names = decide ((names.length : Int) > 0) := fun h => by
  have h8 : names.length ≤ 8 := by
   rcases Nat.eq_zero_or_pos names.length with h0 | h0
   ·omega
   ·have := (h (names.length - 1) (by omega)).2
    omega
  have ha : names.all z0H = true := by
   rw [List.all_eq_true]
   intro x hx
   obtain ⟨j, hj, rfl⟩ := List.getElem_of_mem hx
   exact (h j hj).1
  unfold z1v
  rw [ha, Bool.true_and]
  by_cases h0 : 1 ≤ names.length
  ·rw [decide_eq_true ⟨h0, h8⟩, decide_eq_true (by omega)]
  ·rw [decide_eq_false (fun c => h0 c.1), decide_eq_false (by omega)]
 generalize hB : z1v names = B at key kn
 refine z08 z7l 1 rfl Tryz.func31 rfl rfl rfl ?_
 conv => arg 6; whnf
 repeat ((try conv => whnf); first | (with_reducible first | refine z0b (fun Qs hN hE hR => ?_) | refine z09 ?_ | refine z02 (fun Qb kN kE kX kR => ?_) | refine z04 ?_ | refine z05 ?_ | refine z0a ?_ | refine z06 ?_ | refine z07 ?_ | (show W _ _ _ (.cond _ _ _) _ _; refine z03 rfl ?_) | (refine hN _ ?_; try clear hN hE hR Qs; (try (conv => arg 6; dsimp only [ovl, List.set, List.map, ren0]))) | ((first | refine hE _ _ ?_ | refine hR _ ?_); try clear hN hE hR Qs) | ((first | refine kN _ ?_ | refine kE _ ?_ | refine kX _ _ rfl ?_ | refine kR _ ?_); try clear kN kE kX kR Qb)) | (refine Exists.intro names.length (And.intro hlen ?_)) | (refine stpQ ?_))
 refine z1o Nat (fun i => ⟨[(0, .sl 1 (strE names)), (5, .sl 1 (strE names)), (6, .int .i64 ((names.length : Nat) : Int)), (7, .int .i64 (i : Int))], [], 1⟩) (fun i => i ≤ names.length ∧ ∀ j (h : j < names.length), j < i → z0H names[j] = true ∧ j < 8) (fun i => names.length - i) 0 ⟨Nat.zero_le _, fun j _ h => absurd h (Nat.not_lt_zero _)⟩ ?_ ?_
 ·(refine z00 (by rfl) ?_ ?_) <;> (repeat' (first | (exact eqA) | (refine And.intro ?_ ?_) | ((fail_if_success (with_reducible (show _ = _))); (show _ = _)))) <;> first | rfl | decide
 ·intro Q1 hQ1 i hx
  obtain ⟨hi, hj⟩ := hx
  by_cases hlt : i < names.length
  ·have f1 : (i : Int) < ((names.length : Nat) : Int) := by omega
   have g := z3E hlt
   have cN := z95 names[i] (by have := hl _ (List.getElem_mem hlt); omega)
   by_cases h8 : i < 8
   ·have f2 : ¬ (i : Int) ≥ 8 := by omega
    cases ho : z0H names[i] with
    | true =>
      rw [ho] at cN
      have hj2 : ∀ j (h : j < names.length), j < i + 1 → z0H names[j] = true ∧ j < 8 := fun j h hji => by
       by_cases he : j < i
       ·exact hj j h he
       ·obtain rfl : j = i := by omega
        exact ⟨ho, h8⟩
      clear key kn
      generalize names[i] = u at g cN
      repeat ((try conv => whnf); first | (with_reducible first | refine z0b (fun Qs hN hE hR => ?_) | refine z09 ?_ | refine z02 (fun Qb kN kE kX kR => ?_) | refine z04 ?_ | refine z05 ?_ | refine z0a ?_ | refine z06 ?_ | refine z07 ?_ | (show W _ _ _ (.cond _ _ _) _ _; refine z03 rfl ?_) | (refine hN _ ?_; try clear hN hE hR Qs; (try (conv => arg 6; dsimp only [ovl, List.set, List.map, ren0]))) | ((first | refine hE _ _ ?_ | refine hR _ ?_); try clear hN hE hR Qs) | ((first | refine kN _ ?_ | refine kE _ ?_ | refine kX _ _ rfl ?_ | refine kR _ ?_); try clear kN kE kX kR Qb)) | (refine z0i f1 ?_) | (refine i_at g ?_) | (refine z0m f2 ?_) | (refine ccA ([]) (cN) ?_) | (refine And.intro (by kernel_rfl) ?_) | (refine stpQ ?_))
      refine ⟨i + 1, ⟨hlt, hj2⟩, by omega, ?_⟩
      (refine z00 (by rfl) ?_ ?_) <;> (repeat' (first | (exact eqA) | (refine And.intro ?_ ?_) | ((fail_if_success (with_reducible (show _ = _))); (show _ = _)))) <;> rfl
    | false =>
      rw [ho] at cN
      obtain rfl : B = false := by
       cases B with
       | false => rfl
       | true => have := (key rfl i hlt).1; rw [ho] at this; cases this
      clear key kn
      generalize names[i] = u at g cN
      repeat ((try conv => whnf); first | (with_reducible first | refine z0b (fun Qs hN hE hR => ?_) | refine z09 ?_ | refine z02 (fun Qb kN kE kX kR => ?_) | refine z04 ?_ | refine z05 ?_ | refine z0a ?_ | refine z06 ?_ | refine z07 ?_ | (show W _ _ _ (.cond _ _ _) _ _; refine z03 rfl ?_) | (refine hN _ ?_; try clear hN hE hR Qs; (try (conv => arg 6; dsimp only [ovl, List.set, List.map, ren0]))) | ((first | refine hE _ _ ?_ | refine hR _ ?_); try clear hN hE hR Qs) | ((first | refine kN _ ?_ | refine kE _ ?_ | refine kX _ _ rfl ?_ | refine kR _ ?_); try clear kN kE kX kR Qb)) | (refine z0i f1 ?_) | (refine i_at g ?_) | (refine z0m f2 ?_) | (refine ccA ([]) (cN) ?_) | (refine And.intro (by kernel_rfl) ?_) | (refine stpQ ?_))
      refine hQ1 _ _ ?_
      clear hQ1 Q1
      repeat ((try conv => whnf); first | (with_reducible first | refine z0b (fun Qs hN hE hR => ?_) | refine z09 ?_ | refine z02 (fun Qb kN kE kX kR => ?_) | refine z04 ?_ | refine z05 ?_ | refine z0a ?_ | refine z06 ?_ | refine z07 ?_ | (show W _ _ _ (.cond _ _ _) _ _; refine z03 rfl ?_) | (refine hN _ ?_; try clear hN hE hR Qs; (try (conv => arg 6; dsimp only [ovl, List.set, List.map, ren0]))) | ((first | refine hE _ _ ?_ | refine hR _ ?_); try clear hN hE hR Qs) | ((first | refine kN _ ?_ | refine kE _ ?_ | refine kX _ _ rfl ?_ | refine kR _ ?_); try clear kN kE kX kR Qb)) | (refine stpQ ?_))
      (refine z01 (by rfl) ?_ ?_ (by rfl)) <;> (repeat' (first | (exact eqA) | (refine And.intro ?_ ?_) | ((fail_if_success (with_reducible (show _ = _))); (show _ = _))))
   ·have f2 : (i : Int) ≥ 8 := by omega
    obtain rfl : B = false := by
     cases B with
     | false => rfl
     | true => have := (key rfl i hlt).2; omega
    clear key kn
    generalize names[i] = u at g cN
    repeat ((try conv => whnf); first | (with_reducible first | refine z0b (fun Qs hN hE hR => ?_) | refine z09 ?_ | refine z02 (fun Qb kN kE kX kR => ?_) | refine z04 ?_ | refine z05 ?_ | refine z0a ?_ | refine z06 ?_ | refine z07 ?_ | (show W _ _ _ (.cond _ _ _) _ _; refine z03 rfl ?_) | (refine hN _ ?_; try clear hN hE hR Qs; (try (conv => arg 6; dsimp only [ovl, List.set, List.map, ren0]))) | ((first | refine hE _ _ ?_ | refine hR _ ?_); try clear hN hE hR Qs) | ((first | refine kN _ ?_ | refine kE _ ?_ | refine kX _ _ rfl ?_ | refine kR _ ?_); try clear kN kE kX kR Qb)) | (refine z0i f1 ?_) | (refine i_at g ?_) | (refine z0i f2 ?_) | (refine And.intro (by kernel_rfl) ?_) | (refine stpQ ?_))
    refine hQ1 _ _ ?_
    clear hQ1 Q1
    repeat ((try conv => whnf); first | (with_reducible first | refine z0b (fun Qs hN hE hR => ?_) | refine z09 ?_ | refine z02 (fun Qb kN kE kX kR => ?_) | refine z04 ?_ | refine z05 ?_ | refine z0a ?_ | refine z06 ?_ | refine z07 ?_ | (show W _ _ _ (.cond _ _ _) _ _; refine z03 rfl ?_) | (refine hN _ ?_; try clear hN hE hR Qs; (try (conv => arg 6; dsimp only [ovl, List.set, List.map, ren0]))) | ((first | refine hE _ _ ?_ | refine hR _ ?_); try clear hN hE hR Qs) | ((first | refine kN _ ?_ | refine kE _ ?_ | refine kX _ _ rfl ?_ | refine kR _ ?_); try clear kN kE kX kR Qb)) | (refine stpQ ?_))
    (refine z01 (by rfl) ?_ ?_ (by rfl)) <;> (repeat' (first | (exact eqA) | (refine And.intro ?_ ?_) | ((fail_if_success (with_reducible (show _ = _))); (show _ = _))))
  ·have hie : i = names.length := by omega
   subst hie
   have f1 : ¬ ((names.length : Nat) : Int) < ((names.length : Nat) : Int) := by omega
   have hB2 := kn (fun j h => hj j h h)
   repeat ((try conv => whnf); first | (with_reducible first | refine z0b (fun Qs hN hE hR => ?_) | refine z09 ?_ | refine z02 (fun Qb kN kE kX kR => ?_) | refine z04 ?_ | refine z05 ?_ | refine z0a ?_ | refine z06 ?_ | refine z07 ?_ | (show W _ _ _ (.cond _ _ _) _ _; refine z03 rfl ?_) | (refine hN _ ?_; try clear hN hE hR Qs; (try (conv => arg 6; dsimp only [ovl, List.set, List.map, ren0]))) | ((first | refine hE _ _ ?_ | refine hR _ ?_); try clear hN hE hR Qs) | ((first | refine kN _ ?_ | refine kE _ ?_ | refine kX _ _ rfl ?_ | refine kR _ ?_); try clear kN kE kX kR Qb)) | (refine z0m f1 ?_) | (refine stpQ ?_))
   refine hQ1 _ _ ?_
   clear hQ1 Q1
   repeat ((try conv => whnf); first | (with_reducible first | refine z0b (fun Qs hN hE hR => ?_) | refine z09 ?_ | refine z02 (fun Qb kN kE kX kR => ?_) | refine z04 ?_ | refine z05 ?_ | refine z0a ?_ | refine z06 ?_ | refine z07 ?_ | (show W _ _ _ (.cond _ _ _) _ _; refine z03 rfl ?_) | (refine hN _ ?_; try clear hN hE hR Qs; (try (conv => arg 6; dsimp only [ovl, List.set, List.map, ren0]))) | ((first | refine hE _ _ ?_ | refine hR _ ?_); try clear hN hE hR Qs) | ((first | refine kN _ ?_ | refine kE _ ?_ | refine kX _ _ rfl ?_ | refine kR _ ?_); try clear kN kE kX kR Qb)) | (refine Exists.intro names.length (And.intro hlen ?_)) | (refine stpQ ?_))
   (refine z01 (by rfl) ?_ ?_ (by rfl)) <;> (repeat' (first | (exact eqA) | (refine And.intro ?_ ?_) | ((fail_if_success (with_reducible (show _ = _))); (show _ = _)))) <;> first | rfl | exact hB2.symm
theorem z6j (l : List Lf) (w : Nat) (h : leavesOk l = true) (hw : 1 ≤ w ∧ w ≤ 32) : ∃ u : Bs, u.length ≤ 32 ∧ CT Tryz.prog 39 [] [.sl 2 (lvE l), .int .i64 (w : Int)] (.str u) [] := by
 have hs := z4R h
 have c0 := z1J l (by have := hs.1; omega) hs.fit
 rw [h] at c0
 have c1 := z2w l h
 have cT : CT Tryz.prog 90 [] [.sl 2 (lvE l)] (.tup [.str (z0q l), .bool true]) [] := by
  generalize z0q l = B at *
  refine z08 z7l 1 rfl Tryz.func90 rfl rfl rfl ?_
  conv => arg 6; whnf
  repeat ((try conv => whnf); first | (with_reducible first | refine z0b (fun Qs hN hE hR => ?_) | refine z09 ?_ | refine z02 (fun Qb kN kE kX kR => ?_) | refine z04 ?_ | refine z05 ?_ | refine z0a ?_ | refine z06 ?_ | refine z07 ?_ | (show W _ _ _ (.cond _ _ _) _ _; refine z03 rfl ?_) | (refine hN _ ?_; try clear hN hE hR Qs; (try (conv => arg 6; dsimp only [ovl, List.set, List.map, ren0]))) | ((first | refine hE _ _ ?_ | refine hR _ ?_); try clear hN hE hR Qs) | ((first | refine kN _ ?_ | refine kE _ ?_ | refine kX _ _ rfl ?_ | refine kR _ ?_); try clear kN kE kX kR Qb)) | (refine ccA ([]) (c0) ?_) | (refine ccA ([]) (c1) ?_) | (refine And.intro (by kernel_rfl) ?_) | (refine stpQ ?_))
  (refine z01 (by rfl) ?_ ?_ (by rfl)) <;> (repeat' (first | (exact eqA) | (refine And.intro ?_ ?_) | ((fail_if_success (with_reducible (show _ = _))); (show _ = _))))
 have hb := z2i h
 have hcl : (cutB (z0q l) w).length ≤ 32 := by have := z18 (z0q l); simp [cutB]; omega
 have cC := z9k (z0q l) w (by omega) hw
 refine ⟨cutB (z0q l) w, hcl, ?_⟩
 clear hcl hb c0 c1 hs h
 generalize cutB (z0q l) w = C at *
 generalize z0q l = B at *
 refine z08 z7l 1 rfl Tryz.func39 rfl rfl rfl ?_
 conv => arg 6; whnf
 repeat ((try conv => whnf); first | (with_reducible first | refine z0b (fun Qs hN hE hR => ?_) | refine z09 ?_ | refine z02 (fun Qb kN kE kX kR => ?_) | refine z04 ?_ | refine z05 ?_ | refine z0a ?_ | refine z06 ?_ | refine z07 ?_ | (show W _ _ _ (.cond _ _ _) _ _; refine z03 rfl ?_) | (refine hN _ ?_; try clear hN hE hR Qs; (try (conv => arg 6; dsimp only [ovl, List.set, List.map, ren0]))) | ((first | refine hE _ _ ?_ | refine hR _ ?_); try clear hN hE hR Qs) | ((first | refine kN _ ?_ | refine kE _ ?_ | refine kX _ _ rfl ?_ | refine kR _ ?_); try clear kN kE kX kR Qb)) | (refine ccA ([]) (cT) ?_) | (refine ccA ([]) (cC) ?_) | (refine And.intro (by kernel_rfl) ?_) | (refine stpQ ?_))
 (refine z01 (by rfl) ?_ ?_ (by rfl)) <;> (repeat' (first | (exact eqA) | (refine And.intro ?_ ?_) | ((fail_if_success (with_reducible (show _ = _))); (show _ = _))))
end
end Go.Proofs.YtceegbenenakaaaGreatDoor
