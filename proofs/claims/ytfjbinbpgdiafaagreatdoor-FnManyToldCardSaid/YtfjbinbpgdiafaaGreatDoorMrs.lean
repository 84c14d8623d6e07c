/- Functions by content: the reference tells whether a proof of many has its form. -/
import Derived.Test.YtfjbinbpgdiafaaGreatDoorMrr2
import Derived.Test.YtfjbinbpgdiafaaGreatDoorPs
namespace Go.Proofs.YtfjbinbpgdiafaaGreatDoor
set_option maxRecDepth 100000
set_option maxHeartbeats 4000000
set_option linter.unusedVariables false
set_option linter.unusedSimpArgs false
set_option linter.unusedSectionVars false
open Go.RowKit Pl
section
attribute [local irreducible] z0t z0u z0A AnsP LeP W CvE
theorem z49 (names : List Bs) (hn : names.length ≤ 1048576) (hl : ∀ s ∈ names, (s.length : Int) ≤ 100000000) : CT Tryz.prog 77 [] [.sl 1 (strE names)] (.bool (z0N names)) [] := by
 have hlen := z0h names
 have cI := z2N (names.length : Int) 1 8
 have key : z0N names = true → ∀ i (h : i < names.length), z0E names[i] = true := fun h i hi => by
  simp only [z0N, Bool.and_eq_true, List.all_eq_true, decide_eq_true_eq] at h
  exact h.1 _ (List.getElem_mem hi)
 have kn : (∀ i (h : i < names.length), z0E names[i] = true) → z0N names = inB (names.length : Int) 1 8 := fun h => by
  have ha : names.all z0E = true := by
   rw [List.all_eq_true]
   intro x hx
   obtain ⟨j, hj, rfl⟩ := List.getElem_of_mem hx
   exact h j hj
  unfold z0N
  rw [ha, Bool.true_and]
  by_cases h0 : 1 ≤ names.length ∧ names.length ≤ 8
  ·rw [decide_eq_true h0, z1b.2 (by omega)]
  ·rw [decide_eq_false h0]
   cases e : inB (names.length : Int) 1 8 with
   | false => rfl
   | true => have := z1b.1 e; exact absurd (by omega) h0
 generalize z0N names = B at key kn ⊢
 refine z0b z5r 1 rfl Tryz.func77 rfl rfl rfl ?_
 conv => arg 6; whnf
 repeat ((try conv => whnf); first | (with_reducible first | refine z0a (fun Qs hN hE hR => ?_) | refine z08 ?_ | refine z00 (fun Qb kN kE kX kR => ?_) | refine z04 ?_ | refine z05 ?_ | refine z09 ?_ | refine z06 ?_ | refine z07 ?_ | (show W _ _ _ (.cond _ _ _) _ _; refine z03 rfl ?_) | (refine hN _ ?_; try clear hN hE hR Qs; (try (conv => arg 6; dsimp only [ovl, List.set, List.map, ren0]))) | ((first | refine hE _ _ ?_ | refine hR _ ?_); try clear hN hE hR Qs) | ((first | refine kN _ ?_ | refine kE _ ?_ | refine kX _ _ rfl ?_ | refine kR _ ?_); try clear kN kE kX kR Qb)) | (refine stpQ ?_))
 refine z1o Nat (fun i => ⟨[(0, .sl 1 (strE names)), (3, .int .i64 (i : Int))], [], 1⟩) (fun i => i ≤ names.length ∧ ∀ j (h : j < names.length), j < i → z0E names[j] = true) (fun i => names.length - i) 0 ⟨Nat.zero_le _, fun j _ h => absurd h (Nat.not_lt_zero _)⟩ ?_ ?_
 ·(refine z01 (by rfl) ?_ ?_) <;> (repeat' (first | (exact eqA) | (refine And.intro ?_ ?_) | ((fail_if_success (with_reducible (show _ = _))); (show _ = _)))) <;> first | rfl | decide
 ·intro Q1 hQ1 i hx
  obtain ⟨hi, hj⟩ := hx
  by_cases hlt : i < names.length
  ·have f1 : (i : Int) < ((names.length : Nat) : Int) := by omega
   have g := z1T hlt
   have cN := z87 names[i] (by have := hl _ (List.getElem_mem hlt); omega)
   cases ho : z0E names[i] with
   | true =>
     rw [ho] at cN
     have hj2 : ∀ j (h : j < names.length), j < i + 1 → z0E names[j] = true := fun j h hji => by
      by_cases he : j < i
      ·exact hj j h he
      ·obtain rfl : j = i := by omega
       exact ho
     clear key kn cI
     generalize names[i] = u at g cN
     repeat ((try conv => whnf); first | (with_reducible first | refine z0a (fun Qs hN hE hR => ?_) | refine z08 ?_ | refine z00 (fun Qb kN kE kX kR => ?_) | refine z04 ?_ | refine z05 ?_ | refine z09 ?_ | refine z06 ?_ | refine z07 ?_ | (show W _ _ _ (.cond _ _ _) _ _; refine z03 rfl ?_) | (refine hN _ ?_; try clear hN hE hR Qs; (try (conv => arg 6; dsimp only [ovl, List.set, List.map, ren0]))) | ((first | refine hE _ _ ?_ | refine hR _ ?_); try clear hN hE hR Qs) | ((first | refine kN _ ?_ | refine kE _ ?_ | refine kX _ _ rfl ?_ | refine kR _ ?_); try clear kN kE kX kR Qb)) | (refine Exists.intro names.length (And.intro hlen ?_)) | (refine z0c f1 ?_) | (refine i_at g ?_) | (refine ccA ([]) (cN) ?_) | (refine And.intro (by kernel_rfl) ?_) | (refine stpQ ?_))
     refine ⟨i + 1, ⟨hlt, hj2⟩, by omega, ?_⟩
     (refine z01 (by rfl) ?_ ?_) <;> (repeat' (first | (exact eqA) | (refine And.intro ?_ ?_) | ((fail_if_success (with_reducible (show _ = _))); (show _ = _)))) <;> rfl
   | false =>
     rw [ho] at cN
     obtain rfl : B = false := by
      cases B with
      | false => rfl
      | true => have := key rfl i hlt; rw [ho] at this; cases this
     clear key kn cI
     generalize names[i] = u at g cN
     repeat ((try conv => whnf); first | (with_reducible first | refine z0a (fun Qs hN hE hR => ?_) | refine z08 ?_ | refine z00 (fun Qb kN kE kX kR => ?_) | refine z04 ?_ | refine z05 ?_ | refine z09 ?_ | refine z06 ?_ | refine z07 ?_ | (show W _ _ _ (.cond _ _ _) _ _; refine z03 rfl ?_) | (refine hN _ ?_; try clear hN hE hR Qs; (try (conv => arg 6; dsimp only [ovl, List.set, List.map, ren0]))) | ((first | refine hE _ _ ?_ | refine hR _ ?_); try clear hN hE hR Qs) | ((first | refine kN _ ?_ | refine kE _ ?_ | refine kX _ _ rfl ?_ | refine kR _ ?_); try clear kN kE kX kR Qb)) | (refine Exists.intro names.length (And.intro hlen ?_)) | (refine z0c f1 ?_) | (refine i_at g ?_) | (refine ccA ([]) (cN) ?_) | (refine And.intro (by kernel_rfl) ?_) | (refine stpQ ?_))
     refine hQ1 _ _ ?_
     clear hQ1 Q1
     repeat ((try conv => whnf); first | (with_reducible first | refine z0a (fun Qs hN hE hR => ?_) | refine z08 ?_ | refine z00 (fun Qb kN kE kX kR => ?_) | refine z04 ?_ | refine z05 ?_ | refine z09 ?_ | refine z06 ?_ | refine z07 ?_ | (show W _ _ _ (.cond _ _ _) _ _; refine z03 rfl ?_) | (refine hN _ ?_; try clear hN hE hR Qs; (try (conv => arg 6; dsimp only [ovl, List.set, List.map, ren0]))) | ((first | refine hE _ _ ?_ | refine hR _ ?_); try clear hN hE hR Qs) | ((first | refine kN _ ?_ | refine kE _ ?_ | refine kX _ _ rfl ?_ | refine kR _ ?_); try clear kN kE kX kR Qb)) | (refine stpQ ?_))
     (refine z02 (by rfl) ?_ ?_ (by rfl)) <;> (repeat' (first | (exact eqA) | (refine And.intro ?_ ?_) | ((fail_if_success (with_reducible (show _ = _))); (show _ = _))))
  ·have hie : i = names.length := by omega
   subst hie
   have f1 : ¬ ((names.length : Nat) : Int) < ((names.length : Nat) : Int) := by omega
   have hB2 := kn (fun j h => hj j h h)
   rw [← hB2] at cI
   repeat ((try conv => whnf); first | (with_reducible first | refine z0a (fun Qs hN hE hR => ?_) | refine z08 ?_ | refine z00 (fun Qb kN kE kX kR => ?_) | refine z04 ?_ | refine z05 ?_ | refine z09 ?_ | refine z06 ?_ | refine z07 ?_ | (show W _ _ _ (.cond _ _ _) _ _; refine z03 rfl ?_) | (refine hN _ ?_; try clear hN hE hR Qs; (try (conv => arg 6; dsimp only [ovl, List.set, List.map, ren0]))) | ((first | refine hE _ _ ?_ | refine hR _ ?_); try clear hN hE hR Qs) | ((first | refine kN _ ?_ | refine kE _ ?_ | refine kX _ _ rfl ?_ | refine kR _ ?_); try clear kN kE kX kR Qb)) | (refine Exists.intro names.length (And.intro hlen ?_)) | (refine z0d f1 ?_) | (refine stpQ ?_))
   refine hQ1 _ _ ?_
   clear hQ1 Q1
   repeat ((try conv => whnf); first | (with_reducible first | refine z0a (fun Qs hN hE hR => ?_) | refine z08 ?_ | refine z00 (fun Qb kN kE kX kR => ?_) | refine z04 ?_ | refine z05 ?_ | refine z09 ?_ | refine z06 ?_ | refine z07 ?_ | (show W _ _ _ (.cond _ _ _) _ _; refine z03 rfl ?_) | (refine hN _ ?_; try clear hN hE hR Qs; (try (conv => arg 6; dsimp only [ovl, List.set, List.map, ren0]))) | ((first | refine hE _ _ ?_ | refine hR _ ?_); try clear hN hE hR Qs) | ((first | refine kN _ ?_ | refine kE _ ?_ | refine kX _ _ rfl ?_ | refine kR _ ?_); try clear kN kE kX kR Qb)) | (refine Exists.intro names.length (And.intro hlen ?_)) | (refine ccA ([]) (cI) ?_) | (refine stpQ ?_))
   (refine z02 (by rfl) ?_ ?_ (by rfl)) <;> (repeat' (first | (exact eqA) | (refine And.intro ?_ ?_) | ((fail_if_success (with_reducible (show _ = _))); (show _ = _))))
theorem zd3 (l : List Nat) (x : Nat) (hl : l.length ≤ 1000000) : CT Tryz.prog 81 [] [.sl 1 (npE l), .int .i64 (x : Int)] (.bool (l.contains x)) [] := by
 have hlen := z1d l
 have key : l.contains x = false → ∀ i (h : i < l.length), l[i] ≠ x := fun h i hi c => by
  have : x ∈ l := c ▸ List.getElem_mem hi
  rw [List.contains_iff_mem.2 this] at h; cases h
 have kn : (∀ i (h : i < l.length), l[i] ≠ x) → l.contains x = false := fun h => by
  cases e : l.contains x with
  | false => rfl
  | true =>
    obtain ⟨j, hj, hjx⟩ := List.getElem_of_mem (List.contains_iff_mem.1 e)
    exact absurd hjx (h j hj)
 have kt : ∀ i (h : i < l.length), l[i] = x → l.contains x = true := fun i h c => List.contains_iff_mem.2 (c ▸ List.getElem_mem h)
 generalize l.contains x = B at key kn kt ⊢
 refine z0b z5r 1 rfl Tryz.func81 rfl rfl rfl ?_
 conv => arg 6; whnf
 repeat ((try conv => whnf); first | (with_reducible first | refine z0a (fun Qs hN hE hR => ?_) | refine z08 ?_ | refine z00 (fun Qb kN kE kX kR => ?_) | refine z04 ?_ | refine z05 ?_ | refine z09 ?_ | refine z06 ?_ | refine z07 ?_ | (show W _ _ _ (.cond _ _ _) _ _; refine z03 rfl ?_) | (refine hN _ ?_; try clear hN hE hR Qs; (try (conv => arg 6; dsimp only [ovl, List.set, List.map, ren0]))) | ((first | refine hE _ _ ?_ | refine hR _ ?_); try clear hN hE hR Qs) | ((first | refine kN _ ?_ | refine kE _ ?_ | refine kX _ _ rfl ?_ | refine kR _ ?_); try clear kN kE kX kR Qb)) | (refine stpQ ?_))
 refine z1o Nat (fun i => ⟨[(0, .sl 1 (npE l)), (1, .int .i64 (x : Int)), (5, .int .i64 (i : Int))], [], 1⟩) (fun i => i ≤ l.length ∧ ∀ j (h : j < l.length), j < i → l[j] ≠ x) (fun i => l.length - i) 0 ⟨Nat.zero_le _, fun j _ h => absurd h (Nat.not_lt_zero _)⟩ ?_ ?_
 ·(refine z01 (by rfl) ?_ ?_) <;> (repeat' (first | (exact eqA) | (refine And.intro ?_ ?_) | ((fail_if_success (with_reducible (show _ = _))); (show _ = _)))) <;> first | rfl | decide
 ·intro Q1 hQ1 i hx
  obtain ⟨hi, hj⟩ := hx
  by_cases hlt : i < l.length
  ·have f1 : (i : Int) < ((l.length : Nat) : Int) := by omega
   have g := z0C hlt
   by_cases ho : l[i] = x
   ·obtain rfl : B = true := kt i hlt ho
    have f2 : ((l[i] : Nat) : Int) = (x : Int) := by omega
    clear key kn kt
    generalize l[i] = u at g f2
    repeat ((try conv => whnf); first | (with_reducible first | refine z0a (fun Qs hN hE hR => ?_) | refine z08 ?_ | refine z00 (fun Qb kN kE kX kR => ?_) | refine z04 ?_ | refine z05 ?_ | refine z09 ?_ | refine z06 ?_ | refine z07 ?_ | (show W _ _ _ (.cond _ _ _) _ _; refine z03 rfl ?_) | (refine hN _ ?_; try clear hN hE hR Qs; (try (conv => arg 6; dsimp only [ovl, List.set, List.map, ren0]))) | ((first | refine hE _ _ ?_ | refine hR _ ?_); try clear hN hE hR Qs) | ((first | refine kN _ ?_ | refine kE _ ?_ | refine kX _ _ rfl ?_ | refine kR _ ?_); try clear kN kE kX kR Qb)) | (refine Exists.intro l.length (And.intro hlen ?_)) | (refine z0c f1 ?_) | (refine i_at g ?_) | (refine z0c f2 ?_) | (refine And.intro (by kernel_rfl) ?_) | (refine stpQ ?_))
    refine hQ1 _ _ ?_
    clear hQ1 Q1
    repeat ((try conv => whnf); first | (with_reducible first | refine z0a (fun Qs hN hE hR => ?_) | refine z08 ?_ | refine z00 (fun Qb kN kE kX kR => ?_) | refine z04 ?_ | refine z05 ?_ | refine z09 ?_ | refine z06 ?_ | refine z07 ?_ | (show W _ _ _ (.cond _ _ _) _ _; refine z03 rfl ?_) | (refine hN _ ?_; try clear hN hE hR Qs; (try (conv => arg 6; dsimp only [ovl, List.set, List.map, ren0]))) | ((first | refine hE _ _ ?_ | refine hR _ ?_); try clear hN hE hR Qs) | ((first | refine kN _ ?_ | refine kE _ ?_ | refine kX _ _ rfl ?_ | refine kR _ ?_); try clear kN kE kX kR Qb)) | (refine stpQ ?_))
    (refine z02 (by rfl) ?_ ?_ (by rfl)) <;> (repeat' (first | (exact eqA) | (refine And.intro ?_ ?_) | ((fail_if_success (with_reducible (show _ = _))); (show _ = _))))
   ·have f2 : ¬ ((l[i] : Nat) : Int) = (x : Int) := by omega
    have hj2 : ∀ j (h : j < l.length), j < i + 1 → l[j] ≠ x := fun j h hji => by
     by_cases he : j < i
     ·exact hj j h he
     ·obtain rfl : j = i := by omega
      exact ho
    clear key kn kt
    generalize l[i] = u at g f2
    repeat ((try conv => whnf); first | (with_reducible first | refine z0a (fun Qs hN hE hR => ?_) | refine z08 ?_ | refine z00 (fun Qb kN kE kX kR => ?_) | refine z04 ?_ | refine z05 ?_ | refine z09 ?_ | refine z06 ?_ | refine z07 ?_ | (show W _ _ _ (.cond _ _ _) _ _; refine z03 rfl ?_) | (refine hN _ ?_; try clear hN hE hR Qs; (try (conv => arg 6; dsimp only [ovl, List.set, List.map, ren0]))) | ((first | refine hE _ _ ?_ | refine hR _ ?_); try clear hN hE hR Qs) | ((first | refine kN _ ?_ | refine kE _ ?_ | refine kX _ _ rfl ?_ | refine kR _ ?_); try clear kN kE kX kR Qb)) | (refine Exists.intro l.length (And.intro hlen ?_)) | (refine z0c f1 ?_) | (refine i_at g ?_) | (refine z0d f2 ?_) | (refine And.intro (by kernel_rfl) ?_) | (refine stpQ ?_))
    refine ⟨i + 1, ⟨hlt, hj2⟩, by omega, ?_⟩
    (refine z01 (by rfl) ?_ ?_) <;> (repeat' (first | (exact eqA) | (refine And.intro ?_ ?_) | ((fail_if_success (with_reducible (show _ = _))); (show _ = _)))) <;> rfl
  ·have hie : i = l.length := by omega
   subst hie
   have f1 : ¬ ((l.length : Nat) : Int) < ((l.length : Nat) : Int) := by omega
   obtain rfl : B = false := kn (fun j h => hj j h h)
   repeat ((try conv => whnf); first | (with_reducible first | refine z0a (fun Qs hN hE hR => ?_) | refine z08 ?_ | refine z00 (fun Qb kN kE kX kR => ?_) | refine z04 ?_ | refine z05 ?_ | refine z09 ?_ | refine z06 ?_ | refine z07 ?_ | (show W _ _ _ (.cond _ _ _) _ _; refine z03 rfl ?_) | (refine hN _ ?_; try clear hN hE hR Qs; (try (conv => arg 6; dsimp only [ovl, List.set, List.map, ren0]))) | ((first | refine hE _ _ ?_ | refine hR _ ?_); try clear hN hE hR Qs) | ((first | refine kN _ ?_ | refine kE _ ?_ | refine kX _ _ rfl ?_ | refine kR _ ?_); try clear kN kE kX kR Qb)) | (refine Exists.intro l.length (And.intro hlen ?_)) | (refine z0d f1 ?_) | (refine stpQ ?_))
   refine hQ1 _ _ ?_
   clear hQ1 Q1
   repeat ((try conv => whnf); first | (with_reducible first | refine z0a (fun Qs hN hE hR => ?_) | refine z08 ?_ | refine z00 (fun Qb kN kE kX kR => ?_) | refine z04 ?_ | refine z05 ?_ | refine z09 ?_ | refine z06 ?_ | refine z07 ?_ | (show W _ _ _ (.cond _ _ _) _ _; refine z03 rfl ?_) | (refine hN _ ?_; try clear hN hE hR Qs; (try (conv => arg 6; dsimp only [ovl, List.set, List.map, ren0]))) | ((first | refine hE _ _ ?_ | refine hR _ ?_); try clear hN hE hR Qs) | ((first | refine kN _ ?_ | refine kE _ ?_ | refine kX _ _ rfl ?_ | refine kR _ ?_); try clear kN kE kX kR Qb)) | (refine stpQ ?_))
   (refine z02 (by rfl) ?_ ?_ (by rfl)) <;> (repeat' (first | (exact eqA) | (refine And.intro ?_ ?_) | ((fail_if_success (with_reducible (show _ = _))); (show _ = _))))
theorem z6z (l : List Nat) (hl : l.length ≤ 1000000) (hs : Ups l) (hb : ∀ p ∈ l, p < 256) : CT Tryz.prog 68 [] [.sl 1 (npE l)] (.sl 1 (npE (lvUp l))) [] := by
 have hlen := z1d l
 have hfold : l.foldl z1N [] = lvUp l := by
  have := z7f [] hs (fun y h => by cases h)
  simpa using this
 rw [← hfold]
 clear hfold hs
 refine z0b z5r 1 rfl Tryz.func68 rfl rfl rfl ?_
 conv => arg 6; whnf
 repeat ((try conv => whnf); first | (with_reducible first | refine z0a (fun Qs hN hE hR => ?_) | refine z08 ?_ | refine z00 (fun Qb kN kE kX kR => ?_) | refine z04 ?_ | refine z05 ?_ | refine z09 ?_ | refine z06 ?_ | refine z07 ?_ | (show W _ _ _ (.cond _ _ _) _ _; refine z03 rfl ?_) | (refine hN _ ?_; try clear hN hE hR Qs; (try (conv => arg 6; dsimp only [ovl, List.set, List.map, ren0]))) | ((first | refine hE _ _ ?_ | refine hR _ ?_); try clear hN hE hR Qs) | ((first | refine kN _ ?_ | refine kE _ ?_ | refine kX _ _ rfl ?_ | refine kR _ ?_); try clear kN kE kX kR Qb)) | (refine And.intro (by kernel_rfl) ?_) | (refine stpQ ?_))
 refine z0g 0 ⟨[(3, .ref 1)], [(1, some (.row 1 (npE (l.foldl z1N []))))], 2⟩ Nat (fun i => ⟨[(0, .sl 1 (npE l)), (3, .ref 1), (4, .int .i64 (i : Int))], [(1, some (.row 1 (npE ((l.take i).foldl z1N []))))], 2⟩) (fun i => i ≤ l.length ∧ ((l.take i).foldl z1N []).length ≤ i) (fun i => l.length - i) 0 ⟨Nat.zero_le _, Nat.le_refl _⟩ ?_ ?_ ?_
 ·(refine z01 (by rfl) ?_ ?_) <;> (repeat' (first | (exact eqA) | (refine And.intro ?_ ?_) | ((fail_if_success (with_reducible (show _ = _))); (show _ = _)))) <;> first | rfl | decide
 ·intro i hx
  obtain ⟨hi, hle⟩ := hx
  by_cases hlt : i < l.length
  ·have f1 : (i : Int) < ((l.length : Nat) : Int) := by omega
   have g := z0C hlt
   have hnx : (l.take (i + 1)).foldl z1N [] = z1N ((l.take i).foldl z1N []) l[i] := by
    rw [List.take_succ_eq_append_getElem hlt, List.foldl_append]; rfl
   generalize (l.take i).foldl z1N [] = out at *
   have hoe := z1d out
   have cI := zd3 out (l[i] / 2) (by omega)
   have hp := hb _ (List.getElem_mem hlt)
   generalize l[i] = p at *
   cases hc : out.contains (p / 2) with
   | true =>
     rw [hc] at cI
     have e : z1N out p = out := by unfold z1N; rw [if_pos hc]
     repeat ((try conv => whnf); first | (with_reducible first | refine z0a (fun Qs hN hE hR => ?_) | refine z08 ?_ | refine z00 (fun Qb kN kE kX kR => ?_) | refine z04 ?_ | refine z05 ?_ | refine z09 ?_ | refine z06 ?_ | refine z07 ?_ | (show W _ _ _ (.cond _ _ _) _ _; refine z03 rfl ?_) | (refine hN _ ?_; try clear hN hE hR Qs; (try (conv => arg 6; dsimp only [ovl, List.set, List.map, ren0]))) | ((first | refine hE _ _ ?_ | refine hR _ ?_); try clear hN hE hR Qs) | ((first | refine kN _ ?_ | refine kE _ ?_ | refine kX _ _ rfl ?_ | refine kR _ ?_); try clear kN kE kX kR Qb)) | (refine Exists.intro l.length (And.intro hlen ?_)) | (refine z0c f1 ?_) | (refine i_at g ?_) | (refine z1M (n := nat_lit 2) (by omega) ?_) | (refine ccA ([]) (cI) ?_) | (refine And.intro (by kernel_rfl) ?_) | (refine stpQ ?_))
     refine ⟨i + 1, ⟨hlt, by rw [hnx, e]; omega⟩, by omega, ?_⟩
     rw [hnx, e]
     (refine z01 (by rfl) ?_ ?_) <;> (repeat' (first | (exact eqA) | (refine And.intro ?_ ?_) | ((fail_if_success (with_reducible (show _ = _))); (show _ = _)))) <;> rfl
   | false =>
     rw [hc] at cI
     have e : z1N out p = out ++ [p / 2] := by unfold z1N; rw [if_neg (by rw [hc]; decide)]
     have happ := z7g out (p / 2)
     repeat ((try conv => whnf); first | (with_reducible first | refine z0a (fun Qs hN hE hR => ?_) | refine z08 ?_ | refine z00 (fun Qb kN kE kX kR => ?_) | refine z04 ?_ | refine z05 ?_ | refine z09 ?_ | refine z06 ?_ | refine z07 ?_ | (show W _ _ _ (.cond _ _ _) _ _; refine z03 rfl ?_) | (refine hN _ ?_; try clear hN hE hR Qs; (try (conv => arg 6; dsimp only [ovl, List.set, List.map, ren0]))) | ((first | refine hE _ _ ?_ | refine hR _ ?_); try clear hN hE hR Qs) | ((first | refine kN _ ?_ | refine kE _ ?_ | refine kX _ _ rfl ?_ | refine kR _ ?_); try clear kN kE kX kR Qb)) | (refine Exists.intro l.length (And.intro hlen ?_)) | (refine z0c f1 ?_) | (refine i_at g ?_) | (refine z1M (n := nat_lit 2) (by omega) ?_) | (refine ccA ([]) (cI) ?_) | (refine And.intro (by simp only [List.length_append, List.length_set, List.length_replicate, List.length_cons, List.length_nil]; omega) ?_) | (refine And.intro (by kernel_rfl) ?_) | (refine stpQ ?_))
     refine ⟨i + 1, ⟨hlt, by rw [hnx, e]; simp; omega⟩, by omega, ?_⟩
     rw [hnx, e, happ]
     (refine z01 (by rfl) ?_ ?_) <;> (repeat' (first | (exact eqA) | (refine And.intro ?_ ?_) | ((fail_if_success (with_reducible (show _ = _))); (show _ = _)))) <;> rfl
  ·have hie : i = l.length := by omega
   subst hie
   have f1 : ¬ ((l.length : Nat) : Int) < ((l.length : Nat) : Int) := by omega
   repeat ((try conv => whnf); first | (with_reducible first | refine z0a (fun Qs hN hE hR => ?_) | refine z08 ?_ | refine z00 (fun Qb kN kE kX kR => ?_) | refine z04 ?_ | refine z05 ?_ | refine z09 ?_ | refine z06 ?_ | refine z07 ?_ | (show W _ _ _ (.cond _ _ _) _ _; refine z03 rfl ?_) | (refine hN _ ?_; try clear hN hE hR Qs; (try (conv => arg 6; dsimp only [ovl, List.set, List.map, ren0]))) | ((first | refine hE _ _ ?_ | refine hR _ ?_); try clear hN hE hR Qs) | ((first | refine kN _ ?_ | refine kE _ ?_ | refine kX _ _ rfl ?_ | refine kR _ ?_); try clear kN kE kX kR Qb)) | (refine Exists.intro l.length (And.intro hlen ?_)) | (refine z0d f1 ?_) | (refine stpQ ?_))
   rw [List.take_length]
   (refine z01 (by rfl) ?_ ?_) <;> (repeat' (first | (exact eqA) | (refine And.intro ?_ ?_) | ((fail_if_success (with_reducible (show _ = _))); (show _ = _)))) <;> rfl
 ·repeat ((try conv => whnf); first | (with_reducible first | refine z0a (fun Qs hN hE hR => ?_) | refine z08 ?_ | refine z00 (fun Qb kN kE kX kR => ?_) | refine z04 ?_ | refine z05 ?_ | refine z09 ?_ | refine z06 ?_ | refine z07 ?_ | (show W _ _ _ (.cond _ _ _) _ _; refine z03 rfl ?_) | (refine hN _ ?_; try clear hN hE hR Qs; (try (conv => arg 6; dsimp only [ovl, List.set, List.map, ren0]))) | ((first | refine hE _ _ ?_ | refine hR _ ?_); try clear hN hE hR Qs) | ((first | refine kN _ ?_ | refine kE _ ?_ | refine kX _ _ rfl ?_ | refine kR _ ?_); try clear kN kE kX kR Qb)) | (refine stpQ ?_))
  (refine z02 (by rfl) ?_ ?_ (by rfl)) <;> (repeat' (first | (exact eqA) | (refine And.intro ?_ ?_) | ((fail_if_success (with_reducible (show _ = _))); (show _ = _)))) <;> rfl
end
end Go.Proofs.YtfjbinbpgdiafaaGreatDoor
