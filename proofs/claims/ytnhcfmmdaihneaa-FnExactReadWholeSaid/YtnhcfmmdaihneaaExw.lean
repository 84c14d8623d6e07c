/- The exact laws compare complete proofs. -/
import Derived.Test.YtnhcfmmdaihneaaExE
import Derived.Test.YtnhcfmmdaihneaaPs
import Derived.Test.YtnhcfmmdaihneaaVd
import Derived.Test.YtnhcfmmdaihneaaVe
namespace Go.Proofs.Ytnhcfmmdaihneaa
set_option maxRecDepth 100000
set_option maxHeartbeats 4000000
set_option linter.unusedVariables false
set_option linter.unusedSimpArgs false
set_option linter.unusedSectionVars false
open Go.RowKit Pl
section
attribute [local irreducible] z0m z0o z0s AnsP LeP W
theorem z9A (z0 z1 : List (List T)) (h0 : z0.length ≤ 1048576 ∧ ∀ e ∈ z0, Fits 1048576 z37 e) (h1 : z1.length ≤ 1048576 ∧ ∀ e ∈ z1, Fits 1048576 .str e) : CT Try.prog 27 [] [.agg [.sl 2 z0, .sl 1 z1], .agg [.sl 2 z0, .sl 1 z1]] (.bool true) [] := by
 have c0 := zaZ z0 h0
 have c1 := z1U z1 h1
 refine z01 z0y 1 rfl Try.func27 rfl rfl rfl ?_
 conv => arg 6; whnf
 repeat ((try conv => whnf); first | (with_reducible first | refine z0c (fun Qs hN hE hR => ?_) | refine z0a ?_ | refine z02 (fun Qb kN kE kX kR => ?_) | refine z04 ?_ | refine z05 ?_ | refine z0b ?_ | refine z06 ?_ | refine z07 ?_ | (show W _ _ _ (.cond _ _ _) _ _; refine z03 rfl ?_) | (refine hN _ ?_; try clear hN hE hR Qs) | ((first | refine hE _ _ ?_ | refine hR _ ?_); try clear hN hE hR Qs) | ((first | refine kN _ ?_ | refine kE _ ?_ | refine kX _ _ rfl ?_ | refine kR _ ?_); try clear kN kE kX kR Qb)) | (refine ccA ([]) (c0) ?_) | (refine ccA ([]) (c1) ?_) | (refine And.intro (by kernel_rfl) ?_) | (refine stpQ ?_))
 (refine z00 (by rfl) ?_ ?_ (by rfl)) <;> (repeat' (first | (exact eqA) | (refine shE ?_) | (refine And.intro ?_ ?_)))
theorem z89 (z : List (List T)) (h : z.length ≤ 1048576 ∧ ∀ e ∈ z, Fits 1048576 z2N e) : CT Try.prog 30 [] [.sl 5 z, .sl 5 z] (.bool true) [] := by
 obtain ⟨hn, hz⟩ := h
 refine z01 z0y 1 rfl Try.func30 rfl rfl rfl ?_
 conv => arg 6; whnf
 repeat ((try conv => whnf); first | (with_reducible first | refine z0c (fun Qs hN hE hR => ?_) | refine z0a ?_ | refine z02 (fun Qb kN kE kX kR => ?_) | refine z04 ?_ | refine z05 ?_ | refine z0b ?_ | refine z06 ?_ | refine z07 ?_ | (show W _ _ _ (.cond _ _ _) _ _; refine z03 rfl ?_) | (refine hN _ ?_; try clear hN hE hR Qs) | ((first | refine hE _ _ ?_ | refine hR _ ?_); try clear hN hE hR Qs) | ((first | refine kN _ ?_ | refine kE _ ?_ | refine kX _ _ rfl ?_ | refine kR _ ?_); try clear kN kE kX kR Qb)) | (refine stpQ ?_))
 refine z3N Nat (fun i => ⟨[(0, .sl 5 z), (1, .sl 5 z), (5, .int .i64 (i : Int))], [], 1⟩) (fun i => i ≤ z.length) (fun i => z.length - i) 0 (Nat.zero_le _) ?_ ?_
 ·(refine z08 (by rfl) ?_ ?_) <;> (repeat' (first | (exact eqA) | (refine shE ?_) | (refine And.intro ?_ ?_))) <;> first | rfl | decide
 ·intro Q1 hQ1 i hi
  by_cases hlt : i < z.length
  ·have hi2 : (i : Int) < (z.length : Int) := by omega
   have gi : z[i]? = some z[i] := List.getElem?_eq_getElem hlt
   have hf := hz _ (List.getElem_mem hlt)
   generalize z[i] = e at hf gi
   obtain ⟨n0, n1, z2, z3, z4, rfl, -⟩ := z5o hf
   have cE := zaY [.int .i64 n0, .int .i64 n1, .sl 1 z2, .sl 1 z3, .sl 1 z4] hf
   repeat ((try conv => whnf); first | (with_reducible first | refine z0c (fun Qs hN hE hR => ?_) | refine z0a ?_ | refine z02 (fun Qb kN kE kX kR => ?_) | refine z04 ?_ | refine z05 ?_ | refine z0b ?_ | refine z06 ?_ | refine z07 ?_ | (show W _ _ _ (.cond _ _ _) _ _; refine z03 rfl ?_) | (refine hN _ ?_; try clear hN hE hR Qs) | ((first | refine hE _ _ ?_ | refine hR _ ?_); try clear hN hE hR Qs) | ((first | refine kN _ ?_ | refine kE _ ?_ | refine kX _ _ rfl ?_ | refine kR _ ?_); try clear kN kE kX kR Qb)) | (refine z0Q hi2 ?_) | (refine i_at gi ?_) | (refine ccA ([]) (cE) ?_) | (refine stpQ ?_))
   refine ⟨i + 1, hlt, by omega, ?_⟩
   (refine z08 (by rfl) ?_ ?_) <;> (repeat' (first | (exact eqA) | (refine shE ?_) | (refine And.intro ?_ ?_)))
  ·obtain rfl : i = z.length := by omega
   have f1 : ¬ ((z.length : Nat) : Int) < ((z.length : Nat) : Int) := by omega
   repeat ((try conv => whnf); first | (with_reducible first | refine z0c (fun Qs hN hE hR => ?_) | refine z0a ?_ | refine z02 (fun Qb kN kE kX kR => ?_) | refine z04 ?_ | refine z05 ?_ | refine z0b ?_ | refine z06 ?_ | refine z07 ?_ | (show W _ _ _ (.cond _ _ _) _ _; refine z03 rfl ?_) | (refine hN _ ?_; try clear hN hE hR Qs) | ((first | refine hE _ _ ?_ | refine hR _ ?_); try clear hN hE hR Qs) | ((first | refine kN _ ?_ | refine kE _ ?_ | refine kX _ _ rfl ?_ | refine kR _ ?_); try clear kN kE kX kR Qb)) | (refine z0z f1 ?_) | (refine stpQ ?_))
   refine hQ1 _ _ ?_
   clear hQ1 Q1
   repeat ((try conv => whnf); first | (with_reducible first | refine z0c (fun Qs hN hE hR => ?_) | refine z0a ?_ | refine z02 (fun Qb kN kE kX kR => ?_) | refine z04 ?_ | refine z05 ?_ | refine z0b ?_ | refine z06 ?_ | refine z07 ?_ | (show W _ _ _ (.cond _ _ _) _ _; refine z03 rfl ?_) | (refine hN _ ?_; try clear hN hE hR Qs) | ((first | refine hE _ _ ?_ | refine hR _ ?_); try clear hN hE hR Qs) | ((first | refine kN _ ?_ | refine kE _ ?_ | refine kX _ _ rfl ?_ | refine kR _ ?_); try clear kN kE kX kR Qb)) | (refine stpQ ?_))
   (refine z00 (by rfl) ?_ ?_ (by rfl)) <;> (repeat' (first | (exact eqA) | (refine shE ?_) | (refine And.intro ?_ ?_)))
theorem z9B (ho ep : Int) (ro pr : Bs) (a : Int) (b s t x y z w : List (List T)) (hb : b.length ≤ 1048576 ∧ ∀ e ∈ b, Fits 1048576 z37 e) (hs : s.length ≤ 1048576 ∧ ∀ e ∈ s, Fits 1048576 .str e) (ht : t.length ≤ 1048576 ∧ ∀ e ∈ t, Fits 1048576 .str e) (hl : Fits 1048576 z4I [.int .i64 ho, .int .i64 ep, .str ro, .str pr, .int .i64 a, .sl 1 x, .sl 1 y, .sl 1 z]) (hw : w.length ≤ 1048576 ∧ ∀ e ∈ w, Fits 1048576 z2N e)
 (B S Tp X Y Z U : List (List T)) (eB : B = b) (eS : S = s) (eT : Tp = t) (eX : X = x) (eY : Y = y) (eZ : Z = z) (eU : U = w) :
 CT Try.prog 6 [] [.agg [.sl 2 B, .sl 1 S, .sl 1 Tp, .int .i64 ho, .int .i64 ep, .str ro, .str pr, .int .i64 a, .sl 1 X, .sl 1 Y, .sl 1 Z, .sl 5 U], .agg [.sl 2 b, .sl 1 s, .sl 1 t, .int .i64 ho, .int .i64 ep, .str ro, .str pr, .int .i64 a, .sl 1 x, .sl 1 y, .sl 1 z, .sl 5 w]] (.bool true) [] := by
 subst eB eS eT eX eY eZ eU
 have c0 := z9A B S hb hs
 have c1 := z1U Tp ht
 have c2 := zbU _ hl
 have c3 := z89 U hw
 refine z01 z0y 1 rfl Try.func6 rfl rfl rfl ?_
 conv => arg 6; whnf
 repeat ((try conv => whnf); first | (with_reducible first | refine z0c (fun Qs hN hE hR => ?_) | refine z0a ?_ | refine z02 (fun Qb kN kE kX kR => ?_) | refine z04 ?_ | refine z05 ?_ | refine z0b ?_ | refine z06 ?_ | refine z07 ?_ | (show W _ _ _ (.cond _ _ _) _ _; refine z03 rfl ?_) | (refine hN _ ?_; try clear hN hE hR Qs) | ((first | refine hE _ _ ?_ | refine hR _ ?_); try clear hN hE hR Qs) | ((first | refine kN _ ?_ | refine kE _ ?_ | refine kX _ _ rfl ?_ | refine kR _ ?_); try clear kN kE kX kR Qb)) | (refine ccA ([]) (c0) ?_) | (refine ccA ([]) (c1) ?_) | (refine ccA ([]) (c2) ?_) | (refine ccA ([]) (c3) ?_) | (refine And.intro (by kernel_rfl) ?_) | (refine stpQ ?_))
 (refine z00 (by rfl) ?_ ?_ (by rfl)) <;> (repeat' (first | (exact eqA) | (refine shE ?_) | (refine And.intro ?_ ?_)))
end
end Go.Proofs.Ytnhcfmmdaihneaa
