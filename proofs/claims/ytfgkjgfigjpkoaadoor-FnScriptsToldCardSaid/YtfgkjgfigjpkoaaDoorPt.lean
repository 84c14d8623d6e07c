/- The parts of a line: what holds byte by byte. Functions by content: the parts of a line, by the program. Functions by content: the parts of a line, by the program (a byte that may not stand there). Functions by content: the parts of a line, by the reference. Functions by content: the parts of a line, by the reference (a byte that may not stand there). The parts of a line, by the program and by the reference. -/
import Derived.Test.YtfgkjgfigjpkoaaDoorPlainScr
import Derived.Test.YtfgkjgfigjpkoaaDoorFb
import Derived.Test.YtfgkjgfigjpkoaaDoorVd
import Derived.Test.YtfgkjgfigjpkoaaDoorVQ
namespace Go.Proofs.YtfgkjgfigjpkoaaDoor
set_option linter.unusedVariables false
set_option linter.unusedSimpArgs false
set_option linter.unusedSectionVars false
open Go.RowKit Pl
def gK (l : Bs) (k : Nat) : List Bs × Bs := prF ((l ++ [32]).take k)
theorem za3 {l : Bs} {k : Nat} (h : k ≤ l.length) : (gK l k).1.length ≤ k ∧ (gK l k).2.length ≤ k ∧ (gK l k).2 = (l.take k).drop (k - (gK l k).2.length) := by
 have e : gK l k = prF (l.take k) := by rw [gK, List.take_append_of_le_length h]
 rw [e]
 obtain ⟨h1, h2⟩ := z4B l k h
 exact ⟨z61 l k h, h1, h2⟩
theorem z8X {l : Bs} {k : Nat} (h : k < l.length) : gK l (k + 1) = prS (gK l k) (l.getD k 0) := by
 have e : gK l (k + 1) = prF (l.take (k + 1)) := by rw [gK, List.take_append_of_le_length (by omega)]
 rw [e, z2S h, gK, List.take_append_of_le_length (by omega)]
theorem z8Y (l : Bs) : gK l (l.length + 1) = (z0o l, []) := by
 rw [gK, List.take_of_length_le (by simp), z4C]
theorem zbr (l : Bs) : gK l (l.length + 1) = prS (gK l l.length) 32 := by
 have e : gK l l.length = prF l := by rw [gK, List.take_append_of_le_length (Nat.le_refl _), List.take_length]
 rw [z8Y, e]
 rfl
theorem z66 (l : Bs) : gK l 0 = ([], []) := rfl
def frI (c : Bs) (k : Nat) : Int := if c = [] then -1 else ((k - c.length : Nat) : Int)
theorem z1a (k : Nat) : frI [] k = -1 := by rw [frI, if_pos rfl]
theorem z1W {c : Bs} (k : Nat) (h : c ≠ []) : frI c k = ((k - c.length : Nat) : Int) := by rw [frI, if_neg h]
theorem z8Z {n : Nat} (h1 : 32 ≤ n) (h2 : n ≤ 126) : inB (n : Int) 32 126 = true := by simp [inB]; omega
theorem inB_no {n : Nat} (h : n < 32 ∨ 126 < n) : inB (n : Int) 32 126 = false := by simp [inB]; omega
def prt (l : Bs) : List Bs := bif z0v l then z0o l else []
theorem z90 (o : List Bs) (c : Bs) : strE (o ++ [c]) = strE o ++ [[.str c]] := by simp [strE]
theorem z2U {l : Bs} {k : Nat} (hk : k ≤ l.length) (h : k = l.length ∨ (l.getD k 0).toNat = 32) : gK l (k + 1) = (if (gK l k).2 = [] then (gK l k).1 else (gK l k).1 ++ [(gK l k).2], []) := by
 by_cases hkl : k = l.length
 ·subst hkl
  rw [zbr, prS, if_pos (show UInt8.toNat 32 = 32 from rfl)]
 ·rw [z8X (by omega), prS, if_pos (h.resolve_left hkl)]
theorem z4J {l : Bs} {k : Nat} (hk : k < l.length) (h : ¬ (l.getD k 0).toNat = 32) : gK l (k + 1) = ((gK l k).1, (gK l k).2 ++ [l.getD k 0]) := by
 rw [z8X hk, prS, if_neg h]
theorem z6O {c : Bs} {b : UInt8} {k : Nat} (hc : c ≠ []) : frI (c ++ [b]) (k + 1) = ((k - c.length : Nat) : Int) := by
 rw [z1W _ (by simp), List.length_append, List.length_singleton, show k + 1 - (c.length + 1) = k - c.length by omega]
theorem z91 {b : UInt8} {k : Nat} : frI ([] ++ [b]) (k + 1) = (k : Int) := by
 rw [z1W _ (by simp)]
 rfl
theorem z2V {o : List Bs} {c d : Bs} (h : c = d) : strE (o ++ [c]) = strE o ++ [[.str d]] := by rw [z90, h]
theorem st0 (l : Bs) : frI (gK l 0).2 0 = -1 := by rw [z66, z1a]
theorem st1 (l : Bs) : strE (gK l 0).1 = [] := by rw [z66]; rfl
theorem st2 (l : Bs) : ((0 - (gK l 0).2.length : Nat) : Int) = 0 := by rw [z66]; rfl
end Go.Proofs.YtfgkjgfigjpkoaaDoor
namespace Go.Proofs.YtfgkjgfigjpkoaaDoor
set_option linter.unusedVariables false
set_option linter.unusedSimpArgs false
set_option linter.unusedSectionVars false
open Go.RowKit Pl
section
attribute [local irreducible] z0t z0u z0C AnsP LeP W
attribute [local irreducible] gK frI prF prS
set_option maxRecDepth 100000 in
set_option maxHeartbeats 4000000 in
theorem z4K (l : Bs) (hl : l.length ≤ 600) (ha : l.all okP = true) : CT Tryd.prog 10 [] [.str l] (.tup [.ref 1, .bool (z0v l)]) [.row 1 (strE (prt l))] := by
 have hpl := z3o l
 have hB : z0v l = decide ((z0o l).length ≤ 10) := by rw [z0v, ha, decide_eq_true hl]; rfl
 have hgood : ∀ k, k < l.length → 32 ≤ (l.getD k 0).toNat ∧ (l.getD k 0).toNat ≤ 126 := fun k hk => z6J (z3V ha hk)
 clear ha
 refine z0d z13 1 rfl Tryd.func10 rfl rfl rfl ?_
 conv => arg 6; whnf
 repeat ((try conv => whnf); first | (with_reducible first | refine z08 (fun Qs hN hE hR => ?_) | refine z06 ?_ | refine z00 (fun Qb kN kE kX kR => ?_) | refine z02 ?_ | refine z03 ?_ | refine z07 ?_ | refine z04 ?_ | refine z05 ?_ | (show W _ _ _ (.cond _ _ _) _ _; refine z01 rfl ?_) | (refine hN _ ?_; try clear hN hE hR Qs) | ((first | refine hE _ _ ?_ | refine hR _ ?_); try clear hN hE hR Qs) | ((first | refine kN _ ?_ | refine kE _ ?_ | refine kX _ _ rfl ?_ | refine kR _ ?_); try clear kN kE kX kR Qb)) | (refine stpQ ?_))
 refine z0A 0 ⟨[(4, .ref 1)], [(1, some (.row 1 (strE (z0o l))))], 2⟩ Nat (fun k => ⟨[(0, .str l), (4, .ref 1), (5, .int .i64 (frI (gK l k).2 k)), (6, .int .i64 (k : Int))], [(1, some (.row 1 (strE (gK l k).1)))], 2⟩) (fun k => k ≤ l.length + 1) (fun k => l.length + 1 - k) 0 (by omega) ?_ ?_ ?_
 ·(refine z0a (by rfl) ?_ ?_) <;> (repeat' (first | (exact eqA) | (refine And.intro ?_ ?_) | ((fail_if_success (with_reducible (show _ = _))); (show _ = _)))) <;> first | rfl | decide | exact (st0 l).symm | exact (st0 l) | exact (st1 l).symm | exact (st1 l) | exact (st2 l).symm | exact (st2 l)
 ·clear hB hpl
  intro k hk
  by_cases hke : k = l.length + 1
  ·subst hke
   have f1 : ¬ ((l.length + 1 : Nat) : Int) ≤ (l.length : Int) := by omega
   rw [z8Y]
   repeat ((try conv => whnf); first | (with_reducible first | refine z08 (fun Qs hN hE hR => ?_) | refine z06 ?_ | refine z00 (fun Qb kN kE kX kR => ?_) | refine z02 ?_ | refine z03 ?_ | refine z07 ?_ | refine z04 ?_ | refine z05 ?_ | (show W _ _ _ (.cond _ _ _) _ _; refine z01 rfl ?_) | (refine hN _ ?_; try clear hN hE hR Qs) | ((first | refine hE _ _ ?_ | refine hR _ ?_); try clear hN hE hR Qs) | ((first | refine kN _ ?_ | refine kE _ ?_ | refine kX _ _ rfl ?_ | refine kR _ ?_); try clear kN kE kX kR Qb)) | (refine z0c f1 ?_) | (refine stpQ ?_))
   (refine z0a (by rfl) ?_ ?_) <;> (repeat' (first | (exact eqA) | (refine And.intro ?_ ?_) | ((fail_if_success (with_reducible (show _ = _))); (show _ = _))))
  ·have hkn : k ≤ l.length := by omega
   have f1 : (k : Int) ≤ (l.length : Int) := by omega
   obtain ⟨h1, h2, h3⟩ := za3 hkn
   have hlo := z0h (gK l k).1
   clear hke
   by_cases h32 : k = l.length ∨ (l.getD k 0).toNat = 32
   ·have hn := z2U hkn h32
    by_cases hc : (gK l k).2 = []
    ·rw [if_pos hc] at hn
     rw [hc, z1a]
     clear h1 h2 h3
     by_cases hkl : k = l.length
     ·have f2 : (k : Int) = (l.length : Int) := by omega
      clear h32
      repeat ((try conv => whnf); first | (with_reducible first | refine z08 (fun Qs hN hE hR => ?_) | refine z06 ?_ | refine z00 (fun Qb kN kE kX kR => ?_) | refine z02 ?_ | refine z03 ?_ | refine z07 ?_ | refine z04 ?_ | refine z05 ?_ | (show W _ _ _ (.cond _ _ _) _ _; refine z01 rfl ?_) | (refine hN _ ?_; try clear hN hE hR Qs) | ((first | refine hE _ _ ?_ | refine hR _ ?_); try clear hN hE hR Qs) | ((first | refine kN _ ?_ | refine kE _ ?_ | refine kX _ _ rfl ?_ | refine kR _ ?_); try clear kN kE kX kR Qb)) | (refine z0b f1 ?_) | (refine z0b f2 ?_) | (refine stpQ ?_))
      refine ⟨k + 1, by omega, by omega, ?_⟩
      rw [hn, z1a]
      (refine z0a (by rfl) ?_ ?_) <;> (repeat' (first | (exact eqA) | (refine And.intro ?_ ?_) | ((fail_if_success (with_reducible (show _ = _))); (show _ = _))))
     ·have f2 : ¬ (k : Int) = (l.length : Int) := by omega
      have f4 : k < l.length := by omega
      have f3 : ((l.getD k 0).toNat : Int) = 32 := by have := h32.resolve_left hkl; omega
      clear h32 hkl
      repeat ((try conv => whnf); first | (with_reducible first | refine z08 (fun Qs hN hE hR => ?_) | refine z06 ?_ | refine z00 (fun Qb kN kE kX kR => ?_) | refine z02 ?_ | refine z03 ?_ | refine z07 ?_ | refine z04 ?_ | refine z05 ?_ | (show W _ _ _ (.cond _ _ _) _ _; refine z01 rfl ?_) | (refine hN _ ?_; try clear hN hE hR Qs) | ((first | refine hE _ _ ?_ | refine hR _ ?_); try clear hN hE hR Qs) | ((first | refine kN _ ?_ | refine kE _ ?_ | refine kX _ _ rfl ?_ | refine kR _ ?_); try clear kN kE kX kR Qb)) | (refine z0b f1 ?_) | (refine z0c f2 ?_) | (refine i_lt f4 ?_) | (refine z0b f3 ?_) | (refine stpQ ?_))
      refine ⟨k + 1, by omega, by omega, ?_⟩
      rw [hn, z1a]
      (refine z0a (by rfl) ?_ ?_) <;> (repeat' (first | (exact eqA) | (refine And.intro ?_ ?_) | ((fail_if_success (with_reducible (show _ = _))); (show _ = _))))
    ·rw [if_neg hc] at hn
     rw [z1W k hc]
     have hs := z2V (o := (gK l k).1) h3
     have hcl : 0 < (gK l k).2.length := List.length_pos_iff.2 hc
     have f5 : ((k - (gK l k).2.length : Nat) : Int) ≥ 0 := by omega
     have f6 : k - (gK l k).2.length ≤ k ∧ k ≤ l.length := ⟨by omega, hkn⟩
     clear h3 hcl hc
     generalize gK l k = x at *
     clear h2
     by_cases hkl : k = l.length
     ·have f2 : (k : Int) = (l.length : Int) := by omega
      clear h32
      repeat ((try conv => whnf); first | (with_reducible first | refine z08 (fun Qs hN hE hR => ?_) | refine z06 ?_ | refine z00 (fun Qb kN kE kX kR => ?_) | refine z02 ?_ | refine z03 ?_ | refine z07 ?_ | refine z04 ?_ | refine z05 ?_ | (show W _ _ _ (.cond _ _ _) _ _; refine z01 rfl ?_) | (refine hN _ ?_; try clear hN hE hR Qs) | ((first | refine hE _ _ ?_ | refine hR _ ?_); try clear hN hE hR Qs) | ((first | refine kN _ ?_ | refine kE _ ?_ | refine kX _ _ rfl ?_ | refine kR _ ?_); try clear kN kE kX kR Qb)) | (refine z0b f1 ?_) | (refine z0b f2 ?_) | (refine z0b f5 ?_) | (refine z3A f6 ?_) | (refine And.intro (by simp only [List.length_append, List.length_set, List.length_replicate]; omega) ?_) | (refine stpQ ?_))
      refine ⟨k + 1, by omega, by omega, ?_⟩
      rw [hn, z1a]
      (refine z0a (by rfl) ?_ ?_) <;> (repeat' (first | (exact eqA) | (refine And.intro ?_ ?_) | ((fail_if_success (with_reducible (show _ = _))); (show _ = _))))
      all_goals first | exact hs.symm | exact hs
     ·have f2 : ¬ (k : Int) = (l.length : Int) := by omega
      have f4 : k < l.length := by omega
      have f3 : ((l.getD k 0).toNat : Int) = 32 := by have := h32.resolve_left hkl; omega
      clear h32 hkl
      repeat ((try conv => whnf); first | (with_reducible first | refine z08 (fun Qs hN hE hR => ?_) | refine z06 ?_ | refine z00 (fun Qb kN kE kX kR => ?_) | refine z02 ?_ | refine z03 ?_ | refine z07 ?_ | refine z04 ?_ | refine z05 ?_ | (show W _ _ _ (.cond _ _ _) _ _; refine z01 rfl ?_) | (refine hN _ ?_; try clear hN hE hR Qs) | ((first | refine hE _ _ ?_ | refine hR _ ?_); try clear hN hE hR Qs) | ((first | refine kN _ ?_ | refine kE _ ?_ | refine kX _ _ rfl ?_ | refine kR _ ?_); try clear kN kE kX kR Qb)) | (refine z0b f1 ?_) | (refine z0c f2 ?_) | (refine i_lt f4 ?_) | (refine z0b f3 ?_) | (refine z0b f5 ?_) | (refine z3A f6 ?_) | (refine And.intro (by simp only [List.length_append, List.length_set, List.length_replicate]; omega) ?_) | (refine stpQ ?_))
      refine ⟨k + 1, by omega, by omega, ?_⟩
      rw [hn, z1a]
      (refine z0a (by rfl) ?_ ?_) <;> (repeat' (first | (exact eqA) | (refine And.intro ?_ ?_) | ((fail_if_success (with_reducible (show _ = _))); (show _ = _))))
      all_goals first | exact hs.symm | exact hs
   ·have f4 : k < l.length := by omega
    have f2 : ¬ (k : Int) = (l.length : Int) := by omega
    have h32' : ¬ (l.getD k 0).toNat = 32 := fun c => h32 (.inr c)
    have f3 : ¬ ((l.getD k 0).toNat : Int) = 32 := by omega
    have hin := hgood k f4
    have ci := c_in ((l.getD k 0).toNat : Int) 32 126
    rw [z8Z hin.1 hin.2] at ci
    have hn := z4J f4 h32'
    clear h32 h32' h3 h1 h2 hlo
    by_cases hc : (gK l k).2 = []
    ·have hf := z91 (b := l.getD k 0) (k := k)
     rw [hc] at hn
     rw [hc, z1a]
     repeat ((try conv => whnf); first | (with_reducible first | refine z08 (fun Qs hN hE hR => ?_) | refine z06 ?_ | refine z00 (fun Qb kN kE kX kR => ?_) | refine z02 ?_ | refine z03 ?_ | refine z07 ?_ | refine z04 ?_ | refine z05 ?_ | (show W _ _ _ (.cond _ _ _) _ _; refine z01 rfl ?_) | (refine hN _ ?_; try clear hN hE hR Qs) | ((first | refine hE _ _ ?_ | refine hR _ ?_); try clear hN hE hR Qs) | ((first | refine kN _ ?_ | refine kE _ ?_ | refine kX _ _ rfl ?_ | refine kR _ ?_); try clear kN kE kX kR Qb)) | (refine z0b f1 ?_) | (refine z0c f2 ?_) | (refine i_lt f4 ?_) | (refine z0c f3 ?_) | (refine ccA ([]) (ci) ?_) | (refine stpQ ?_))
     refine ⟨k + 1, by omega, by omega, ?_⟩
     rw [hn, hf]
     (refine z0a (by rfl) ?_ ?_) <;> (repeat' (first | (exact eqA) | (refine And.intro ?_ ?_) | ((fail_if_success (with_reducible (show _ = _))); (show _ = _))))
    ·rw [z1W k hc]
     have hf := z6O (b := l.getD k 0) (k := k) hc
     have f5 : ¬ ((k - (gK l k).2.length : Nat) : Int) < 0 := by omega
     repeat ((try conv => whnf); first | (with_reducible first | refine z08 (fun Qs hN hE hR => ?_) | refine z06 ?_ | refine z00 (fun Qb kN kE kX kR => ?_) | refine z02 ?_ | refine z03 ?_ | refine z07 ?_ | refine z04 ?_ | refine z05 ?_ | (show W _ _ _ (.cond _ _ _) _ _; refine z01 rfl ?_) | (refine hN _ ?_; try clear hN hE hR Qs) | ((first | refine hE _ _ ?_ | refine hR _ ?_); try clear hN hE hR Qs) | ((first | refine kN _ ?_ | refine kE _ ?_ | refine kX _ _ rfl ?_ | refine kR _ ?_); try clear kN kE kX kR Qb)) | (refine z0b f1 ?_) | (refine z0c f2 ?_) | (refine i_lt f4 ?_) | (refine z0c f3 ?_) | (refine z0c f5 ?_) | (refine ccA ([]) (ci) ?_) | (refine stpQ ?_))
     refine ⟨k + 1, by omega, by omega, ?_⟩
     rw [hn, hf]
     (refine z0a (by rfl) ?_ ?_) <;> (repeat' (first | (exact eqA) | (refine And.intro ?_ ?_) | ((fail_if_success (with_reducible (show _ = _))); (show _ = _))))
 ·have hpe := z0h (z0o l)
  by_cases h10 : (z0o l).length ≤ 10
  ·have e2 : z0v l = true := by rw [hB, decide_eq_true h10]
   have e1 : prt l = z0o l := by rw [prt, e2]; rfl
   clear hB hgood
   repeat ((try conv => whnf); first | (with_reducible first | refine z08 (fun Qs hN hE hR => ?_) | refine z06 ?_ | refine z00 (fun Qb kN kE kX kR => ?_) | refine z02 ?_ | refine z03 ?_ | refine z07 ?_ | refine z04 ?_ | refine z05 ?_ | (show W _ _ _ (.cond _ _ _) _ _; refine z01 rfl ?_) | (refine hN _ ?_; try clear hN hE hR Qs) | ((first | refine hE _ _ ?_ | refine hR _ ?_); try clear hN hE hR Qs) | ((first | refine kN _ ?_ | refine kE _ ?_ | refine kX _ _ rfl ?_ | refine kR _ ?_); try clear kN kE kX kR Qb)) | (refine stpQ ?_))
   (refine z09 (by rfl) ?_ ?_ (by rfl)) <;> (repeat' (first | (exact eqA) | (refine And.intro ?_ ?_) | ((fail_if_success (with_reducible (show _ = _))); (show _ = _)))) <;> first | rfl | decide | (rw [e1]; done) | (rw [e1]; rfl) | (rw [e2]; done)
  ·have e2 : z0v l = false := by rw [hB, decide_eq_false h10]
   have e1 : strE (prt l) = [] := by rw [prt, e2]; rfl
   clear hB hgood
   repeat ((try conv => whnf); first | (with_reducible first | refine z08 (fun Qs hN hE hR => ?_) | refine z06 ?_ | refine z00 (fun Qb kN kE kX kR => ?_) | refine z02 ?_ | refine z03 ?_ | refine z07 ?_ | refine z04 ?_ | refine z05 ?_ | (show W _ _ _ (.cond _ _ _) _ _; refine z01 rfl ?_) | (refine hN _ ?_; try clear hN hE hR Qs) | ((first | refine hE _ _ ?_ | refine hR _ ?_); try clear hN hE hR Qs) | ((first | refine kN _ ?_ | refine kE _ ?_ | refine kX _ _ rfl ?_ | refine kR _ ?_); try clear kN kE kX kR Qb)) | (refine stpQ ?_))
   (refine z09 (by rfl) ?_ ?_ (by rfl)) <;> (repeat' (first | (exact eqA) | (refine And.intro ?_ ?_) | ((fail_if_success (with_reducible (show _ = _))); (show _ = _)))) <;> first | rfl | decide | (rw [e1]; done) | (rw [e1]; rfl) | (rw [e2]; done)
end
end Go.Proofs.YtfgkjgfigjpkoaaDoor
namespace Go.Proofs.YtfgkjgfigjpkoaaDoor
set_option maxRecDepth 100000
set_option maxHeartbeats 4000000
set_option linter.unusedVariables false
set_option linter.unusedSimpArgs false
set_option linter.unusedSectionVars false
open Go.RowKit Pl
section
attribute [local irreducible] z0t z0u z0C AnsP LeP W
attribute [local irreducible] gK frI prF prS
theorem z4L (l : Bs) (hl : l.length ≤ 600) (j : Nat) (hj : j < l.length) (hb : okP (l.getD j 0) = false) (hp : ∀ i, i < j → okP (l.getD i 0) = true) : CT Tryd.prog 10 [] [.str l] (.tup [.ref 1, .bool (z0v l)]) [.row 1 (strE (prt l))] := by
 have hB : z0v l = false := by rw [z0v, z8z hj hb]; simp
 have hgood : ∀ k, k < j → 32 ≤ (l.getD k 0).toNat ∧ (l.getD k 0).toNat ≤ 126 := fun k hk => z6J (hp k hk)
 have ho := z8A hb
 unfold prt
 rw [hB]
 clear hp hb hB
 refine z0d z13 1 rfl Tryd.func10 rfl rfl rfl ?_
 conv => arg 6; whnf
 repeat ((try conv => whnf); first | (with_reducible first | refine z08 (fun Qs hN hE hR => ?_) | refine z06 ?_ | refine z00 (fun Qb kN kE kX kR => ?_) | refine z02 ?_ | refine z03 ?_ | refine z07 ?_ | refine z04 ?_ | refine z05 ?_ | (show W _ _ _ (.cond _ _ _) _ _; refine z01 rfl ?_) | (refine hN _ ?_; try clear hN hE hR Qs) | ((first | refine hE _ _ ?_ | refine hR _ ?_); try clear hN hE hR Qs) | ((first | refine kN _ ?_ | refine kE _ ?_ | refine kX _ _ rfl ?_ | refine kR _ ?_); try clear kN kE kX kR Qb)) | (refine stpQ ?_))
 refine z0p Nat (fun k => ⟨[(0, .str l), (4, .ref 1), (5, .int .i64 (frI (gK l k).2 k)), (6, .int .i64 (k : Int))], [(1, some (.row 1 (strE (gK l k).1)))], 2⟩) (fun k => k ≤ j) (fun k => j - k) 0 (by omega) ?_ ?_
 ·(refine z0a (by rfl) ?_ ?_) <;> (repeat' (first | (exact eqA) | (refine And.intro ?_ ?_) | ((fail_if_success (with_reducible (show _ = _))); (show _ = _)))) <;> first | rfl | decide | exact (st0 l).symm | exact (st0 l) | exact (st1 l).symm | exact (st1 l) | exact (st2 l).symm | exact (st2 l)
 ·intro Q1 hQ1 k hk
  have hkn : k ≤ l.length := by omega
  have f1 : (k : Int) ≤ (l.length : Int) := by omega
  obtain ⟨h1, h2, h3⟩ := za3 hkn
  have hlo := z0h (gK l k).1
  by_cases hkj : k = j
  ·subst hkj
   have hbl := (l.getD k 0).toNat_lt
   have f2 : ¬ (k : Int) = (l.length : Int) := by omega
   have f3 : ¬ ((l.getD k 0).toNat : Int) = 32 := by omega
   have ci := c_in ((l.getD k 0).toNat : Int) 32 126
   rw [inB_no ho] at ci
   clear ho h1 h2 h3
   repeat ((try conv => whnf); first | (with_reducible first | refine z08 (fun Qs hN hE hR => ?_) | refine z06 ?_ | refine z00 (fun Qb kN kE kX kR => ?_) | refine z02 ?_ | refine z03 ?_ | refine z07 ?_ | refine z04 ?_ | refine z05 ?_ | (show W _ _ _ (.cond _ _ _) _ _; refine z01 rfl ?_) | (refine hN _ ?_; try clear hN hE hR Qs) | ((first | refine hE _ _ ?_ | refine hR _ ?_); try clear hN hE hR Qs) | ((first | refine kN _ ?_ | refine kE _ ?_ | refine kX _ _ rfl ?_ | refine kR _ ?_); try clear kN kE kX kR Qb)) | (refine z0b f1 ?_) | (refine z0c f2 ?_) | (refine i_lt hj ?_) | (refine z0c f3 ?_) | (refine ccA ([]) (ci) ?_) | (refine stpQ ?_))
   refine hQ1 _ _ ?_
   clear hQ1 Q1
   repeat ((try conv => whnf); first | (with_reducible first | refine z08 (fun Qs hN hE hR => ?_) | refine z06 ?_ | refine z00 (fun Qb kN kE kX kR => ?_) | refine z02 ?_ | refine z03 ?_ | refine z07 ?_ | refine z04 ?_ | refine z05 ?_ | (show W _ _ _ (.cond _ _ _) _ _; refine z01 rfl ?_) | (refine hN _ ?_; try clear hN hE hR Qs) | ((first | refine hE _ _ ?_ | refine hR _ ?_); try clear hN hE hR Qs) | ((first | refine kN _ ?_ | refine kE _ ?_ | refine kX _ _ rfl ?_ | refine kR _ ?_); try clear kN kE kX kR Qb)) | (refine stpQ ?_))
   (refine z09 (by rfl) ?_ ?_ (by rfl)) <;> (repeat' (first | (exact eqA) | (refine And.intro ?_ ?_) | ((fail_if_success (with_reducible (show _ = _))); (show _ = _)))) <;> first | rfl | decide
  ·clear ho
   have hkj2 : k < j := by omega
   clear hkj hk
   by_cases h32 : k = l.length ∨ (l.getD k 0).toNat = 32
   ·have hn := z2U hkn h32
    by_cases hc : (gK l k).2 = []
    ·rw [if_pos hc] at hn
     rw [hc, z1a]
     clear h1 h2 h3
     by_cases hkl : k = l.length
     ·have f2 : (k : Int) = (l.length : Int) := by omega
      clear h32
      repeat ((try conv => whnf); first | (with_reducible first | refine z08 (fun Qs hN hE hR => ?_) | refine z06 ?_ | refine z00 (fun Qb kN kE kX kR => ?_) | refine z02 ?_ | refine z03 ?_ | refine z07 ?_ | refine z04 ?_ | refine z05 ?_ | (show W _ _ _ (.cond _ _ _) _ _; refine z01 rfl ?_) | (refine hN _ ?_; try clear hN hE hR Qs) | ((first | refine hE _ _ ?_ | refine hR _ ?_); try clear hN hE hR Qs) | ((first | refine kN _ ?_ | refine kE _ ?_ | refine kX _ _ rfl ?_ | refine kR _ ?_); try clear kN kE kX kR Qb)) | (refine z0b f1 ?_) | (refine z0b f2 ?_) | (refine stpQ ?_))
      refine ⟨k + 1, by omega, by omega, ?_⟩
      rw [hn, z1a]
      (refine z0a (by rfl) ?_ ?_) <;> (repeat' (first | (exact eqA) | (refine And.intro ?_ ?_) | ((fail_if_success (with_reducible (show _ = _))); (show _ = _))))
     ·have f2 : ¬ (k : Int) = (l.length : Int) := by omega
      have f4 : k < l.length := by omega
      have f3 : ((l.getD k 0).toNat : Int) = 32 := by have := h32.resolve_left hkl; omega
      clear h32 hkl
      repeat ((try conv => whnf); first | (with_reducible first | refine z08 (fun Qs hN hE hR => ?_) | refine z06 ?_ | refine z00 (fun Qb kN kE kX kR => ?_) | refine z02 ?_ | refine z03 ?_ | refine z07 ?_ | refine z04 ?_ | refine z05 ?_ | (show W _ _ _ (.cond _ _ _) _ _; refine z01 rfl ?_) | (refine hN _ ?_; try clear hN hE hR Qs) | ((first | refine hE _ _ ?_ | refine hR _ ?_); try clear hN hE hR Qs) | ((first | refine kN _ ?_ | refine kE _ ?_ | refine kX _ _ rfl ?_ | refine kR _ ?_); try clear kN kE kX kR Qb)) | (refine z0b f1 ?_) | (refine z0c f2 ?_) | (refine i_lt f4 ?_) | (refine z0b f3 ?_) | (refine stpQ ?_))
      refine ⟨k + 1, by omega, by omega, ?_⟩
      rw [hn, z1a]
      (refine z0a (by rfl) ?_ ?_) <;> (repeat' (first | (exact eqA) | (refine And.intro ?_ ?_) | ((fail_if_success (with_reducible (show _ = _))); (show _ = _))))
    ·rw [if_neg hc] at hn
     rw [z1W k hc]
     have hs := z2V (o := (gK l k).1) h3
     have hcl : 0 < (gK l k).2.length := List.length_pos_iff.2 hc
     have f5 : ((k - (gK l k).2.length : Nat) : Int) ≥ 0 := by omega
     have f6 : k - (gK l k).2.length ≤ k ∧ k ≤ l.length := ⟨by omega, hkn⟩
     clear h3 hcl hc
     generalize gK l k = x at *
     clear h2
     by_cases hkl : k = l.length
     ·have f2 : (k : Int) = (l.length : Int) := by omega
      clear h32
      repeat ((try conv => whnf); first | (with_reducible first | refine z08 (fun Qs hN hE hR => ?_) | refine z06 ?_ | refine z00 (fun Qb kN kE kX kR => ?_) | refine z02 ?_ | refine z03 ?_ | refine z07 ?_ | refine z04 ?_ | refine z05 ?_ | (show W _ _ _ (.cond _ _ _) _ _; refine z01 rfl ?_) | (refine hN _ ?_; try clear hN hE hR Qs) | ((first | refine hE _ _ ?_ | refine hR _ ?_); try clear hN hE hR Qs) | ((first | refine kN _ ?_ | refine kE _ ?_ | refine kX _ _ rfl ?_ | refine kR _ ?_); try clear kN kE kX kR Qb)) | (refine z0b f1 ?_) | (refine z0b f2 ?_) | (refine z0b f5 ?_) | (refine z3A f6 ?_) | (refine And.intro (by simp only [List.length_append, List.length_set, List.length_replicate]; omega) ?_) | (refine stpQ ?_))
      refine ⟨k + 1, by omega, by omega, ?_⟩
      rw [hn, z1a]
      (refine z0a (by rfl) ?_ ?_) <;> (repeat' (first | (exact eqA) | (refine And.intro ?_ ?_) | ((fail_if_success (with_reducible (show _ = _))); (show _ = _))))
      all_goals first | exact hs.symm | exact hs
     ·have f2 : ¬ (k : Int) = (l.length : Int) := by omega
      have f4 : k < l.length := by omega
      have f3 : ((l.getD k 0).toNat : Int) = 32 := by have := h32.resolve_left hkl; omega
      clear h32 hkl
      repeat ((try conv => whnf); first | (with_reducible first | refine z08 (fun Qs hN hE hR => ?_) | refine z06 ?_ | refine z00 (fun Qb kN kE kX kR => ?_) | refine z02 ?_ | refine z03 ?_ | refine z07 ?_ | refine z04 ?_ | refine z05 ?_ | (show W _ _ _ (.cond _ _ _) _ _; refine z01 rfl ?_) | (refine hN _ ?_; try clear hN hE hR Qs) | ((first | refine hE _ _ ?_ | refine hR _ ?_); try clear hN hE hR Qs) | ((first | refine kN _ ?_ | refine kE _ ?_ | refine kX _ _ rfl ?_ | refine kR _ ?_); try clear kN kE kX kR Qb)) | (refine z0b f1 ?_) | (refine z0c f2 ?_) | (refine i_lt f4 ?_) | (refine z0b f3 ?_) | (refine z0b f5 ?_) | (refine z3A f6 ?_) | (refine And.intro (by simp only [List.length_append, List.length_set, List.length_replicate]; omega) ?_) | (refine stpQ ?_))
      refine ⟨k + 1, by omega, by omega, ?_⟩
      rw [hn, z1a]
      (refine z0a (by rfl) ?_ ?_) <;> (repeat' (first | (exact eqA) | (refine And.intro ?_ ?_) | ((fail_if_success (with_reducible (show _ = _))); (show _ = _))))
      all_goals first | exact hs.symm | exact hs
   ·have f4 : k < l.length := by omega
    have f2 : ¬ (k : Int) = (l.length : Int) := by omega
    have h32' : ¬ (l.getD k 0).toNat = 32 := fun c => h32 (.inr c)
    have f3 : ¬ ((l.getD k 0).toNat : Int) = 32 := by omega
    have hin := hgood k (by omega)
    have ci := c_in ((l.getD k 0).toNat : Int) 32 126
    rw [z8Z hin.1 hin.2] at ci
    have hn := z4J f4 h32'
    clear h32 h32' h3 h1 h2 hlo
    by_cases hc : (gK l k).2 = []
    ·have hf := z91 (b := l.getD k 0) (k := k)
     rw [hc] at hn
     rw [hc, z1a]
     repeat ((try conv => whnf); first | (with_reducible first | refine z08 (fun Qs hN hE hR => ?_) | refine z06 ?_ | refine z00 (fun Qb kN kE kX kR => ?_) | refine z02 ?_ | refine z03 ?_ | refine z07 ?_ | refine z04 ?_ | refine z05 ?_ | (show W _ _ _ (.cond _ _ _) _ _; refine z01 rfl ?_) | (refine hN _ ?_; try clear hN hE hR Qs) | ((first | refine hE _ _ ?_ | refine hR _ ?_); try clear hN hE hR Qs) | ((first | refine kN _ ?_ | refine kE _ ?_ | refine kX _ _ rfl ?_ | refine kR _ ?_); try clear kN kE kX kR Qb)) | (refine z0b f1 ?_) | (refine z0c f2 ?_) | (refine i_lt f4 ?_) | (refine z0c f3 ?_) | (refine ccA ([]) (ci) ?_) | (refine stpQ ?_))
     refine ⟨k + 1, by omega, by omega, ?_⟩
     rw [hn, hf]
     (refine z0a (by rfl) ?_ ?_) <;> (repeat' (first | (exact eqA) | (refine And.intro ?_ ?_) | ((fail_if_success (with_reducible (show _ = _))); (show _ = _))))
    ·rw [z1W k hc]
     have hf := z6O (b := l.getD k 0) (k := k) hc
     have f5 : ¬ ((k - (gK l k).2.length : Nat) : Int) < 0 := by omega
     repeat ((try conv => whnf); first | (with_reducible first | refine z08 (fun Qs hN hE hR => ?_) | refine z06 ?_ | refine z00 (fun Qb kN kE kX kR => ?_) | refine z02 ?_ | refine z03 ?_ | refine z07 ?_ | refine z04 ?_ | refine z05 ?_ | (show W _ _ _ (.cond _ _ _) _ _; refine z01 rfl ?_) | (refine hN _ ?_; try clear hN hE hR Qs) | ((first | refine hE _ _ ?_ | refine hR _ ?_); try clear hN hE hR Qs) | ((first | refine kN _ ?_ | refine kE _ ?_ | refine kX _ _ rfl ?_ | refine kR _ ?_); try clear kN kE kX kR Qb)) | (refine z0b f1 ?_) | (refine z0c f2 ?_) | (refine i_lt f4 ?_) | (refine z0c f3 ?_) | (refine z0c f5 ?_) | (refine ccA ([]) (ci) ?_) | (refine stpQ ?_))
     refine ⟨k + 1, by omega, by omega, ?_⟩
     rw [hn, hf]
     (refine z0a (by rfl) ?_ ?_) <;> (repeat' (first | (exact eqA) | (refine And.intro ?_ ?_) | ((fail_if_success (with_reducible (show _ = _))); (show _ = _))))
theorem z3C (l : Bs) (hl : ¬ l.length ≤ 600) : CT Tryd.prog 10 [] [.str l] (.tup [.ref 1, .bool (z0v l)]) [.row 1 (strE (prt l))] := by
 have hB : z0v l = false := by rw [z0v, decide_eq_false hl]; rfl
 unfold prt
 rw [hB]
 refine z0d z13 1 rfl Tryd.func10 rfl rfl rfl ?_
 conv => arg 6; whnf
 repeat ((try conv => whnf); first | (with_reducible first | refine z08 (fun Qs hN hE hR => ?_) | refine z06 ?_ | refine z00 (fun Qb kN kE kX kR => ?_) | refine z02 ?_ | refine z03 ?_ | refine z07 ?_ | refine z04 ?_ | refine z05 ?_ | (show W _ _ _ (.cond _ _ _) _ _; refine z01 rfl ?_) | (refine hN _ ?_; try clear hN hE hR Qs) | ((first | refine hE _ _ ?_ | refine hR _ ?_); try clear hN hE hR Qs) | ((first | refine kN _ ?_ | refine kE _ ?_ | refine kX _ _ rfl ?_ | refine kR _ ?_); try clear kN kE kX kR Qb)) | (refine stpQ ?_))
 (refine z09 (by rfl) ?_ ?_ (by rfl)) <;> (repeat' (first | (exact eqA) | (refine And.intro ?_ ?_) | ((fail_if_success (with_reducible (show _ = _))); (show _ = _)))) <;> first | rfl | decide
end
end Go.Proofs.YtfgkjgfigjpkoaaDoor
namespace Go.Proofs.YtfgkjgfigjpkoaaDoor
set_option linter.unusedVariables false
set_option linter.unusedSimpArgs false
set_option linter.unusedSectionVars false
open Go.RowKit Pl
section
attribute [local irreducible] z0t z0u z0C AnsP LeP W
attribute [local irreducible] gK frI prF prS
set_option maxRecDepth 100000 in
set_option maxHeartbeats 4000000 in
theorem z3D (l : Bs) (hl : l.length ≤ 600) (ha : l.all okP = true) : CT Tryd.prog 16 [] [.str l] (.tup [.ref 1, .bool (z0v l)]) [.row 1 (strE (prt l))] := by
 have hpl := z3o l
 have hB : z0v l = decide ((z0o l).length ≤ 10) := by rw [z0v, ha, decide_eq_true hl]; rfl
 have hgood : ∀ k, k < l.length → 32 ≤ (l.getD k 0).toNat ∧ (l.getD k 0).toNat ≤ 126 := fun k hk => z6J (z3V ha hk)
 clear ha
 refine z0d z13 1 rfl Tryd.func16 rfl rfl rfl ?_
 conv => arg 6; whnf
 repeat ((try conv => whnf); first | (with_reducible first | refine z08 (fun Qs hN hE hR => ?_) | refine z06 ?_ | refine z00 (fun Qb kN kE kX kR => ?_) | refine z02 ?_ | refine z03 ?_ | refine z07 ?_ | refine z04 ?_ | refine z05 ?_ | (show W _ _ _ (.cond _ _ _) _ _; refine z01 rfl ?_) | (refine hN _ ?_; try clear hN hE hR Qs) | ((first | refine hE _ _ ?_ | refine hR _ ?_); try clear hN hE hR Qs) | ((first | refine kN _ ?_ | refine kE _ ?_ | refine kX _ _ rfl ?_ | refine kR _ ?_); try clear kN kE kX kR Qb)) | (refine stpQ ?_))
 refine z0A 0 ⟨[(4, .ref 1)], [(1, some (.row 1 (strE (z0o l))))], 2⟩ Nat (fun k => ⟨[(0, .str l), (4, .ref 1), (5, .int .i64 ((k - (gK l k).2.length : Nat) : Int)), (6, .int .i64 (k : Int))], [(1, some (.row 1 (strE (gK l k).1)))], 2⟩) (fun k => k ≤ l.length + 1) (fun k => l.length + 1 - k) 0 (by omega) ?_ ?_ ?_
 ·(refine z0a (by rfl) ?_ ?_) <;> (repeat' (first | (exact eqA) | (refine And.intro ?_ ?_) | ((fail_if_success (with_reducible (show _ = _))); (show _ = _)))) <;> first | rfl | decide | exact (st0 l).symm | exact (st0 l) | exact (st1 l).symm | exact (st1 l) | exact (st2 l).symm | exact (st2 l)
 ·clear hB hpl
  intro k hk
  by_cases hke : k = l.length + 1
  ·subst hke
   have f1 : ¬ ((l.length + 1 : Nat) : Int) ≤ (l.length : Int) := by omega
   rw [z8Y]
   repeat ((try conv => whnf); first | (with_reducible first | refine z08 (fun Qs hN hE hR => ?_) | refine z06 ?_ | refine z00 (fun Qb kN kE kX kR => ?_) | refine z02 ?_ | refine z03 ?_ | refine z07 ?_ | refine z04 ?_ | refine z05 ?_ | (show W _ _ _ (.cond _ _ _) _ _; refine z01 rfl ?_) | (refine hN _ ?_; try clear hN hE hR Qs) | ((first | refine hE _ _ ?_ | refine hR _ ?_); try clear hN hE hR Qs) | ((first | refine kN _ ?_ | refine kE _ ?_ | refine kX _ _ rfl ?_ | refine kR _ ?_); try clear kN kE kX kR Qb)) | (refine z0c f1 ?_) | (refine stpQ ?_))
   (refine z0a (by rfl) ?_ ?_) <;> (repeat' (first | (exact eqA) | (refine And.intro ?_ ?_) | ((fail_if_success (with_reducible (show _ = _))); (show _ = _)))) <;> first | rfl | exact hs.symm | exact hs
  ·have hkn : k ≤ l.length := by omega
   have f1 : (k : Int) ≤ (l.length : Int) := by omega
   obtain ⟨h1, h2, h3⟩ := za3 hkn
   have hlo := z0h (gK l k).1
   clear hke
   by_cases h32 : k = l.length ∨ (l.getD k 0).toNat = 32
   ·have hn := z2U hkn h32
    by_cases hc : (gK l k).2 = []
    ·rw [if_pos hc] at hn
     rw [hc]
     have f5 : ¬ ((k - ([] : Bs).length : Nat) : Int) < (k : Int) := by simp
     clear h1 h2 h3
     by_cases hkl : k = l.length
     ·have f2 : ¬ (k : Int) < (l.length : Int) := by omega
      clear h32
      repeat ((try conv => whnf); first | (with_reducible first | refine z08 (fun Qs hN hE hR => ?_) | refine z06 ?_ | refine z00 (fun Qb kN kE kX kR => ?_) | refine z02 ?_ | refine z03 ?_ | refine z07 ?_ | refine z04 ?_ | refine z05 ?_ | (show W _ _ _ (.cond _ _ _) _ _; refine z01 rfl ?_) | (refine hN _ ?_; try clear hN hE hR Qs) | ((first | refine hE _ _ ?_ | refine hR _ ?_); try clear hN hE hR Qs) | ((first | refine kN _ ?_ | refine kE _ ?_ | refine kX _ _ rfl ?_ | refine kR _ ?_); try clear kN kE kX kR Qb)) | (refine z0b f1 ?_) | (refine z0c f2 ?_) | (refine z0c f5 ?_) | (refine stpQ ?_))
      refine ⟨k + 1, by omega, by omega, ?_⟩
      rw [hn]
      (refine z0a (by rfl) ?_ ?_) <;> (repeat' (first | (exact eqA) | (refine And.intro ?_ ?_) | ((fail_if_success (with_reducible (show _ = _))); (show _ = _)))) <;> first | rfl | exact hs.symm | exact hs
     ·have f2 : (k : Int) < (l.length : Int) := by omega
      have f4 : k < l.length := by omega
      have f3 : ((l.getD k 0).toNat : Int) = 32 := by have := h32.resolve_left hkl; omega
      have g1 : ¬ ((l.getD k 0).toNat : Int) < 32 := by omega
      have g2 : ¬ ((l.getD k 0).toNat : Int) > 126 := by omega
      clear h32 hkl
      repeat ((try conv => whnf); first | (with_reducible first | refine z08 (fun Qs hN hE hR => ?_) | refine z06 ?_ | refine z00 (fun Qb kN kE kX kR => ?_) | refine z02 ?_ | refine z03 ?_ | refine z07 ?_ | refine z04 ?_ | refine z05 ?_ | (show W _ _ _ (.cond _ _ _) _ _; refine z01 rfl ?_) | (refine hN _ ?_; try clear hN hE hR Qs) | ((first | refine hE _ _ ?_ | refine hR _ ?_); try clear hN hE hR Qs) | ((first | refine kN _ ?_ | refine kE _ ?_ | refine kX _ _ rfl ?_ | refine kR _ ?_); try clear kN kE kX kR Qb)) | (refine z0b f1 ?_) | (refine z0b f2 ?_) | (refine i_lt f4 ?_) | (refine z0c g1 ?_) | (refine z0c g2 ?_) | (refine z0j f3 ?_) | (refine z0c f5 ?_) | (refine stpQ ?_))
      refine ⟨k + 1, by omega, by omega, ?_⟩
      rw [hn]
      (refine z0a (by rfl) ?_ ?_) <;> (repeat' (first | (exact eqA) | (refine And.intro ?_ ?_) | ((fail_if_success (with_reducible (show _ = _))); (show _ = _)))) <;> first | rfl | exact hs.symm | exact hs
    ·rw [if_neg hc] at hn
     have hs := z2V (o := (gK l k).1) h3
     have hcl : 0 < (gK l k).2.length := List.length_pos_iff.2 hc
     have f5 : ((k - (gK l k).2.length : Nat) : Int) < (k : Int) := by omega
     have f6 : k - (gK l k).2.length ≤ k ∧ k ≤ l.length := ⟨by omega, hkn⟩
     clear h3 hcl hc
     generalize gK l k = x at *
     clear h2
     by_cases hkl : k = l.length
     ·have f2 : ¬ (k : Int) < (l.length : Int) := by omega
      clear h32
      repeat ((try conv => whnf); first | (with_reducible first | refine z08 (fun Qs hN hE hR => ?_) | refine z06 ?_ | refine z00 (fun Qb kN kE kX kR => ?_) | refine z02 ?_ | refine z03 ?_ | refine z07 ?_ | refine z04 ?_ | refine z05 ?_ | (show W _ _ _ (.cond _ _ _) _ _; refine z01 rfl ?_) | (refine hN _ ?_; try clear hN hE hR Qs) | ((first | refine hE _ _ ?_ | refine hR _ ?_); try clear hN hE hR Qs) | ((first | refine kN _ ?_ | refine kE _ ?_ | refine kX _ _ rfl ?_ | refine kR _ ?_); try clear kN kE kX kR Qb)) | (refine z0b f1 ?_) | (refine z0c f2 ?_) | (refine z0b f5 ?_) | (refine z3A f6 ?_) | (refine And.intro (by simp only [List.length_append, List.length_set, List.length_replicate]; omega) ?_) | (refine stpQ ?_))
      refine ⟨k + 1, by omega, by omega, ?_⟩
      rw [hn]
      (refine z0a (by rfl) ?_ ?_) <;> (repeat' (first | (exact eqA) | (refine And.intro ?_ ?_) | ((fail_if_success (with_reducible (show _ = _))); (show _ = _)))) <;> first | rfl | exact hs.symm | exact hs
     ·have f2 : (k : Int) < (l.length : Int) := by omega
      have f4 : k < l.length := by omega
      have f3 : ((l.getD k 0).toNat : Int) = 32 := by have := h32.resolve_left hkl; omega
      have g1 : ¬ ((l.getD k 0).toNat : Int) < 32 := by omega
      have g2 : ¬ ((l.getD k 0).toNat : Int) > 126 := by omega
      clear h32 hkl
      repeat ((try conv => whnf); first | (with_reducible first | refine z08 (fun Qs hN hE hR => ?_) | refine z06 ?_ | refine z00 (fun Qb kN kE kX kR => ?_) | refine z02 ?_ | refine z03 ?_ | refine z07 ?_ | refine z04 ?_ | refine z05 ?_ | (show W _ _ _ (.cond _ _ _) _ _; refine z01 rfl ?_) | (refine hN _ ?_; try clear hN hE hR Qs) | ((first | refine hE _ _ ?_ | refine hR _ ?_); try clear hN hE hR Qs) | ((first | refine kN _ ?_ | refine kE _ ?_ | refine kX _ _ rfl ?_ | refine kR _ ?_); try clear kN kE kX kR Qb)) | (refine z0b f1 ?_) | (refine z0b f2 ?_) | (refine i_lt f4 ?_) | (refine z0c g1 ?_) | (refine z0c g2 ?_) | (refine z0j f3 ?_) | (refine z0b f5 ?_) | (refine z3A f6 ?_) | (refine And.intro (by simp only [List.length_append, List.length_set, List.length_replicate]; omega) ?_) | (refine stpQ ?_))
      refine ⟨k + 1, by omega, by omega, ?_⟩
      rw [hn]
      (refine z0a (by rfl) ?_ ?_) <;> (repeat' (first | (exact eqA) | (refine And.intro ?_ ?_) | ((fail_if_success (with_reducible (show _ = _))); (show _ = _)))) <;> first | rfl | exact hs.symm | exact hs
   ·have f4 : k < l.length := by omega
    have f2 : (k : Int) < (l.length : Int) := by omega
    have h32' : ¬ (l.getD k 0).toNat = 32 := fun c => h32 (.inr c)
    have f3 : ¬ ((l.getD k 0).toNat : Int) = 32 := by omega
    have hin := hgood k f4
    have g1 : ¬ ((l.getD k 0).toNat : Int) < 32 := by omega
    have g2 : ¬ ((l.getD k 0).toNat : Int) > 126 := by omega
    have hn := z4J f4 h32'
    have hf : k + 1 - ((gK l k).2 ++ [l.getD k 0]).length = k - (gK l k).2.length := by rw [List.length_append, List.length_singleton]; omega
    clear h32 h32' h3 h1 h2 hlo
    repeat ((try conv => whnf); first | (with_reducible first | refine z08 (fun Qs hN hE hR => ?_) | refine z06 ?_ | refine z00 (fun Qb kN kE kX kR => ?_) | refine z02 ?_ | refine z03 ?_ | refine z07 ?_ | refine z04 ?_ | refine z05 ?_ | (show W _ _ _ (.cond _ _ _) _ _; refine z01 rfl ?_) | (refine hN _ ?_; try clear hN hE hR Qs) | ((first | refine hE _ _ ?_ | refine hR _ ?_); try clear hN hE hR Qs) | ((first | refine kN _ ?_ | refine kE _ ?_ | refine kX _ _ rfl ?_ | refine kR _ ?_); try clear kN kE kX kR Qb)) | (refine z0b f1 ?_) | (refine z0b f2 ?_) | (refine i_lt f4 ?_) | (refine z0c g1 ?_) | (refine z0c g2 ?_) | (refine z0r f3 ?_) | (refine stpQ ?_))
    refine ⟨k + 1, by omega, by omega, ?_⟩
    rw [hn, hf]
    (refine z0a (by rfl) ?_ ?_) <;> (repeat' (first | (exact eqA) | (refine And.intro ?_ ?_) | ((fail_if_success (with_reducible (show _ = _))); (show _ = _)))) <;> first | rfl | exact hs.symm | exact hs
 ·have hpe := z0h (z0o l)
  by_cases h10 : (z0o l).length ≤ 10
  ·have e2 : z0v l = true := by rw [hB, decide_eq_true h10]
   have e1 : prt l = z0o l := by rw [prt, e2]; rfl
   clear hB hgood
   repeat ((try conv => whnf); first | (with_reducible first | refine z08 (fun Qs hN hE hR => ?_) | refine z06 ?_ | refine z00 (fun Qb kN kE kX kR => ?_) | refine z02 ?_ | refine z03 ?_ | refine z07 ?_ | refine z04 ?_ | refine z05 ?_ | (show W _ _ _ (.cond _ _ _) _ _; refine z01 rfl ?_) | (refine hN _ ?_; try clear hN hE hR Qs) | ((first | refine hE _ _ ?_ | refine hR _ ?_); try clear hN hE hR Qs) | ((first | refine kN _ ?_ | refine kE _ ?_ | refine kX _ _ rfl ?_ | refine kR _ ?_); try clear kN kE kX kR Qb)) | (refine stpQ ?_))
   (refine z09 (by rfl) ?_ ?_ (by rfl)) <;> (repeat' (first | (exact eqA) | (refine And.intro ?_ ?_) | ((fail_if_success (with_reducible (show _ = _))); (show _ = _)))) <;> first | rfl | decide | (rw [e1]; done) | (rw [e1]; rfl) | (rw [e2]; done)
  ·have e2 : z0v l = false := by rw [hB, decide_eq_false h10]
   have e1 : strE (prt l) = [] := by rw [prt, e2]; rfl
   clear hB hgood
   repeat ((try conv => whnf); first | (with_reducible first | refine z08 (fun Qs hN hE hR => ?_) | refine z06 ?_ | refine z00 (fun Qb kN kE kX kR => ?_) | refine z02 ?_ | refine z03 ?_ | refine z07 ?_ | refine z04 ?_ | refine z05 ?_ | (show W _ _ _ (.cond _ _ _) _ _; refine z01 rfl ?_) | (refine hN _ ?_; try clear hN hE hR Qs) | ((first | refine hE _ _ ?_ | refine hR _ ?_); try clear hN hE hR Qs) | ((first | refine kN _ ?_ | refine kE _ ?_ | refine kX _ _ rfl ?_ | refine kR _ ?_); try clear kN kE kX kR Qb)) | (refine stpQ ?_))
   (refine z09 (by rfl) ?_ ?_ (by rfl)) <;> (repeat' (first | (exact eqA) | (refine And.intro ?_ ?_) | ((fail_if_success (with_reducible (show _ = _))); (show _ = _)))) <;> first | rfl | decide | (rw [e1]; done) | (rw [e1]; rfl) | (rw [e2]; done)
end
end Go.Proofs.YtfgkjgfigjpkoaaDoor
namespace Go.Proofs.YtfgkjgfigjpkoaaDoor
set_option maxRecDepth 100000
set_option maxHeartbeats 4000000
set_option linter.unusedVariables false
set_option linter.unusedSimpArgs false
set_option linter.unusedSectionVars false
open Go.RowKit Pl
section
attribute [local irreducible] z0t z0u z0C AnsP LeP W
attribute [local irreducible] gK frI prF prS
theorem z3E (l : Bs) (hl : l.length ≤ 600) (j : Nat) (hj : j < l.length) (hb : okP (l.getD j 0) = false) (hp : ∀ i, i < j → okP (l.getD i 0) = true) : CT Tryd.prog 16 [] [.str l] (.tup [.ref 1, .bool (z0v l)]) [.row 1 (strE (prt l))] := by
 have hB : z0v l = false := by rw [z0v, z8z hj hb]; simp
 have hgood : ∀ k, k < j → 32 ≤ (l.getD k 0).toNat ∧ (l.getD k 0).toNat ≤ 126 := fun k hk => z6J (hp k hk)
 have ho := z8A hb
 unfold prt
 rw [hB]
 clear hp hb hB
 refine z0d z13 1 rfl Tryd.func16 rfl rfl rfl ?_
 conv => arg 6; whnf
 repeat ((try conv => whnf); first | (with_reducible first | refine z08 (fun Qs hN hE hR => ?_) | refine z06 ?_ | refine z00 (fun Qb kN kE kX kR => ?_) | refine z02 ?_ | refine z03 ?_ | refine z07 ?_ | refine z04 ?_ | refine z05 ?_ | (show W _ _ _ (.cond _ _ _) _ _; refine z01 rfl ?_) | (refine hN _ ?_; try clear hN hE hR Qs) | ((first | refine hE _ _ ?_ | refine hR _ ?_); try clear hN hE hR Qs) | ((first | refine kN _ ?_ | refine kE _ ?_ | refine kX _ _ rfl ?_ | refine kR _ ?_); try clear kN kE kX kR Qb)) | (refine stpQ ?_))
 refine z0p Nat (fun k => ⟨[(0, .str l), (4, .ref 1), (5, .int .i64 ((k - (gK l k).2.length : Nat) : Int)), (6, .int .i64 (k : Int))], [(1, some (.row 1 (strE (gK l k).1)))], 2⟩) (fun k => k ≤ j) (fun k => j - k) 0 (by omega) ?_ ?_
 ·(refine z0a (by rfl) ?_ ?_) <;> (repeat' (first | (exact eqA) | (refine And.intro ?_ ?_) | ((fail_if_success (with_reducible (show _ = _))); (show _ = _)))) <;> first | rfl | decide | exact (st0 l).symm | exact (st0 l) | exact (st1 l).symm | exact (st1 l) | exact (st2 l).symm | exact (st2 l)
 ·intro Q1 hQ1 k hk
  have hkn : k ≤ l.length := by omega
  have f1 : (k : Int) ≤ (l.length : Int) := by omega
  obtain ⟨h1, h2, h3⟩ := za3 hkn
  have hlo := z0h (gK l k).1
  by_cases hkj : k = j
  ·subst hkj
   have hbl := (l.getD k 0).toNat_lt
   have f2 : (k : Int) < (l.length : Int) := by omega
   clear h1 h2 h3
   rcases ho with ho | ho
   ·have g1 : ((l.getD k 0).toNat : Int) < 32 := by omega
    clear ho
    repeat ((try conv => whnf); first | (with_reducible first | refine z08 (fun Qs hN hE hR => ?_) | refine z06 ?_ | refine z00 (fun Qb kN kE kX kR => ?_) | refine z02 ?_ | refine z03 ?_ | refine z07 ?_ | refine z04 ?_ | refine z05 ?_ | (show W _ _ _ (.cond _ _ _) _ _; refine z01 rfl ?_) | (refine hN _ ?_; try clear hN hE hR Qs) | ((first | refine hE _ _ ?_ | refine hR _ ?_); try clear hN hE hR Qs) | ((first | refine kN _ ?_ | refine kE _ ?_ | refine kX _ _ rfl ?_ | refine kR _ ?_); try clear kN kE kX kR Qb)) | (refine z0b f1 ?_) | (refine z0b f2 ?_) | (refine i_lt hj ?_) | (refine z0b g1 ?_) | (refine stpQ ?_))
    refine hQ1 _ _ ?_
    clear hQ1 Q1
    repeat ((try conv => whnf); first | (with_reducible first | refine z08 (fun Qs hN hE hR => ?_) | refine z06 ?_ | refine z00 (fun Qb kN kE kX kR => ?_) | refine z02 ?_ | refine z03 ?_ | refine z07 ?_ | refine z04 ?_ | refine z05 ?_ | (show W _ _ _ (.cond _ _ _) _ _; refine z01 rfl ?_) | (refine hN _ ?_; try clear hN hE hR Qs) | ((first | refine hE _ _ ?_ | refine hR _ ?_); try clear hN hE hR Qs) | ((first | refine kN _ ?_ | refine kE _ ?_ | refine kX _ _ rfl ?_ | refine kR _ ?_); try clear kN kE kX kR Qb)) | (refine stpQ ?_))
    (refine z09 (by rfl) ?_ ?_ (by rfl)) <;> (repeat' (first | (exact eqA) | (refine And.intro ?_ ?_) | ((fail_if_success (with_reducible (show _ = _))); (show _ = _)))) <;> first | rfl | decide
   ·have g1 : ¬ ((l.getD k 0).toNat : Int) < 32 := by omega
    have g2 : ((l.getD k 0).toNat : Int) > 126 := by omega
    clear ho
    repeat ((try conv => whnf); first | (with_reducible first | refine z08 (fun Qs hN hE hR => ?_) | refine z06 ?_ | refine z00 (fun Qb kN kE kX kR => ?_) | refine z02 ?_ | refine z03 ?_ | refine z07 ?_ | refine z04 ?_ | refine z05 ?_ | (show W _ _ _ (.cond _ _ _) _ _; refine z01 rfl ?_) | (refine hN _ ?_; try clear hN hE hR Qs) | ((first | refine hE _ _ ?_ | refine hR _ ?_); try clear hN hE hR Qs) | ((first | refine kN _ ?_ | refine kE _ ?_ | refine kX _ _ rfl ?_ | refine kR _ ?_); try clear kN kE kX kR Qb)) | (refine z0b f1 ?_) | (refine z0b f2 ?_) | (refine i_lt hj ?_) | (refine z0c g1 ?_) | (refine z0b g2 ?_) | (refine stpQ ?_))
    refine hQ1 _ _ ?_
    clear hQ1 Q1
    repeat ((try conv => whnf); first | (with_reducible first | refine z08 (fun Qs hN hE hR => ?_) | refine z06 ?_ | refine z00 (fun Qb kN kE kX kR => ?_) | refine z02 ?_ | refine z03 ?_ | refine z07 ?_ | refine z04 ?_ | refine z05 ?_ | (show W _ _ _ (.cond _ _ _) _ _; refine z01 rfl ?_) | (refine hN _ ?_; try clear hN hE hR Qs) | ((first | refine hE _ _ ?_ | refine hR _ ?_); try clear hN hE hR Qs) | ((first | refine kN _ ?_ | refine kE _ ?_ | refine kX _ _ rfl ?_ | refine kR _ ?_); try clear kN kE kX kR Qb)) | (refine stpQ ?_))
    (refine z09 (by rfl) ?_ ?_ (by rfl)) <;> (repeat' (first | (exact eqA) | (refine And.intro ?_ ?_) | ((fail_if_success (with_reducible (show _ = _))); (show _ = _)))) <;> first | rfl | decide
  ·clear ho
   have hkj2 : k < j := by omega
   clear hkj hk
   by_cases h32 : k = l.length ∨ (l.getD k 0).toNat = 32
   ·have hn := z2U hkn h32
    by_cases hc : (gK l k).2 = []
    ·rw [if_pos hc] at hn
     rw [hc]
     have f5 : ¬ ((k - ([] : Bs).length : Nat) : Int) < (k : Int) := by simp
     clear h1 h2 h3
     by_cases hkl : k = l.length
     ·have f2 : ¬ (k : Int) < (l.length : Int) := by omega
      clear h32
      repeat ((try conv => whnf); first | (with_reducible first | refine z08 (fun Qs hN hE hR => ?_) | refine z06 ?_ | refine z00 (fun Qb kN kE kX kR => ?_) | refine z02 ?_ | refine z03 ?_ | refine z07 ?_ | refine z04 ?_ | refine z05 ?_ | (show W _ _ _ (.cond _ _ _) _ _; refine z01 rfl ?_) | (refine hN _ ?_; try clear hN hE hR Qs) | ((first | refine hE _ _ ?_ | refine hR _ ?_); try clear hN hE hR Qs) | ((first | refine kN _ ?_ | refine kE _ ?_ | refine kX _ _ rfl ?_ | refine kR _ ?_); try clear kN kE kX kR Qb)) | (refine z0b f1 ?_) | (refine z0c f2 ?_) | (refine z0c f5 ?_) | (refine stpQ ?_))
      refine ⟨k + 1, by omega, by omega, ?_⟩
      rw [hn]
      (refine z0a (by rfl) ?_ ?_) <;> (repeat' (first | (exact eqA) | (refine And.intro ?_ ?_) | ((fail_if_success (with_reducible (show _ = _))); (show _ = _)))) <;> first | rfl | exact hs.symm | exact hs
     ·have f2 : (k : Int) < (l.length : Int) := by omega
      have f4 : k < l.length := by omega
      have f3 : ((l.getD k 0).toNat : Int) = 32 := by have := h32.resolve_left hkl; omega
      have g1 : ¬ ((l.getD k 0).toNat : Int) < 32 := by omega
      have g2 : ¬ ((l.getD k 0).toNat : Int) > 126 := by omega
      clear h32 hkl
      repeat ((try conv => whnf); first | (with_reducible first | refine z08 (fun Qs hN hE hR => ?_) | refine z06 ?_ | refine z00 (fun Qb kN kE kX kR => ?_) | refine z02 ?_ | refine z03 ?_ | refine z07 ?_ | refine z04 ?_ | refine z05 ?_ | (show W _ _ _ (.cond _ _ _) _ _; refine z01 rfl ?_) | (refine hN _ ?_; try clear hN hE hR Qs) | ((first | refine hE _ _ ?_ | refine hR _ ?_); try clear hN hE hR Qs) | ((first | refine kN _ ?_ | refine kE _ ?_ | refine kX _ _ rfl ?_ | refine kR _ ?_); try clear kN kE kX kR Qb)) | (refine z0b f1 ?_) | (refine z0b f2 ?_) | (refine i_lt f4 ?_) | (refine z0c g1 ?_) | (refine z0c g2 ?_) | (refine z0j f3 ?_) | (refine z0c f5 ?_) | (refine stpQ ?_))
      refine ⟨k + 1, by omega, by omega, ?_⟩
      rw [hn]
      (refine z0a (by rfl) ?_ ?_) <;> (repeat' (first | (exact eqA) | (refine And.intro ?_ ?_) | ((fail_if_success (with_reducible (show _ = _))); (show _ = _)))) <;> first | rfl | exact hs.symm | exact hs
    ·rw [if_neg hc] at hn
     have hs := z2V (o := (gK l k).1) h3
     have hcl : 0 < (gK l k).2.length := List.length_pos_iff.2 hc
     have f5 : ((k - (gK l k).2.length : Nat) : Int) < (k : Int) := by omega
     have f6 : k - (gK l k).2.length ≤ k ∧ k ≤ l.length := ⟨by omega, hkn⟩
     clear h3 hcl hc
     generalize gK l k = x at *
     clear h2
     by_cases hkl : k = l.length
     ·have f2 : ¬ (k : Int) < (l.length : Int) := by omega
      clear h32
      repeat ((try conv => whnf); first | (with_reducible first | refine z08 (fun Qs hN hE hR => ?_) | refine z06 ?_ | refine z00 (fun Qb kN kE kX kR => ?_) | refine z02 ?_ | refine z03 ?_ | refine z07 ?_ | refine z04 ?_ | refine z05 ?_ | (show W _ _ _ (.cond _ _ _) _ _; refine z01 rfl ?_) | (refine hN _ ?_; try clear hN hE hR Qs) | ((first | refine hE _ _ ?_ | refine hR _ ?_); try clear hN hE hR Qs) | ((first | refine kN _ ?_ | refine kE _ ?_ | refine kX _ _ rfl ?_ | refine kR _ ?_); try clear kN kE kX kR Qb)) | (refine z0b f1 ?_) | (refine z0c f2 ?_) | (refine z0b f5 ?_) | (refine z3A f6 ?_) | (refine And.intro (by simp only [List.length_append, List.length_set, List.length_replicate]; omega) ?_) | (refine stpQ ?_))
      refine ⟨k + 1, by omega, by omega, ?_⟩
      rw [hn]
      (refine z0a (by rfl) ?_ ?_) <;> (repeat' (first | (exact eqA) | (refine And.intro ?_ ?_) | ((fail_if_success (with_reducible (show _ = _))); (show _ = _)))) <;> first | rfl | exact hs.symm | exact hs
     ·have f2 : (k : Int) < (l.length : Int) := by omega
      have f4 : k < l.length := by omega
      have f3 : ((l.getD k 0).toNat : Int) = 32 := by have := h32.resolve_left hkl; omega
      have g1 : ¬ ((l.getD k 0).toNat : Int) < 32 := by omega
      have g2 : ¬ ((l.getD k 0).toNat : Int) > 126 := by omega
      clear h32 hkl
      repeat ((try conv => whnf); first | (with_reducible first | refine z08 (fun Qs hN hE hR => ?_) | refine z06 ?_ | refine z00 (fun Qb kN kE kX kR => ?_) | refine z02 ?_ | refine z03 ?_ | refine z07 ?_ | refine z04 ?_ | refine z05 ?_ | (show W _ _ _ (.cond _ _ _) _ _; refine z01 rfl ?_) | (refine hN _ ?_; try clear hN hE hR Qs) | ((first | refine hE _ _ ?_ | refine hR _ ?_); try clear hN hE hR Qs) | ((first | refine kN _ ?_ | refine kE _ ?_ | refine kX _ _ rfl ?_ | refine kR _ ?_); try clear kN kE kX kR Qb)) | (refine z0b f1 ?_) | (refine z0b f2 ?_) | (refine i_lt f4 ?_) | (refine z0c g1 ?_) | (refine z0c g2 ?_) | (refine z0j f3 ?_) | (refine z0b f5 ?_) | (refine z3A f6 ?_) | (refine And.intro (by simp only [List.length_append, List.length_set, List.length_replicate]; omega) ?_) | (refine stpQ ?_))
      refine ⟨k + 1, by omega, by omega, ?_⟩
      rw [hn]
      (refine z0a (by rfl) ?_ ?_) <;> (repeat' (first | (exact eqA) | (refine And.intro ?_ ?_) | ((fail_if_success (with_reducible (show _ = _))); (show _ = _)))) <;> first | rfl | exact hs.symm | exact hs
   ·have f4 : k < l.length := by omega
    have f2 : (k : Int) < (l.length : Int) := by omega
    have h32' : ¬ (l.getD k 0).toNat = 32 := fun c => h32 (.inr c)
    have f3 : ¬ ((l.getD k 0).toNat : Int) = 32 := by omega
    have hin := hgood k (by omega)
    have g1 : ¬ ((l.getD k 0).toNat : Int) < 32 := by omega
    have g2 : ¬ ((l.getD k 0).toNat : Int) > 126 := by omega
    have hn := z4J f4 h32'
    have hf : k + 1 - ((gK l k).2 ++ [l.getD k 0]).length = k - (gK l k).2.length := by rw [List.length_append, List.length_singleton]; omega
    clear h32 h32' h3 h1 h2 hlo
    repeat ((try conv => whnf); first | (with_reducible first | refine z08 (fun Qs hN hE hR => ?_) | refine z06 ?_ | refine z00 (fun Qb kN kE kX kR => ?_) | refine z02 ?_ | refine z03 ?_ | refine z07 ?_ | refine z04 ?_ | refine z05 ?_ | (show W _ _ _ (.cond _ _ _) _ _; refine z01 rfl ?_) | (refine hN _ ?_; try clear hN hE hR Qs) | ((first | refine hE _ _ ?_ | refine hR _ ?_); try clear hN hE hR Qs) | ((first | refine kN _ ?_ | refine kE _ ?_ | refine kX _ _ rfl ?_ | refine kR _ ?_); try clear kN kE kX kR Qb)) | (refine z0b f1 ?_) | (refine z0b f2 ?_) | (refine i_lt f4 ?_) | (refine z0c g1 ?_) | (refine z0c g2 ?_) | (refine z0r f3 ?_) | (refine stpQ ?_))
    refine ⟨k + 1, by omega, by omega, ?_⟩
    rw [hn, hf]
    (refine z0a (by rfl) ?_ ?_) <;> (repeat' (first | (exact eqA) | (refine And.intro ?_ ?_) | ((fail_if_success (with_reducible (show _ = _))); (show _ = _)))) <;> first | rfl | exact hs.symm | exact hs
theorem z3s (l : Bs) (hl : ¬ l.length ≤ 600) : CT Tryd.prog 16 [] [.str l] (.tup [.ref 1, .bool (z0v l)]) [.row 1 (strE (prt l))] := by
 have hB : z0v l = false := by rw [z0v, decide_eq_false hl]; rfl
 unfold prt
 rw [hB]
 refine z0d z13 1 rfl Tryd.func16 rfl rfl rfl ?_
 conv => arg 6; whnf
 repeat ((try conv => whnf); first | (with_reducible first | refine z08 (fun Qs hN hE hR => ?_) | refine z06 ?_ | refine z00 (fun Qb kN kE kX kR => ?_) | refine z02 ?_ | refine z03 ?_ | refine z07 ?_ | refine z04 ?_ | refine z05 ?_ | (show W _ _ _ (.cond _ _ _) _ _; refine z01 rfl ?_) | (refine hN _ ?_; try clear hN hE hR Qs) | ((first | refine hE _ _ ?_ | refine hR _ ?_); try clear hN hE hR Qs) | ((first | refine kN _ ?_ | refine kE _ ?_ | refine kX _ _ rfl ?_ | refine kR _ ?_); try clear kN kE kX kR Qb)) | (refine stpQ ?_))
 (refine z09 (by rfl) ?_ ?_ (by rfl)) <;> (repeat' (first | (exact eqA) | (refine And.intro ?_ ?_) | ((fail_if_success (with_reducible (show _ = _))); (show _ = _)))) <;> first | rfl | decide
end
end Go.Proofs.YtfgkjgfigjpkoaaDoor
namespace Go.Proofs.YtfgkjgfigjpkoaaDoor
set_option linter.unusedVariables false
set_option linter.unusedSimpArgs false
set_option linter.unusedSectionVars false
open Go.RowKit Pl
theorem z92 (l : Bs) : CT Tryd.prog 10 [] [.str l] (.tup [.ref 1, .bool (z0v l)]) [.row 1 (strE (prt l))] := by
 by_cases hl : l.length ≤ 600
 ·rcases z2o okP l with ha | ⟨j, hj, hb, hp⟩
  ·exact z4K l hl ha
  ·exact z4L l hl j hj hb hp
 ·exact z3C l hl
theorem z7C (l : Bs) : CT Tryd.prog 16 [] [.str l] (.tup [.ref 1, .bool (z0v l)]) [.row 1 (strE (prt l))] := by
 by_cases hl : l.length ≤ 600
 ·rcases z2o okP l with ha | ⟨j, hj, hb, hp⟩
  ·exact z3D l hl ha
  ·exact z3E l hl j hj hb hp
 ·exact z3s l hl
end Go.Proofs.YtfgkjgfigjpkoaaDoor
