/- Functions by content: one line more of a script, by the program. -/
import Derived.Test.YtfgkjgfigjpkoaaDoorRde
import Derived.Test.YtfgkjgfigjpkoaaDoorPlE
namespace Go.Proofs.YtfgkjgfigjpkoaaDoor
set_option maxRecDepth 100000
set_option maxHeartbeats 2000000
set_option linter.unusedVariables false
set_option linter.unusedSimpArgs false
set_option linter.unusedSectionVars false
open Go.RowKit Pl
def scH (x : Sc) : List Ent := [.box [.int .i64 x.n, .int .i64 x.k, .ref 2, .bool x.ca, .ref 3], .row 10 (evE x.ev), .row 3 (akE x.ak)]
def scHa (x : Sc) : List Ent := [.box [.int .i64 x.n, .int .i64 x.k, .ref 2, .bool x.ca, .ref 4], .row 10 (evE x.ev), .row 0 [], .row 3 (akE x.ak)]
def scHe (x : Sc) : List Ent := [.box [.int .i64 x.n, .int .i64 x.k, .ref 4, .bool x.ca, .ref 3], .row 0 [], .row 3 (akE x.ak), .row 10 (evE x.ev)]
theorem z8S (l : List (Int × Bs × Int)) (a b : Int) (s : Bs) : akE (l ++ [(a, s, b)]) = akE l ++ [[.int .i64 a, .str s, .int .i64 b]] := ak_app _ _
theorem z8T (l : List Evt) (e : Evt) : evE (l ++ [e]) = evE l ++ [evC e] := zaC _ _
section
attribute [local irreducible] z0t z0u z0C AnsP LeP W
theorem z7y (x : Sc) (p : List Bs) (hl : p.length = 1) (hw : pt p 0 = z1F) : CT Tryd.prog 14 (scH x) [.ptr 1 0 0, .sl 1 (strE p)] (.bool true) (scH { x with ca := true }) := by
 have g0 := z0g (p := p) (i := 0) (by omega)
 have fl : ((strE p).length : Int) = 1 := by rw [z0h, hl]; rfl
 unfold z1F at hw
 unfold scH
 generalize pt p 0 = w at *
 generalize strE p = z at *
 refine z0d z0f 4 rfl Tryd.func14 rfl rfl rfl ?_
 conv => arg 6; whnf
 repeat ((try conv => whnf); first | (with_reducible first | refine z08 (fun Qs hN hE hR => ?_) | refine z06 ?_ | refine z00 (fun Qb kN kE kX kR => ?_) | refine z02 ?_ | refine z03 ?_ | refine z07 ?_ | refine z04 ?_ | refine z05 ?_ | (show W _ _ _ (.cond _ _ _) _ _; refine z01 rfl ?_) | (refine hN _ ?_; try clear hN hE hR Qs) | ((first | refine hE _ _ ?_ | refine hR _ ?_); try clear hN hE hR Qs) | ((first | refine kN _ ?_ | refine kE _ ?_ | refine kX _ _ rfl ?_ | refine kR _ ?_); try clear kN kE kX kR Qb)) | (refine z0b fl ?_) | (refine i_at g0 ?_) | (refine z0b hw ?_) | (refine stpQ ?_))
 (refine z09 (by rfl) ?_ ?_ (by rfl)) <;> (repeat' (first | (exact eqA) | (refine And.intro ?_ ?_) | ((fail_if_success (with_reducible (show _ = _))); (show _ = _))))
theorem z7z (x : Sc) (p : List Bs) (hl : p.length = 4) (hw : pt p 0 = wAsk) (hx : ScOk x) (hb : (isB (pt p 1) && isB (pt p 3)) = false) : CT Tryd.prog 14 (scH x) [.ptr 1 0 0, .sl 1 (strE p)] (.bool false) (scH x) := by
 have g0 := z0g (p := p) (i := 0) (by omega)
 have g2 := z0g (p := p) (i := 2) (by omega)
 have f1 : ¬ ((strE p).length : Int) = 1 := by rw [z0h, hl]; decide
 have fl : ((strE p).length : Int) = 4 := by rw [z0h, hl]; rfl
 have n1 := z0G p 1 (pt p 1) (z0V (by omega)) false
 have n3 := z0G p 3 (pt p 3) (z0V (by omega)) (false || !isB (pt p 1))
 have hal := z5r x.ak
 have hak := hx.2
 unfold wAsk at hw
 unfold scH
 generalize (decV (pt p 1) : Int) = v1 at *
 generalize (decV (pt p 3) : Int) = v3 at *
 generalize isB (pt p 1) = b1 at *
 generalize isB (pt p 3) = b3 at *
 generalize pt p 0 = w at *
 generalize pt p 2 = s2 at *
 generalize strE p = z at *
 have hB : ((false || !b1) || !b3) = true := by revert hb; cases b1 <;> cases b3 <;> decide
 refine z0d z0f 4 rfl Tryd.func14 rfl rfl rfl ?_
 conv => arg 6; whnf
 repeat ((try conv => whnf); first | (with_reducible first | refine z08 (fun Qs hN hE hR => ?_) | refine z06 ?_ | refine z00 (fun Qb kN kE kX kR => ?_) | refine z02 ?_ | refine z03 ?_ | refine z07 ?_ | refine z04 ?_ | refine z05 ?_ | (show W _ _ _ (.cond _ _ _) _ _; refine z01 rfl ?_) | (refine hN _ ?_; try clear hN hE hR Qs) | ((first | refine hE _ _ ?_ | refine hR _ ?_); try clear hN hE hR Qs) | ((first | refine kN _ ?_ | refine kE _ ?_ | refine kX _ _ rfl ?_ | refine kR _ ?_); try clear kN kE kX kR Qb)) | (refine z0c f1 ?_) | (refine z0b fl ?_) | (refine i_at g0 ?_) | (refine i_at g2 ?_) | (refine z0b hw ?_) | (refine And.intro (by kernel_rfl) ?_) | (refine ccB ([_]) (n1) ?_) | (refine ccB ([_]) (n3) ?_) | (refine cb_t hB ?_) | (refine stpQ ?_))
 (refine z09 (by rfl) ?_ ?_ (by rfl)) <;> (repeat' (first | (exact eqA) | (refine And.intro ?_ ?_) | ((fail_if_success (with_reducible (show _ = _))); (show _ = _))))
theorem z7A (x : Sc) (p : List Bs) (hl : p.length = 4) (hw : pt p 0 = wAsk) (hx : ScOk x) (hb : (isB (pt p 1) && isB (pt p 3)) = true) (hf : ¬ x.ak.length < 10) : CT Tryd.prog 14 (scH x) [.ptr 1 0 0, .sl 1 (strE p)] (.bool false) (scH x) := by
 have g0 := z0g (p := p) (i := 0) (by omega)
 have g2 := z0g (p := p) (i := 2) (by omega)
 have f1 : ¬ ((strE p).length : Int) = 1 := by rw [z0h, hl]; decide
 have fl : ((strE p).length : Int) = 4 := by rw [z0h, hl]; rfl
 have n1 := z0G p 1 (pt p 1) (z0V (by omega)) false
 have n3 := z0G p 3 (pt p 3) (z0V (by omega)) (false || !isB (pt p 1))
 have hal := z5r x.ak
 have hak := hx.2
 unfold wAsk at hw
 unfold scH
 generalize (decV (pt p 1) : Int) = v1 at *
 generalize (decV (pt p 3) : Int) = v3 at *
 generalize isB (pt p 1) = b1 at *
 generalize isB (pt p 3) = b3 at *
 generalize pt p 0 = w at *
 generalize pt p 2 = s2 at *
 generalize strE p = z at *
 have hB : ((false || !b1) || !b3) = false := by revert hb; cases b1 <;> cases b3 <;> decide
 have hF : ((akE x.ak).length : Int) ≥ 10 := by omega
 refine z0d z0f 4 rfl Tryd.func14 rfl rfl rfl ?_
 conv => arg 6; whnf
 repeat ((try conv => whnf); first | (with_reducible first | refine z08 (fun Qs hN hE hR => ?_) | refine z06 ?_ | refine z00 (fun Qb kN kE kX kR => ?_) | refine z02 ?_ | refine z03 ?_ | refine z07 ?_ | refine z04 ?_ | refine z05 ?_ | (show W _ _ _ (.cond _ _ _) _ _; refine z01 rfl ?_) | (refine hN _ ?_; try clear hN hE hR Qs) | ((first | refine hE _ _ ?_ | refine hR _ ?_); try clear hN hE hR Qs) | ((first | refine kN _ ?_ | refine kE _ ?_ | refine kX _ _ rfl ?_ | refine kR _ ?_); try clear kN kE kX kR Qb)) | (refine z0c f1 ?_) | (refine z0b fl ?_) | (refine i_at g0 ?_) | (refine i_at g2 ?_) | (refine z0b hw ?_) | (refine And.intro (by kernel_rfl) ?_) | (refine ccB ([_]) (n1) ?_) | (refine ccB ([_]) (n3) ?_) | (refine cb_f hB ?_) | (refine z0b hF ?_) | (refine stpQ ?_))
 (refine z09 (by rfl) ?_ ?_ (by rfl)) <;> (repeat' (first | (exact eqA) | (refine And.intro ?_ ?_) | ((fail_if_success (with_reducible (show _ = _))); (show _ = _))))
theorem z7B (x : Sc) (p : List Bs) (hl : p.length = 4) (hw : pt p 0 = wAsk) (hx : ScOk x) (hb : (isB (pt p 1) && isB (pt p 3)) = true) (hf : x.ak.length < 10) : CT Tryd.prog 14 (scH x) [.ptr 1 0 0, .sl 1 (strE p)] (.bool true) (scHa { x with ak := x.ak ++ [z5s p] }) := by
 have g0 := z0g (p := p) (i := 0) (by omega)
 have g2 := z0g (p := p) (i := 2) (by omega)
 have f1 : ¬ ((strE p).length : Int) = 1 := by rw [z0h, hl]; decide
 have fl : ((strE p).length : Int) = 4 := by rw [z0h, hl]; rfl
 have n1 := z0G p 1 (pt p 1) (z0V (by omega)) false
 have n3 := z0G p 3 (pt p 3) (z0V (by omega)) (false || !isB (pt p 1))
 have hal := z5r x.ak
 have hak := hx.2
 unfold wAsk at hw
 unfold scH scHa
 have hs := z8S x.ak (decV (pt p 1)) (decV (pt p 3)) (pt p 2)
 show CT _ _ _ _ _ [.box [.int .i64 x.n, .int .i64 x.k, .ref 2, .bool x.ca, .ref 4], .row 10 (evE x.ev), .row 0 [], .row 3 (akE (x.ak ++ [((decV (pt p 1) : Int), pt p 2, (decV (pt p 3) : Int))]))]
 rw [hs]
 clear hs
 generalize (decV (pt p 1) : Int) = v1 at *
 generalize (decV (pt p 3) : Int) = v3 at *
 generalize isB (pt p 1) = b1 at *
 generalize isB (pt p 3) = b3 at *
 generalize pt p 0 = w at *
 generalize pt p 2 = s2 at *
 generalize strE p = z at *
 have hB : ((false || !b1) || !b3) = false := by revert hb; cases b1 <;> cases b3 <;> decide
 have hF : ¬ ((akE x.ak).length : Int) ≥ 10 := by omega
 refine z0d z0f 4 rfl Tryd.func14 rfl rfl rfl ?_
 conv => arg 6; whnf
 repeat ((try conv => whnf); first | (with_reducible first | refine z08 (fun Qs hN hE hR => ?_) | refine z06 ?_ | refine z00 (fun Qb kN kE kX kR => ?_) | refine z02 ?_ | refine z03 ?_ | refine z07 ?_ | refine z04 ?_ | refine z05 ?_ | (show W _ _ _ (.cond _ _ _) _ _; refine z01 rfl ?_) | (refine hN _ ?_; try clear hN hE hR Qs) | ((first | refine hE _ _ ?_ | refine hR _ ?_); try clear hN hE hR Qs) | ((first | refine kN _ ?_ | refine kE _ ?_ | refine kX _ _ rfl ?_ | refine kR _ ?_); try clear kN kE kX kR Qb)) | (refine z0c f1 ?_) | (refine z0b fl ?_) | (refine i_at g0 ?_) | (refine i_at g2 ?_) | (refine z0b hw ?_) | (refine And.intro (by kernel_rfl) ?_) | (refine ccB ([_]) (n1) ?_) | (refine ccB ([_]) (n3) ?_) | (refine cb_f hB ?_) | (refine z0c hF ?_) | (refine And.intro (by simp only [List.length_append, List.length_set, List.length_replicate]; omega) ?_) | (refine stpQ ?_))
 (refine z09 (by rfl) ?_ ?_ (by rfl)) <;> (repeat' (first | (exact eqA) | (refine And.intro ?_ ?_) | ((fail_if_success (with_reducible (show _ = _))); (show _ = _)))) <;> rfl
theorem z8U (x : Sc) (p : List Bs) (h0 : 0 < p.length) (hbd : ∀ i, (pt p i).length ≤ 600) (hc : ¬ (p.length = 1 ∧ pt p 0 = z1F)) (ha : ¬ (p.length = 4 ∧ pt p 0 = wAsk)) (hx : ScOk x) (hq : (okR (rawE p) && evOk (evR (rawE p))) = false) :
 CT Tryd.prog 14 (scH x) [.ptr 1 0 0, .sl 1 (strE p)] (.bool false) (scH x) := by
 have g0 := z0g (p := p) h0
 have hcl : (strE p).length = p.length := z0h p
 have cr := z28 p h0 hbd
 have hel := z0B x.ev
 have hev := hx.1
 unfold z1F at hc
 unfold wAsk at ha
 unfold scH
 generalize evR (rawE p) = e at *
 rw [hq] at cr
 clear hq
 obtain ⟨k, h, a, mk, mn, ma, ci, cn, cv, tx⟩ := e
 unfold evC at *
 simp only at cr ⊢
 clear h0 hbd
 generalize pt p 0 = w at *
 generalize strE p = z at *
 generalize p.length = n at *
 by_cases l1 : n = 1
 ·have fl : (z.length : Int) = 1 := by omega
  have f4 : ¬ (z.length : Int) = 4 := by omega
  have u := fun c => hc ⟨l1, c⟩
  clear hc ha
  refine z0d z0f 4 rfl Tryd.func14 rfl rfl rfl ?_
  conv => arg 6; whnf
  repeat ((try conv => whnf); first | (with_reducible first | refine z08 (fun Qs hN hE hR => ?_) | refine z06 ?_ | refine z00 (fun Qb kN kE kX kR => ?_) | refine z02 ?_ | refine z03 ?_ | refine z07 ?_ | refine z04 ?_ | refine z05 ?_ | (show W _ _ _ (.cond _ _ _) _ _; refine z01 rfl ?_) | (refine hN _ ?_; try clear hN hE hR Qs) | ((first | refine hE _ _ ?_ | refine hR _ ?_); try clear hN hE hR Qs) | ((first | refine kN _ ?_ | refine kE _ ?_ | refine kX _ _ rfl ?_ | refine kR _ ?_); try clear kN kE kX kR Qb)) | (refine z0b fl ?_) | (refine z0c f4 ?_) | (refine z0c u ?_) | (refine i_at g0 ?_) | (refine And.intro (by kernel_rfl) ?_) | (refine ccA ([]) (cr) ?_) | (refine stpQ ?_))
  (refine z09 (by rfl) ?_ ?_ (by rfl)) <;> (repeat' (first | (exact eqA) | (refine And.intro ?_ ?_) | ((fail_if_success (with_reducible (show _ = _))); (show _ = _))))
 by_cases l4 : n = 4
 ·have fl : (z.length : Int) = 4 := by omega
  have f1 : ¬ (z.length : Int) = 1 := by omega
  have u := fun c => ha ⟨l4, c⟩
  clear hc ha
  refine z0d z0f 4 rfl Tryd.func14 rfl rfl rfl ?_
  conv => arg 6; whnf
  repeat ((try conv => whnf); first | (with_reducible first | refine z08 (fun Qs hN hE hR => ?_) | refine z06 ?_ | refine z00 (fun Qb kN kE kX kR => ?_) | refine z02 ?_ | refine z03 ?_ | refine z07 ?_ | refine z04 ?_ | refine z05 ?_ | (show W _ _ _ (.cond _ _ _) _ _; refine z01 rfl ?_) | (refine hN _ ?_; try clear hN hE hR Qs) | ((first | refine hE _ _ ?_ | refine hR _ ?_); try clear hN hE hR Qs) | ((first | refine kN _ ?_ | refine kE _ ?_ | refine kX _ _ rfl ?_ | refine kR _ ?_); try clear kN kE kX kR Qb)) | (refine z0b fl ?_) | (refine z0c f1 ?_) | (refine z0c u ?_) | (refine i_at g0 ?_) | (refine And.intro (by kernel_rfl) ?_) | (refine ccA ([]) (cr) ?_) | (refine stpQ ?_))
  (refine z09 (by rfl) ?_ ?_ (by rfl)) <;> (repeat' (first | (exact eqA) | (refine And.intro ?_ ?_) | ((fail_if_success (with_reducible (show _ = _))); (show _ = _))))
 ·have f4 : ¬ (z.length : Int) = 4 := by omega
  have f1 : ¬ (z.length : Int) = 1 := by omega
  clear hc ha
  refine z0d z0f 4 rfl Tryd.func14 rfl rfl rfl ?_
  conv => arg 6; whnf
  repeat ((try conv => whnf); first | (with_reducible first | refine z08 (fun Qs hN hE hR => ?_) | refine z06 ?_ | refine z00 (fun Qb kN kE kX kR => ?_) | refine z02 ?_ | refine z03 ?_ | refine z07 ?_ | refine z04 ?_ | refine z05 ?_ | (show W _ _ _ (.cond _ _ _) _ _; refine z01 rfl ?_) | (refine hN _ ?_; try clear hN hE hR Qs) | ((first | refine hE _ _ ?_ | refine hR _ ?_); try clear hN hE hR Qs) | ((first | refine kN _ ?_ | refine kE _ ?_ | refine kX _ _ rfl ?_ | refine kR _ ?_); try clear kN kE kX kR Qb)) | (refine z0c f1 ?_) | (refine z0c f4 ?_) | (refine i_at g0 ?_) | (refine And.intro (by kernel_rfl) ?_) | (refine ccA ([]) (cr) ?_) | (refine stpQ ?_))
  (refine z09 (by rfl) ?_ ?_ (by rfl)) <;> (repeat' (first | (exact eqA) | (refine And.intro ?_ ?_) | ((fail_if_success (with_reducible (show _ = _))); (show _ = _))))
theorem z8V (x : Sc) (p : List Bs) (h0 : 0 < p.length) (hbd : ∀ i, (pt p i).length ≤ 600) (hc : ¬ (p.length = 1 ∧ pt p 0 = z1F)) (ha : ¬ (p.length = 4 ∧ pt p 0 = wAsk)) (hx : ScOk x) (hq : (okR (rawE p) && evOk (evR (rawE p))) = true) (hf : ¬ x.ev.length < 90) :
 CT Tryd.prog 14 (scH x) [.ptr 1 0 0, .sl 1 (strE p)] (.bool false) (scH x) := by
 have g0 := z0g (p := p) h0
 have hcl : (strE p).length = p.length := z0h p
 have cr := z28 p h0 hbd
 have hel := z0B x.ev
 have hev := hx.1
 unfold z1F at hc
 unfold wAsk at ha
 unfold scH
 generalize evR (rawE p) = e at *
 rw [hq] at cr
 clear hq
 obtain ⟨k, h, a, mk, mn, ma, ci, cn, cv, tx⟩ := e
 unfold evC at *
 simp only at cr ⊢
 clear h0 hbd
 generalize pt p 0 = w at *
 generalize strE p = z at *
 generalize p.length = n at *
 have hF : ((evE x.ev).length : Int) ≥ 90 := by omega
 by_cases l1 : n = 1
 ·have fl : (z.length : Int) = 1 := by omega
  have f4 : ¬ (z.length : Int) = 4 := by omega
  have u := fun c => hc ⟨l1, c⟩
  clear hc ha
  refine z0d z0f 4 rfl Tryd.func14 rfl rfl rfl ?_
  conv => arg 6; whnf
  repeat ((try conv => whnf); first | (with_reducible first | refine z08 (fun Qs hN hE hR => ?_) | refine z06 ?_ | refine z00 (fun Qb kN kE kX kR => ?_) | refine z02 ?_ | refine z03 ?_ | refine z07 ?_ | refine z04 ?_ | refine z05 ?_ | (show W _ _ _ (.cond _ _ _) _ _; refine z01 rfl ?_) | (refine hN _ ?_; try clear hN hE hR Qs) | ((first | refine hE _ _ ?_ | refine hR _ ?_); try clear hN hE hR Qs) | ((first | refine kN _ ?_ | refine kE _ ?_ | refine kX _ _ rfl ?_ | refine kR _ ?_); try clear kN kE kX kR Qb)) | (refine z0b fl ?_) | (refine z0c f4 ?_) | (refine z0c u ?_) | (refine i_at g0 ?_) | (refine And.intro (by kernel_rfl) ?_) | (refine ccA ([]) (cr) ?_) | (refine z0b hF ?_) | (refine stpQ ?_))
  (refine z09 (by rfl) ?_ ?_ (by rfl)) <;> (repeat' (first | (exact eqA) | (refine And.intro ?_ ?_) | ((fail_if_success (with_reducible (show _ = _))); (show _ = _))))
 by_cases l4 : n = 4
 ·have fl : (z.length : Int) = 4 := by omega
  have f1 : ¬ (z.length : Int) = 1 := by omega
  have u := fun c => ha ⟨l4, c⟩
  clear hc ha
  refine z0d z0f 4 rfl Tryd.func14 rfl rfl rfl ?_
  conv => arg 6; whnf
  repeat ((try conv => whnf); first | (with_reducible first | refine z08 (fun Qs hN hE hR => ?_) | refine z06 ?_ | refine z00 (fun Qb kN kE kX kR => ?_) | refine z02 ?_ | refine z03 ?_ | refine z07 ?_ | refine z04 ?_ | refine z05 ?_ | (show W _ _ _ (.cond _ _ _) _ _; refine z01 rfl ?_) | (refine hN _ ?_; try clear hN hE hR Qs) | ((first | refine hE _ _ ?_ | refine hR _ ?_); try clear hN hE hR Qs) | ((first | refine kN _ ?_ | refine kE _ ?_ | refine kX _ _ rfl ?_ | refine kR _ ?_); try clear kN kE kX kR Qb)) | (refine z0b fl ?_) | (refine z0c f1 ?_) | (refine z0c u ?_) | (refine i_at g0 ?_) | (refine And.intro (by kernel_rfl) ?_) | (refine ccA ([]) (cr) ?_) | (refine z0b hF ?_) | (refine stpQ ?_))
  (refine z09 (by rfl) ?_ ?_ (by rfl)) <;> (repeat' (first | (exact eqA) | (refine And.intro ?_ ?_) | ((fail_if_success (with_reducible (show _ = _))); (show _ = _))))
 ·have f4 : ¬ (z.length : Int) = 4 := by omega
  have f1 : ¬ (z.length : Int) = 1 := by omega
  clear hc ha
  refine z0d z0f 4 rfl Tryd.func14 rfl rfl rfl ?_
  conv => arg 6; whnf
  repeat ((try conv => whnf); first | (with_reducible first | refine z08 (fun Qs hN hE hR => ?_) | refine z06 ?_ | refine z00 (fun Qb kN kE kX kR => ?_) | refine z02 ?_ | refine z03 ?_ | refine z07 ?_ | refine z04 ?_ | refine z05 ?_ | (show W _ _ _ (.cond _ _ _) _ _; refine z01 rfl ?_) | (refine hN _ ?_; try clear hN hE hR Qs) | ((first | refine hE _ _ ?_ | refine hR _ ?_); try clear hN hE hR Qs) | ((first | refine kN _ ?_ | refine kE _ ?_ | refine kX _ _ rfl ?_ | refine kR _ ?_); try clear kN kE kX kR Qb)) | (refine z0c f1 ?_) | (refine z0c f4 ?_) | (refine i_at g0 ?_) | (refine And.intro (by kernel_rfl) ?_) | (refine ccA ([]) (cr) ?_) | (refine z0b hF ?_) | (refine stpQ ?_))
  (refine z09 (by rfl) ?_ ?_ (by rfl)) <;> (repeat' (first | (exact eqA) | (refine And.intro ?_ ?_) | ((fail_if_success (with_reducible (show _ = _))); (show _ = _))))
theorem z8W (x : Sc) (p : List Bs) (h0 : 0 < p.length) (hbd : ∀ i, (pt p i).length ≤ 600) (hc : ¬ (p.length = 1 ∧ pt p 0 = z1F)) (ha : ¬ (p.length = 4 ∧ pt p 0 = wAsk)) (hx : ScOk x) (hq : (okR (rawE p) && evOk (evR (rawE p))) = true) (hf : x.ev.length < 90) :
 CT Tryd.prog 14 (scH x) [.ptr 1 0 0, .sl 1 (strE p)] (.bool true) (scHe { x with ev := x.ev ++ [evR (rawE p)] }) := by
 have g0 := z0g (p := p) h0
 have hcl : (strE p).length = p.length := z0h p
 have cr := z28 p h0 hbd
 have hel := z0B x.ev
 have hev := hx.1
 unfold z1F at hc
 unfold wAsk at ha
 unfold scH scHe
 show CT _ _ _ _ _ [.box [.int .i64 x.n, .int .i64 x.k, .ref 4, .bool x.ca, .ref 3], .row 0 [], .row 3 (akE x.ak), .row 10 (evE (x.ev ++ [evR (rawE p)]))]
 rw [z8T]
 generalize evR (rawE p) = e at *
 rw [hq] at cr
 clear hq
 obtain ⟨k, h, a, mk, mn, ma, ci, cn, cv, tx⟩ := e
 unfold evC at *
 simp only at cr ⊢
 clear h0 hbd
 generalize pt p 0 = w at *
 generalize strE p = z at *
 generalize p.length = n at *
 have hF : ¬ ((evE x.ev).length : Int) ≥ 90 := by omega
 by_cases l1 : n = 1
 ·have fl : (z.length : Int) = 1 := by omega
  have f4 : ¬ (z.length : Int) = 4 := by omega
  have u := fun c => hc ⟨l1, c⟩
  clear hc ha
  refine z0d z0f 4 rfl Tryd.func14 rfl rfl rfl ?_
  conv => arg 6; whnf
  repeat ((try conv => whnf); first | (with_reducible first | refine z08 (fun Qs hN hE hR => ?_) | refine z06 ?_ | refine z00 (fun Qb kN kE kX kR => ?_) | refine z02 ?_ | refine z03 ?_ | refine z07 ?_ | refine z04 ?_ | refine z05 ?_ | (show W _ _ _ (.cond _ _ _) _ _; refine z01 rfl ?_) | (refine hN _ ?_; try clear hN hE hR Qs) | ((first | refine hE _ _ ?_ | refine hR _ ?_); try clear hN hE hR Qs) | ((first | refine kN _ ?_ | refine kE _ ?_ | refine kX _ _ rfl ?_ | refine kR _ ?_); try clear kN kE kX kR Qb)) | (refine z0b fl ?_) | (refine z0c f4 ?_) | (refine z0c u ?_) | (refine i_at g0 ?_) | (refine And.intro (by kernel_rfl) ?_) | (refine ccA ([]) (cr) ?_) | (refine z0c hF ?_) | (refine And.intro (by simp only [List.length_append, List.length_set, List.length_replicate]; omega) ?_) | (refine stpQ ?_))
  (refine z09 (by rfl) ?_ ?_ (by rfl)) <;> (repeat' (first | (exact eqA) | (refine And.intro ?_ ?_) | ((fail_if_success (with_reducible (show _ = _))); (show _ = _)))) <;> rfl
 by_cases l4 : n = 4
 ·have fl : (z.length : Int) = 4 := by omega
  have f1 : ¬ (z.length : Int) = 1 := by omega
  have u := fun c => ha ⟨l4, c⟩
  clear hc ha
  refine z0d z0f 4 rfl Tryd.func14 rfl rfl rfl ?_
  conv => arg 6; whnf
  repeat ((try conv => whnf); first | (with_reducible first | refine z08 (fun Qs hN hE hR => ?_) | refine z06 ?_ | refine z00 (fun Qb kN kE kX kR => ?_) | refine z02 ?_ | refine z03 ?_ | refine z07 ?_ | refine z04 ?_ | refine z05 ?_ | (show W _ _ _ (.cond _ _ _) _ _; refine z01 rfl ?_) | (refine hN _ ?_; try clear hN hE hR Qs) | ((first | refine hE _ _ ?_ | refine hR _ ?_); try clear hN hE hR Qs) | ((first | refine kN _ ?_ | refine kE _ ?_ | refine kX _ _ rfl ?_ | refine kR _ ?_); try clear kN kE kX kR Qb)) | (refine z0b fl ?_) | (refine z0c f1 ?_) | (refine z0c u ?_) | (refine i_at g0 ?_) | (refine And.intro (by kernel_rfl) ?_) | (refine ccA ([]) (cr) ?_) | (refine z0c hF ?_) | (refine And.intro (by simp only [List.length_append, List.length_set, List.length_replicate]; omega) ?_) | (refine stpQ ?_))
  (refine z09 (by rfl) ?_ ?_ (by rfl)) <;> (repeat' (first | (exact eqA) | (refine And.intro ?_ ?_) | ((fail_if_success (with_reducible (show _ = _))); (show _ = _)))) <;> rfl
 ·have f4 : ¬ (z.length : Int) = 4 := by omega
  have f1 : ¬ (z.length : Int) = 1 := by omega
  clear hc ha
  refine z0d z0f 4 rfl Tryd.func14 rfl rfl rfl ?_
  conv => arg 6; whnf
  repeat ((try conv => whnf); first | (with_reducible first | refine z08 (fun Qs hN hE hR => ?_) | refine z06 ?_ | refine z00 (fun Qb kN kE kX kR => ?_) | refine z02 ?_ | refine z03 ?_ | refine z07 ?_ | refine z04 ?_ | refine z05 ?_ | (show W _ _ _ (.cond _ _ _) _ _; refine z01 rfl ?_) | (refine hN _ ?_; try clear hN hE hR Qs) | ((first | refine hE _ _ ?_ | refine hR _ ?_); try clear hN hE hR Qs) | ((first | refine kN _ ?_ | refine kE _ ?_ | refine kX _ _ rfl ?_ | refine kR _ ?_); try clear kN kE kX kR Qb)) | (refine z0c f1 ?_) | (refine z0c f4 ?_) | (refine i_at g0 ?_) | (refine And.intro (by kernel_rfl) ?_) | (refine ccA ([]) (cr) ?_) | (refine z0c hF ?_) | (refine And.intro (by simp only [List.length_append, List.length_set, List.length_replicate]; omega) ?_) | (refine stpQ ?_))
  (refine z09 (by rfl) ?_ ?_ (by rfl)) <;> (repeat' (first | (exact eqA) | (refine And.intro ?_ ?_) | ((fail_if_success (with_reducible (show _ = _))); (show _ = _)))) <;> rfl
end
end Go.Proofs.YtfgkjgfigjpkoaaDoor
