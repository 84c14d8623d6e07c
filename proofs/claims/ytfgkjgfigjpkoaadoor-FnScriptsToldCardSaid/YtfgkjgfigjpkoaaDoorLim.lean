/- Functions by content: one line more of a script, by the reference. Functions by content: the lines of a text, by the reference. -/
import Derived.Test.YtfgkjgfigjpkoaaDoorAdd
import Derived.Test.YtfgkjgfigjpkoaaDoorLse
import Derived.Test.YtfgkjgfigjpkoaaDoorPlE
import Derived.Test.YtfgkjgfigjpkoaaDoorFb
import Derived.Test.YtfgkjgfigjpkoaaDoorVQ
namespace Go.Proofs.YtfgkjgfigjpkoaaDoor
set_option maxRecDepth 100000
set_option maxHeartbeats 2000000
set_option linter.unusedVariables false
set_option linter.unusedSimpArgs false
set_option linter.unusedSectionVars false
open Go.RowKit Pl
def nV (p : List Bs) (i : Nat) : Nat := if i < p.length then decV (pt p i) else 0
def nB (p : List Bs) (i : Nat) : Bool := if i < p.length then isB (pt p i) else false
section
attribute [local irreducible] z0t z0u z0C AnsP LeP W
theorem z3t (p : List Bs) (i : Nat) (hi : i ≤ 1000) : CT Tryd.prog 29 [] [.sl 1 (strE p), .int .i64 (i : Int)] (.tup [.int .i64 (nV p i : Int), .bool (nB p i)]) [] := by
 have hcl := z0h p
 unfold nV nB
 by_cases h : i < p.length
 ·rw [if_pos h, if_pos h]
  have f1 : ¬ (i : Int) ≥ ((strE p).length : Int) := by omega
  have g := z0g h
  have n1 := z0e (pt p i)
  generalize (decV (pt p i) : Int) = v at *
  generalize isB (pt p i) = b at *
  generalize strE p = z at *
  refine z0d z0f 1 rfl Tryd.func29 rfl rfl rfl ?_
  conv => arg 6; whnf
  repeat ((try conv => whnf); first | (with_reducible first | refine z08 (fun Qs hN hE hR => ?_) | refine z06 ?_ | refine z00 (fun Qb kN kE kX kR => ?_) | refine z02 ?_ | refine z03 ?_ | refine z07 ?_ | refine z04 ?_ | refine z05 ?_ | (show W _ _ _ (.cond _ _ _) _ _; refine z01 rfl ?_) | (refine hN _ ?_; try clear hN hE hR Qs) | ((first | refine hE _ _ ?_ | refine hR _ ?_); try clear hN hE hR Qs) | ((first | refine kN _ ?_ | refine kE _ ?_ | refine kX _ _ rfl ?_ | refine kR _ ?_); try clear kN kE kX kR Qb)) | (refine z0c f1 ?_) | (refine i_at g ?_) | (refine ccA ([]) (n1) ?_) | (refine stpQ ?_))
  (refine z09 (by rfl) ?_ ?_ (by rfl)) <;> (repeat' (first | (exact eqA) | (refine And.intro ?_ ?_) | ((fail_if_success (with_reducible (show _ = _))); (show _ = _))))
 ·rw [if_neg h, if_neg h]
  have f1 : (i : Int) ≥ ((strE p).length : Int) := by omega
  refine z0d z0f 1 rfl Tryd.func29 rfl rfl rfl ?_
  conv => arg 6; whnf
  repeat ((try conv => whnf); first | (with_reducible first | refine z08 (fun Qs hN hE hR => ?_) | refine z06 ?_ | refine z00 (fun Qb kN kE kX kR => ?_) | refine z02 ?_ | refine z03 ?_ | refine z07 ?_ | refine z04 ?_ | refine z05 ?_ | (show W _ _ _ (.cond _ _ _) _ _; refine z01 rfl ?_) | (refine hN _ ?_; try clear hN hE hR Qs) | ((first | refine hE _ _ ?_ | refine hR _ ?_); try clear hN hE hR Qs) | ((first | refine kN _ ?_ | refine kE _ ?_ | refine kX _ _ rfl ?_ | refine kR _ ?_); try clear kN kE kX kR Qb)) | (refine z0b f1 ?_) | (refine stpQ ?_))
  (refine z09 (by rfl) ?_ ?_ (by rfl)) <;> (repeat' (first | (exact eqA) | (refine And.intro ?_ ?_) | ((fail_if_success (with_reducible (show _ = _))); (show _ = _))))
theorem z7F (x : Sc) (p : List Bs) (h0 : 0 < p.length) (hx : x.n = 0) :
 CT Tryd.prog 17 (scH x) [.ptr 1 0 0, .sl 1 (strE p)] (.bool (wldB p)) (scH { x with n := nV p 1, k := nV p 2 }) := by
 have g0 := z0g h0
 have hcl := z0h p
 have n1 := z3t p 1 (by decide)
 have n2 := z3t p 2 (by decide)
 have c1 := z2C (nV p 1 : Int) 1 3
 have c2 := z2C (nV p 2 : Int) 0 2
 have hW : wldB p = (decide (pt p 0 = z3W) && (decide (p.length = 3) && (nB p 1 && (nB p 2 && (inB (nV p 1) 1 3 && inB (nV p 2) 0 2))))) := by
  unfold wldB nB nV
  by_cases hl : p.length = 3
  ·simp [hl]
  ·rw [decide_eq_false hl]; simp
 rw [hW]
 clear hW
 unfold z3W scH
 simp only
 rw [hx]
 clear hx
 generalize inB (nV p 1 : Int) 1 3 = i1 at *
 generalize inB (nV p 2 : Int) 0 2 = i2 at *
 generalize (nV p 1 : Int) = v1 at *
 generalize (nV p 2 : Int) = v2 at *
 generalize nB p 1 = b1 at *
 generalize nB p 2 = b2 at *
 generalize pt p 0 = w at *
 generalize strE p = z at *
 by_cases hw : w = [119, 111, 114, 108, 100]
 ·rw [decide_eq_true hw]
  by_cases hl : p.length = 3
  ·rw [decide_eq_true hl]
   have fl : (z.length : Int) = 3 := by omega
   cases b1
   ·refine z0d z0f 4 rfl Tryd.func17 rfl rfl rfl ?_
    repeat ((try conv => whnf); first | (with_reducible first | refine z08 (fun Qs hN hE hR => ?_) | refine z06 ?_ | refine z00 (fun Qb kN kE kX kR => ?_) | refine z02 ?_ | refine z03 ?_ | refine z07 ?_ | refine z04 ?_ | refine z05 ?_ | (show W _ _ _ (.cond _ _ _) _ _; refine z01 rfl ?_) | (refine hN _ ?_; try clear hN hE hR Qs) | ((first | refine hE _ _ ?_ | refine hR _ ?_); try clear hN hE hR Qs) | ((first | refine kN _ ?_ | refine kE _ ?_ | refine kX _ _ rfl ?_ | refine kR _ ?_); try clear kN kE kX kR Qb)) | (refine ccA ([]) (n1) ?_) | (refine ccA ([]) (n2) ?_) | (refine i_at g0 ?_) | (refine z0b hw ?_) | (refine z0b fl ?_) | (refine stpQ ?_))
    (refine z09 (by rfl) ?_ ?_ (by rfl)) <;> (repeat' (first | (exact eqA) | (refine And.intro ?_ ?_) | ((fail_if_success (with_reducible (show _ = _))); (show _ = _)))) <;> rfl
   cases b2
   ·refine z0d z0f 4 rfl Tryd.func17 rfl rfl rfl ?_
    repeat ((try conv => whnf); first | (with_reducible first | refine z08 (fun Qs hN hE hR => ?_) | refine z06 ?_ | refine z00 (fun Qb kN kE kX kR => ?_) | refine z02 ?_ | refine z03 ?_ | refine z07 ?_ | refine z04 ?_ | refine z05 ?_ | (show W _ _ _ (.cond _ _ _) _ _; refine z01 rfl ?_) | (refine hN _ ?_; try clear hN hE hR Qs) | ((first | refine hE _ _ ?_ | refine hR _ ?_); try clear hN hE hR Qs) | ((first | refine kN _ ?_ | refine kE _ ?_ | refine kX _ _ rfl ?_ | refine kR _ ?_); try clear kN kE kX kR Qb)) | (refine ccA ([]) (n1) ?_) | (refine ccA ([]) (n2) ?_) | (refine i_at g0 ?_) | (refine z0b hw ?_) | (refine z0b fl ?_) | (refine stpQ ?_))
    (refine z09 (by rfl) ?_ ?_ (by rfl)) <;> (repeat' (first | (exact eqA) | (refine And.intro ?_ ?_) | ((fail_if_success (with_reducible (show _ = _))); (show _ = _)))) <;> rfl
   cases i1
   ·refine z0d z0f 4 rfl Tryd.func17 rfl rfl rfl ?_
    repeat ((try conv => whnf); first | (with_reducible first | refine z08 (fun Qs hN hE hR => ?_) | refine z06 ?_ | refine z00 (fun Qb kN kE kX kR => ?_) | refine z02 ?_ | refine z03 ?_ | refine z07 ?_ | refine z04 ?_ | refine z05 ?_ | (show W _ _ _ (.cond _ _ _) _ _; refine z01 rfl ?_) | (refine hN _ ?_; try clear hN hE hR Qs) | ((first | refine hE _ _ ?_ | refine hR _ ?_); try clear hN hE hR Qs) | ((first | refine kN _ ?_ | refine kE _ ?_ | refine kX _ _ rfl ?_ | refine kR _ ?_); try clear kN kE kX kR Qb)) | (refine ccA ([]) (n1) ?_) | (refine ccA ([]) (n2) ?_) | (refine i_at g0 ?_) | (refine z0b hw ?_) | (refine z0b fl ?_) | (refine ccA ([]) (c1) ?_) | (refine stpQ ?_))
    (refine z09 (by rfl) ?_ ?_ (by rfl)) <;> (repeat' (first | (exact eqA) | (refine And.intro ?_ ?_) | ((fail_if_success (with_reducible (show _ = _))); (show _ = _)))) <;> rfl
   refine z0d z0f 4 rfl Tryd.func17 rfl rfl rfl ?_
   conv => arg 6; whnf
   repeat ((try conv => whnf); first | (with_reducible first | refine z08 (fun Qs hN hE hR => ?_) | refine z06 ?_ | refine z00 (fun Qb kN kE kX kR => ?_) | refine z02 ?_ | refine z03 ?_ | refine z07 ?_ | refine z04 ?_ | refine z05 ?_ | (show W _ _ _ (.cond _ _ _) _ _; refine z01 rfl ?_) | (refine hN _ ?_; try clear hN hE hR Qs) | ((first | refine hE _ _ ?_ | refine hR _ ?_); try clear hN hE hR Qs) | ((first | refine kN _ ?_ | refine kE _ ?_ | refine kX _ _ rfl ?_ | refine kR _ ?_); try clear kN kE kX kR Qb)) | (refine ccA ([]) (n1) ?_) | (refine ccA ([]) (n2) ?_) | (refine i_at g0 ?_) | (refine z0b hw ?_) | (refine z0b fl ?_) | (refine ccA ([]) (c1) ?_) | (refine ccA ([]) (c2) ?_) | (refine stpQ ?_))
   (refine z09 (by rfl) ?_ ?_ (by rfl)) <;> (repeat' (first | (exact eqA) | (refine And.intro ?_ ?_) | ((fail_if_success (with_reducible (show _ = _))); (show _ = _)))) <;> first | rfl | (cases i2 <;> rfl)
  ·rw [decide_eq_false hl]
   have fl : ¬ (z.length : Int) = 3 := by omega
   refine z0d z0f 4 rfl Tryd.func17 rfl rfl rfl ?_
   conv => arg 6; whnf
   repeat ((try conv => whnf); first | (with_reducible first | refine z08 (fun Qs hN hE hR => ?_) | refine z06 ?_ | refine z00 (fun Qb kN kE kX kR => ?_) | refine z02 ?_ | refine z03 ?_ | refine z07 ?_ | refine z04 ?_ | refine z05 ?_ | (show W _ _ _ (.cond _ _ _) _ _; refine z01 rfl ?_) | (refine hN _ ?_; try clear hN hE hR Qs) | ((first | refine hE _ _ ?_ | refine hR _ ?_); try clear hN hE hR Qs) | ((first | refine kN _ ?_ | refine kE _ ?_ | refine kX _ _ rfl ?_ | refine kR _ ?_); try clear kN kE kX kR Qb)) | (refine ccA ([]) (n1) ?_) | (refine ccA ([]) (n2) ?_) | (refine i_at g0 ?_) | (refine z0b hw ?_) | (refine z0c fl ?_) | (refine stpQ ?_))
   (refine z09 (by rfl) ?_ ?_ (by rfl)) <;> (repeat' (first | (exact eqA) | (refine And.intro ?_ ?_) | ((fail_if_success (with_reducible (show _ = _))); (show _ = _)))) <;> rfl
 ·rw [decide_eq_false hw]
  refine z0d z0f 4 rfl Tryd.func17 rfl rfl rfl ?_
  conv => arg 6; whnf
  repeat ((try conv => whnf); first | (with_reducible first | refine z08 (fun Qs hN hE hR => ?_) | refine z06 ?_ | refine z00 (fun Qb kN kE kX kR => ?_) | refine z02 ?_ | refine z03 ?_ | refine z07 ?_ | refine z04 ?_ | refine z05 ?_ | (show W _ _ _ (.cond _ _ _) _ _; refine z01 rfl ?_) | (refine hN _ ?_; try clear hN hE hR Qs) | ((first | refine hE _ _ ?_ | refine hR _ ?_); try clear hN hE hR Qs) | ((first | refine kN _ ?_ | refine kE _ ?_ | refine kX _ _ rfl ?_ | refine kR _ ?_); try clear kN kE kX kR Qb)) | (refine ccA ([]) (n1) ?_) | (refine ccA ([]) (n2) ?_) | (refine i_at g0 ?_) | (refine z0c hw ?_) | (refine stpQ ?_))
  (refine z09 (by rfl) ?_ ?_ (by rfl)) <;> (repeat' (first | (exact eqA) | (refine And.intro ?_ ?_) | ((fail_if_success (with_reducible (show _ = _))); (show _ = _)))) <;> rfl
theorem z97 (x : Sc) (p : List Bs) (hn : ¬ x.n = 0) (hl : p.length = 1) (hw : pt p 0 = z1F) : CT Tryd.prog 17 (scH x) [.ptr 1 0 0, .sl 1 (strE p)] (.bool true) (scH { x with ca := true }) := by
 have g0 := z0g (p := p) (i := 0) (by omega)
 have fl : ((strE p).length : Int) = 1 := by rw [z0h, hl]; rfl
 unfold z1F at hw
 unfold scH
 generalize pt p 0 = w at *
 generalize strE p = z at *
 refine z0d z0f 4 rfl Tryd.func17 rfl rfl rfl ?_
 conv => arg 6; whnf
 repeat ((try conv => whnf); first | (with_reducible first | refine z08 (fun Qs hN hE hR => ?_) | refine z06 ?_ | refine z00 (fun Qb kN kE kX kR => ?_) | refine z02 ?_ | refine z03 ?_ | refine z07 ?_ | refine z04 ?_ | refine z05 ?_ | (show W _ _ _ (.cond _ _ _) _ _; refine z01 rfl ?_) | (refine hN _ ?_; try clear hN hE hR Qs) | ((first | refine hE _ _ ?_ | refine hR _ ?_); try clear hN hE hR Qs) | ((first | refine kN _ ?_ | refine kE _ ?_ | refine kX _ _ rfl ?_ | refine kR _ ?_); try clear kN kE kX kR Qb)) | (refine z0c hn ?_) | (refine z0b fl ?_) | (refine i_at g0 ?_) | (refine z0b hw ?_) | (refine stpQ ?_))
 (refine z09 (by rfl) ?_ ?_ (by rfl)) <;> (repeat' (first | (exact eqA) | (refine And.intro ?_ ?_) | ((fail_if_success (with_reducible (show _ = _))); (show _ = _))))
theorem za8 (x : Sc) (p : List Bs) (hn : ¬ x.n = 0) (hl : p.length = 4) (hw : pt p 0 = wAsk) (hx : ScOk x) :
 CT Tryd.prog 17 (scH x) [.ptr 1 0 0, .sl 1 (strE p)] (.bool ((isB (pt p 1) && isB (pt p 3)) && decide (x.ak.length < 10))) (scHa { x with ak := x.ak ++ [z5s p] }) := by
 have g0 := z0g (p := p) (i := 0) (by omega)
 have g1 := z0g (p := p) (i := 1) (by omega)
 have g2 := z0g (p := p) (i := 2) (by omega)
 have g3 := z0g (p := p) (i := 3) (by omega)
 have fl : ((strE p).length : Int) = 4 := by rw [z0h, hl]; rfl
 have n1 := z0e (pt p 1)
 have n3 := z0e (pt p 3)
 have hal := z5r x.ak
 have hak := hx.2
 have hs := z8S x.ak (decV (pt p 1)) (decV (pt p 3)) (pt p 2)
 have wne : ¬ pt p 0 = [99, 97, 108, 109] := by rw [hw]; decide
 unfold wAsk at hw
 unfold scH
 show CT _ _ _ _ _ [.box [.int .i64 x.n, .int .i64 x.k, .ref 2, .bool x.ca, .ref 4], .row 10 (evE x.ev), .row 0 [], .row 3 (akE (x.ak ++ [((decV (pt p 1) : Int), pt p 2, (decV (pt p 3) : Int))]))]
 rw [hs]
 clear hs
 generalize (decV (pt p 1) : Int) = v1 at *
 generalize (decV (pt p 3) : Int) = v3 at *
 generalize isB (pt p 1) = b1 at *
 generalize isB (pt p 3) = b3 at *
 generalize pt p 0 = w at *
 generalize pt p 1 = s1 at *
 generalize pt p 2 = s2 at *
 generalize pt p 3 = s3 at *
 generalize strE p = z at *
 have hlen : ∀ a : List T, decide (((akE x.ak ++ (List.replicate 1 [T.int .i64 0, T.str [], T.int .i64 0]).set 0 a).length : Int) ≤ 10) = decide (x.ak.length < 10) := fun a => by
  simp only [List.length_append, List.length_set, List.length_replicate, hal]
  by_cases h : x.ak.length < 10
  ·rw [decide_eq_true h, decide_eq_true (by omega)]
  ·rw [decide_eq_false h, decide_eq_false (by omega)]
 cases b1
 ·refine z0d z0f 4 rfl Tryd.func17 rfl rfl rfl ?_
  repeat ((try conv => whnf); first | (with_reducible first | refine z08 (fun Qs hN hE hR => ?_) | refine z06 ?_ | refine z00 (fun Qb kN kE kX kR => ?_) | refine z02 ?_ | refine z03 ?_ | refine z07 ?_ | refine z04 ?_ | refine z05 ?_ | (show W _ _ _ (.cond _ _ _) _ _; refine z01 rfl ?_) | (refine hN _ ?_; try clear hN hE hR Qs) | ((first | refine hE _ _ ?_ | refine hR _ ?_); try clear hN hE hR Qs) | ((first | refine kN _ ?_ | refine kE _ ?_ | refine kX _ _ rfl ?_ | refine kR _ ?_); try clear kN kE kX kR Qb)) | (refine z0c hn ?_) | (refine z0b fl ?_) | (refine i_at g0 ?_) | (refine i_at g1 ?_) | (refine i_at g2 ?_) | (refine i_at g3 ?_) | (refine z0c wne ?_) | (refine z0b hw ?_) | (refine And.intro (by kernel_rfl) ?_) | (refine ccA ([]) (n1) ?_) | (refine ccA ([]) (n3) ?_) | (refine And.intro (by simp only [List.length_append, List.length_set, List.length_replicate]; omega) ?_) | (refine stpQ ?_))
  (refine z09 (by rfl) ?_ ?_ (by rfl)) <;> (repeat' (first | (exact eqA) | (refine And.intro ?_ ?_) | ((fail_if_success (with_reducible (show _ = _))); (show _ = _)))) <;> rfl
 cases b3
 ·refine z0d z0f 4 rfl Tryd.func17 rfl rfl rfl ?_
  repeat ((try conv => whnf); first | (with_reducible first | refine z08 (fun Qs hN hE hR => ?_) | refine z06 ?_ | refine z00 (fun Qb kN kE kX kR => ?_) | refine z02 ?_ | refine z03 ?_ | refine z07 ?_ | refine z04 ?_ | refine z05 ?_ | (show W _ _ _ (.cond _ _ _) _ _; refine z01 rfl ?_) | (refine hN _ ?_; try clear hN hE hR Qs) | ((first | refine hE _ _ ?_ | refine hR _ ?_); try clear hN hE hR Qs) | ((first | refine kN _ ?_ | refine kE _ ?_ | refine kX _ _ rfl ?_ | refine kR _ ?_); try clear kN kE kX kR Qb)) | (refine z0c hn ?_) | (refine z0b fl ?_) | (refine i_at g0 ?_) | (refine i_at g1 ?_) | (refine i_at g2 ?_) | (refine i_at g3 ?_) | (refine z0c wne ?_) | (refine z0b hw ?_) | (refine And.intro (by kernel_rfl) ?_) | (refine ccA ([]) (n1) ?_) | (refine ccA ([]) (n3) ?_) | (refine And.intro (by simp only [List.length_append, List.length_set, List.length_replicate]; omega) ?_) | (refine stpQ ?_))
  (refine z09 (by rfl) ?_ ?_ (by rfl)) <;> (repeat' (first | (exact eqA) | (refine And.intro ?_ ?_) | ((fail_if_success (with_reducible (show _ = _))); (show _ = _)))) <;> rfl
 refine z0d z0f 4 rfl Tryd.func17 rfl rfl rfl ?_
 conv => arg 6; whnf
 repeat ((try conv => whnf); first | (with_reducible first | refine z08 (fun Qs hN hE hR => ?_) | refine z06 ?_ | refine z00 (fun Qb kN kE kX kR => ?_) | refine z02 ?_ | refine z03 ?_ | refine z07 ?_ | refine z04 ?_ | refine z05 ?_ | (show W _ _ _ (.cond _ _ _) _ _; refine z01 rfl ?_) | (refine hN _ ?_; try clear hN hE hR Qs) | ((first | refine hE _ _ ?_ | refine hR _ ?_); try clear hN hE hR Qs) | ((first | refine kN _ ?_ | refine kE _ ?_ | refine kX _ _ rfl ?_ | refine kR _ ?_); try clear kN kE kX kR Qb)) | (refine z0c hn ?_) | (refine z0b fl ?_) | (refine i_at g0 ?_) | (refine i_at g1 ?_) | (refine i_at g2 ?_) | (refine i_at g3 ?_) | (refine z0c wne ?_) | (refine z0b hw ?_) | (refine And.intro (by kernel_rfl) ?_) | (refine ccA ([]) (n1) ?_) | (refine ccA ([]) (n3) ?_) | (refine And.intro (by simp only [List.length_append, List.length_set, List.length_replicate]; omega) ?_) | (refine stpQ ?_))
 (refine z09 (by rfl) ?_ ?_ (by rfl)) <;> (repeat' (first | (exact eqA) | (refine And.intro ?_ ?_) | ((fail_if_success (with_reducible (show _ = _))); (show _ = _)))) <;> first | rfl | exact hlen _ | exact (hlen _).trans (by rfl)
theorem zbG (x : Sc) (p : List Bs) (hn : ¬ x.n = 0) (h0 : 0 < p.length) (hbd : ∀ i, (pt p i).length ≤ 600) (hc : ¬ (p.length = 1 ∧ pt p 0 = z1F)) (ha : ¬ (p.length = 4 ∧ pt p 0 = wAsk)) (hx : ScOk x)
 (hf : ((evR (rawE p)).cn.length : Int) ≤ 1000000000 ∧ ((evR (rawE p)).cv.length : Int) ≤ 1000000000) :
 CT Tryd.prog 17 (scH x) [.ptr 1 0 0, .sl 1 (strE p)] (.bool ((okR (rawE p) && evOk (evR (rawE p))) && decide (x.ev.length < 90))) (scHe { x with ev := x.ev ++ [evR (rawE p)] }) := by
 have g0 := z0g (p := p) h0
 have hcl : (strE p).length = p.length := z0h p
 have cr := z7E p h0
 have ce := z7v (evR (rawE p)) hf
 have hel := z0B x.ev
 have hev := hx.1
 unfold z1F at hc
 unfold wAsk at ha
 unfold scH scHe
 simp only
 rw [z8T]
 generalize evOk (evR (rawE p)) = q at *
 generalize okR (rawE p) = ok at *
 generalize evR (rawE p) = e at *
 obtain ⟨k, h, a, mk, mn, ma, ci, cn, cv, tx⟩ := e
 unfold evC at *
 simp only at cr ce ⊢
 clear h0 hbd hf
 generalize pt p 0 = w at *
 generalize strE p = z at *
 generalize p.length = n at *
 have hlen : ∀ a : List T, decide (((evE x.ev ++ (List.replicate 1 zEv).set 0 a).length : Int) ≤ 90) = decide (x.ev.length < 90) := fun a => by
  simp only [List.length_append, List.length_set, List.length_replicate, hel]
  by_cases h : x.ev.length < 90
  ·rw [decide_eq_true h, decide_eq_true (by omega)]
  ·rw [decide_eq_false h, decide_eq_false (by omega)]
 by_cases k1 : w = [99, 97, 108, 109]
 ·have fl : ¬ (z.length : Int) = 1 := fun c => hc ⟨by omega, k1⟩
  have u : ¬ w = [97, 115, 107] := by rw [k1]; decide
  clear hc ha
  cases ok
  ·refine z0d z0f 4 rfl Tryd.func17 rfl rfl rfl ?_
   repeat ((try conv => whnf); first | (with_reducible first | refine z08 (fun Qs hN hE hR => ?_) | refine z06 ?_ | refine z00 (fun Qb kN kE kX kR => ?_) | refine z02 ?_ | refine z03 ?_ | refine z07 ?_ | refine z04 ?_ | refine z05 ?_ | (show W _ _ _ (.cond _ _ _) _ _; refine z01 rfl ?_) | (refine hN _ ?_; try clear hN hE hR Qs) | ((first | refine hE _ _ ?_ | refine hR _ ?_); try clear hN hE hR Qs) | ((first | refine kN _ ?_ | refine kE _ ?_ | refine kX _ _ rfl ?_ | refine kR _ ?_); try clear kN kE kX kR Qb)) | (refine z0c hn ?_) | (refine z0b k1 ?_) | (refine z0c u ?_) | (refine z0c fl ?_) | (refine i_at g0 ?_) | (refine And.intro (by kernel_rfl) ?_) | (refine ccA ([]) (cr) ?_) | (refine ccA ([]) (ce) ?_) | (refine And.intro (by simp only [List.length_append, List.length_set, List.length_replicate]; omega) ?_) | (refine stpQ ?_))
   (refine z09 (by rfl) ?_ ?_ (by rfl)) <;> (repeat' (first | (exact eqA) | (refine And.intro ?_ ?_) | ((fail_if_success (with_reducible (show _ = _))); (show _ = _)))) <;> rfl
  cases q
  ·refine z0d z0f 4 rfl Tryd.func17 rfl rfl rfl ?_
   repeat ((try conv => whnf); first | (with_reducible first | refine z08 (fun Qs hN hE hR => ?_) | refine z06 ?_ | refine z00 (fun Qb kN kE kX kR => ?_) | refine z02 ?_ | refine z03 ?_ | refine z07 ?_ | refine z04 ?_ | refine z05 ?_ | (show W _ _ _ (.cond _ _ _) _ _; refine z01 rfl ?_) | (refine hN _ ?_; try clear hN hE hR Qs) | ((first | refine hE _ _ ?_ | refine hR _ ?_); try clear hN hE hR Qs) | ((first | refine kN _ ?_ | refine kE _ ?_ | refine kX _ _ rfl ?_ | refine kR _ ?_); try clear kN kE kX kR Qb)) | (refine z0c hn ?_) | (refine z0b k1 ?_) | (refine z0c u ?_) | (refine z0c fl ?_) | (refine i_at g0 ?_) | (refine And.intro (by kernel_rfl) ?_) | (refine ccA ([]) (cr) ?_) | (refine ccA ([]) (ce) ?_) | (refine And.intro (by simp only [List.length_append, List.length_set, List.length_replicate]; omega) ?_) | (refine stpQ ?_))
   (refine z09 (by rfl) ?_ ?_ (by rfl)) <;> (repeat' (first | (exact eqA) | (refine And.intro ?_ ?_) | ((fail_if_success (with_reducible (show _ = _))); (show _ = _)))) <;> rfl
  refine z0d z0f 4 rfl Tryd.func17 rfl rfl rfl ?_
  conv => arg 6; whnf
  repeat ((try conv => whnf); first | (with_reducible first | refine z08 (fun Qs hN hE hR => ?_) | refine z06 ?_ | refine z00 (fun Qb kN kE kX kR => ?_) | refine z02 ?_ | refine z03 ?_ | refine z07 ?_ | refine z04 ?_ | refine z05 ?_ | (show W _ _ _ (.cond _ _ _) _ _; refine z01 rfl ?_) | (refine hN _ ?_; try clear hN hE hR Qs) | ((first | refine hE _ _ ?_ | refine hR _ ?_); try clear hN hE hR Qs) | ((first | refine kN _ ?_ | refine kE _ ?_ | refine kX _ _ rfl ?_ | refine kR _ ?_); try clear kN kE kX kR Qb)) | (refine z0c hn ?_) | (refine z0b k1 ?_) | (refine z0c u ?_) | (refine z0c fl ?_) | (refine i_at g0 ?_) | (refine And.intro (by kernel_rfl) ?_) | (refine ccA ([]) (cr) ?_) | (refine ccA ([]) (ce) ?_) | (refine And.intro (by simp only [List.length_append, List.length_set, List.length_replicate]; omega) ?_) | (refine stpQ ?_))
  (refine z09 (by rfl) ?_ ?_ (by rfl)) <;> (repeat' (first | (exact eqA) | (refine And.intro ?_ ?_) | ((fail_if_success (with_reducible (show _ = _))); (show _ = _)))) <;> first | rfl | exact hlen _ | exact (hlen _).trans (by rfl)
 by_cases k4 : w = [97, 115, 107]
 ·have fl : ¬ (z.length : Int) = 4 := fun c => ha ⟨by omega, k4⟩
  clear hc ha
  cases ok
  ·refine z0d z0f 4 rfl Tryd.func17 rfl rfl rfl ?_
   repeat ((try conv => whnf); first | (with_reducible first | refine z08 (fun Qs hN hE hR => ?_) | refine z06 ?_ | refine z00 (fun Qb kN kE kX kR => ?_) | refine z02 ?_ | refine z03 ?_ | refine z07 ?_ | refine z04 ?_ | refine z05 ?_ | (show W _ _ _ (.cond _ _ _) _ _; refine z01 rfl ?_) | (refine hN _ ?_; try clear hN hE hR Qs) | ((first | refine hE _ _ ?_ | refine hR _ ?_); try clear hN hE hR Qs) | ((first | refine kN _ ?_ | refine kE _ ?_ | refine kX _ _ rfl ?_ | refine kR _ ?_); try clear kN kE kX kR Qb)) | (refine z0c hn ?_) | (refine z0c k1 ?_) | (refine z0b k4 ?_) | (refine z0c fl ?_) | (refine i_at g0 ?_) | (refine And.intro (by kernel_rfl) ?_) | (refine ccA ([]) (cr) ?_) | (refine ccA ([]) (ce) ?_) | (refine And.intro (by simp only [List.length_append, List.length_set, List.length_replicate]; omega) ?_) | (refine stpQ ?_))
   (refine z09 (by rfl) ?_ ?_ (by rfl)) <;> (repeat' (first | (exact eqA) | (refine And.intro ?_ ?_) | ((fail_if_success (with_reducible (show _ = _))); (show _ = _)))) <;> rfl
  cases q
  ·refine z0d z0f 4 rfl Tryd.func17 rfl rfl rfl ?_
   repeat ((try conv => whnf); first | (with_reducible first | refine z08 (fun Qs hN hE hR => ?_) | refine z06 ?_ | refine z00 (fun Qb kN kE kX kR => ?_) | refine z02 ?_ | refine z03 ?_ | refine z07 ?_ | refine z04 ?_ | refine z05 ?_ | (show W _ _ _ (.cond _ _ _) _ _; refine z01 rfl ?_) | (refine hN _ ?_; try clear hN hE hR Qs) | ((first | refine hE _ _ ?_ | refine hR _ ?_); try clear hN hE hR Qs) | ((first | refine kN _ ?_ | refine kE _ ?_ | refine kX _ _ rfl ?_ | refine kR _ ?_); try clear kN kE kX kR Qb)) | (refine z0c hn ?_) | (refine z0c k1 ?_) | (refine z0b k4 ?_) | (refine z0c fl ?_) | (refine i_at g0 ?_) | (refine And.intro (by kernel_rfl) ?_) | (refine ccA ([]) (cr) ?_) | (refine ccA ([]) (ce) ?_) | (refine And.intro (by simp only [List.length_append, List.length_set, List.length_replicate]; omega) ?_) | (refine stpQ ?_))
   (refine z09 (by rfl) ?_ ?_ (by rfl)) <;> (repeat' (first | (exact eqA) | (refine And.intro ?_ ?_) | ((fail_if_success (with_reducible (show _ = _))); (show _ = _)))) <;> rfl
  refine z0d z0f 4 rfl Tryd.func17 rfl rfl rfl ?_
  conv => arg 6; whnf
  repeat ((try conv => whnf); first | (with_reducible first | refine z08 (fun Qs hN hE hR => ?_) | refine z06 ?_ | refine z00 (fun Qb kN kE kX kR => ?_) | refine z02 ?_ | refine z03 ?_ | refine z07 ?_ | refine z04 ?_ | refine z05 ?_ | (show W _ _ _ (.cond _ _ _) _ _; refine z01 rfl ?_) | (refine hN _ ?_; try clear hN hE hR Qs) | ((first | refine hE _ _ ?_ | refine hR _ ?_); try clear hN hE hR Qs) | ((first | refine kN _ ?_ | refine kE _ ?_ | refine kX _ _ rfl ?_ | refine kR _ ?_); try clear kN kE kX kR Qb)) | (refine z0c hn ?_) | (refine z0c k1 ?_) | (refine z0b k4 ?_) | (refine z0c fl ?_) | (refine i_at g0 ?_) | (refine And.intro (by kernel_rfl) ?_) | (refine ccA ([]) (cr) ?_) | (refine ccA ([]) (ce) ?_) | (refine And.intro (by simp only [List.length_append, List.length_set, List.length_replicate]; omega) ?_) | (refine stpQ ?_))
  (refine z09 (by rfl) ?_ ?_ (by rfl)) <;> (repeat' (first | (exact eqA) | (refine And.intro ?_ ?_) | ((fail_if_success (with_reducible (show _ = _))); (show _ = _)))) <;> first | rfl | exact hlen _ | exact (hlen _).trans (by rfl)
 ·have ftt : True := trivial
  clear hc ha
  cases ok
  ·refine z0d z0f 4 rfl Tryd.func17 rfl rfl rfl ?_
   repeat ((try conv => whnf); first | (with_reducible first | refine z08 (fun Qs hN hE hR => ?_) | refine z06 ?_ | refine z00 (fun Qb kN kE kX kR => ?_) | refine z02 ?_ | refine z03 ?_ | refine z07 ?_ | refine z04 ?_ | refine z05 ?_ | (show W _ _ _ (.cond _ _ _) _ _; refine z01 rfl ?_) | (refine hN _ ?_; try clear hN hE hR Qs) | ((first | refine hE _ _ ?_ | refine hR _ ?_); try clear hN hE hR Qs) | ((first | refine kN _ ?_ | refine kE _ ?_ | refine kX _ _ rfl ?_ | refine kR _ ?_); try clear kN kE kX kR Qb)) | (refine z0c hn ?_) | (refine z0c k1 ?_) | (refine z0c k4 ?_) | (refine i_at g0 ?_) | (refine And.intro (by kernel_rfl) ?_) | (refine ccA ([]) (cr) ?_) | (refine ccA ([]) (ce) ?_) | (refine And.intro (by simp only [List.length_append, List.length_set, List.length_replicate]; omega) ?_) | (refine stpQ ?_))
   (refine z09 (by rfl) ?_ ?_ (by rfl)) <;> (repeat' (first | (exact eqA) | (refine And.intro ?_ ?_) | ((fail_if_success (with_reducible (show _ = _))); (show _ = _)))) <;> rfl
  cases q
  ·refine z0d z0f 4 rfl Tryd.func17 rfl rfl rfl ?_
   repeat ((try conv => whnf); first | (with_reducible first | refine z08 (fun Qs hN hE hR => ?_) | refine z06 ?_ | refine z00 (fun Qb kN kE kX kR => ?_) | refine z02 ?_ | refine z03 ?_ | refine z07 ?_ | refine z04 ?_ | refine z05 ?_ | (show W _ _ _ (.cond _ _ _) _ _; refine z01 rfl ?_) | (refine hN _ ?_; try clear hN hE hR Qs) | ((first | refine hE _ _ ?_ | refine hR _ ?_); try clear hN hE hR Qs) | ((first | refine kN _ ?_ | refine kE _ ?_ | refine kX _ _ rfl ?_ | refine kR _ ?_); try clear kN kE kX kR Qb)) | (refine z0c hn ?_) | (refine z0c k1 ?_) | (refine z0c k4 ?_) | (refine i_at g0 ?_) | (refine And.intro (by kernel_rfl) ?_) | (refine ccA ([]) (cr) ?_) | (refine ccA ([]) (ce) ?_) | (refine And.intro (by simp only [List.length_append, List.length_set, List.length_replicate]; omega) ?_) | (refine stpQ ?_))
   (refine z09 (by rfl) ?_ ?_ (by rfl)) <;> (repeat' (first | (exact eqA) | (refine And.intro ?_ ?_) | ((fail_if_success (with_reducible (show _ = _))); (show _ = _)))) <;> rfl
  refine z0d z0f 4 rfl Tryd.func17 rfl rfl rfl ?_
  conv => arg 6; whnf
  repeat ((try conv => whnf); first | (with_reducible first | refine z08 (fun Qs hN hE hR => ?_) | refine z06 ?_ | refine z00 (fun Qb kN kE kX kR => ?_) | refine z02 ?_ | refine z03 ?_ | refine z07 ?_ | refine z04 ?_ | refine z05 ?_ | (show W _ _ _ (.cond _ _ _) _ _; refine z01 rfl ?_) | (refine hN _ ?_; try clear hN hE hR Qs) | ((first | refine hE _ _ ?_ | refine hR _ ?_); try clear hN hE hR Qs) | ((first | refine kN _ ?_ | refine kE _ ?_ | refine kX _ _ rfl ?_ | refine kR _ ?_); try clear kN kE kX kR Qb)) | (refine z0c hn ?_) | (refine z0c k1 ?_) | (refine z0c k4 ?_) | (refine i_at g0 ?_) | (refine And.intro (by kernel_rfl) ?_) | (refine ccA ([]) (cr) ?_) | (refine ccA ([]) (ce) ?_) | (refine And.intro (by simp only [List.length_append, List.length_set, List.length_replicate]; omega) ?_) | (refine stpQ ?_))
  (refine z09 (by rfl) ?_ ?_ (by rfl)) <;> (repeat' (first | (exact eqA) | (refine And.intro ?_ ?_) | ((fail_if_success (with_reducible (show _ = _))); (show _ = _)))) <;> first | rfl | exact hlen _ | exact (hlen _).trans (by rfl)
end
end Go.Proofs.YtfgkjgfigjpkoaaDoor
namespace Go.Proofs.YtfgkjgfigjpkoaaDoor
set_option linter.unusedVariables false
set_option linter.unusedSimpArgs false
set_option linter.unusedSectionVars false
open Go.RowKit Pl
def hK (l : Bs) (k : Nat) : List Bs × Bs := lnF (l.take k)
theorem hK_at {l : Bs} {k : Nat} (h : k ≤ l.length) : (hK l k).1.length ≤ k ∧ (hK l k).2.length ≤ k ∧ (hK l k).2 = (l.take k).drop (k - (hK l k).2.length) := ⟨z4H l k h, z8I l k h⟩
theorem zbH {l : Bs} {k : Nat} (h : k < l.length) : hK l (k + 1) = lnS (hK l k) (l.getD k 0) := z4G h
theorem lnS_nl {x : List Bs × Bs} {b : UInt8} (h : b.toNat = 10) : lnS x b = (x.1 ++ [x.2], []) := if_pos h
theorem lnS_by {x : List Bs × Bs} {b : UInt8} (h : ¬ b.toNat = 10) : lnS x b = (x.1, x.2 ++ [b]) := if_neg h
theorem z98 (l : Bs) : hK l 0 = ([], []) := rfl
theorem zaI (l : Bs) : hK l l.length = lnF l := by rw [hK, List.take_length]
theorem z5v {o : List Bs} {c d : Bs} (h : c = d) : strE (o ++ [c]) = strE o ++ [[.str d]] := by subst h; simp [strE]
theorem su0 (l : Bs) : strE (hK l 0).1 = [] := by rw [z98]; rfl
theorem su2 (l : Bs) : ((0 - (hK l 0).2.length : Nat) : Int) = 0 := by rw [z98]; rfl
section
attribute [local irreducible] z0t z0u z0C AnsP LeP W
attribute [local irreducible] hK lnF lnS
set_option maxRecDepth 100000 in
set_option maxHeartbeats 2000000 in
theorem z7G (l : Bs) (hl : l.length ≤ 4000) : CT Tryd.prog 15 [] [.str l] (.ref 1) [.row 1 (strE (linM l))] := by
 obtain ⟨e1, e2, e3⟩ := hK_at (l := l) (Nat.le_refl _)
 rw [zaI] at e1 e2 e3
 rw [List.take_length] at e3
 have hM : linM l = if (lnF l).2 = [] then (lnF l).1 else (lnF l).1 ++ [(lnF l).2] := rfl
 refine z0d z13 1 rfl Tryd.func15 rfl rfl rfl ?_
 conv => arg 6; whnf
 repeat ((try conv => whnf); first | (with_reducible first | refine z08 (fun Qs hN hE hR => ?_) | refine z06 ?_ | refine z00 (fun Qb kN kE kX kR => ?_) | refine z02 ?_ | refine z03 ?_ | refine z07 ?_ | refine z04 ?_ | refine z05 ?_ | (show W _ _ _ (.cond _ _ _) _ _; refine z01 rfl ?_) | (refine hN _ ?_; try clear hN hE hR Qs) | ((first | refine hE _ _ ?_ | refine hR _ ?_); try clear hN hE hR Qs) | ((first | refine kN _ ?_ | refine kE _ ?_ | refine kX _ _ rfl ?_ | refine kR _ ?_); try clear kN kE kX kR Qb)) | (refine stpQ ?_))
 refine z0A 0 ⟨[(0, .str l), (3, .ref 1), (4, .int .i64 ((l.length - (lnF l).2.length : Nat) : Int))], [(1, some (.row 1 (strE (lnF l).1)))], 2⟩ Nat (fun k => ⟨[(0, .str l), (3, .ref 1), (4, .int .i64 ((k - (hK l k).2.length : Nat) : Int)), (5, .int .i64 (k : Int))], [(1, some (.row 1 (strE (hK l k).1)))], 2⟩) (fun k => k ≤ l.length) (fun k => l.length - k) 0 (by omega) ?_ ?_ ?_
 ·(refine z0a (by rfl) ?_ ?_) <;> (repeat' (first | (exact eqA) | (refine And.intro ?_ ?_) | ((fail_if_success (with_reducible (show _ = _))); (show _ = _)))) <;> first | rfl | decide | exact (su0 l).symm | exact (su0 l) | exact (su2 l).symm | exact (su2 l)
 ·clear e1 e2 e3 hM
  intro k hk
  by_cases hkl : k < l.length
  ·have f1 : (k : Int) < (l.length : Int) := by omega
   obtain ⟨h1, h2, h3⟩ := hK_at hk
   have hlo := z0h (hK l k).1
   have hn := zbH hkl
   by_cases h10 : (l.getD k 0).toNat = 10
   ·have f3 : ((l.getD k 0).toNat : Int) = 10 := by omega
    have hn : hK l (k + 1) = ((hK l k).1 ++ [(hK l k).2], []) := by rw [hn]; exact lnS_nl h10
    have hs := z5v (o := (hK l k).1) h3
    have f6 : k - (hK l k).2.length ≤ k ∧ k ≤ l.length := ⟨by omega, hk⟩
    clear h10 h3
    generalize hK l k = x at *
    clear h2
    repeat ((try conv => whnf); first | (with_reducible first | refine z08 (fun Qs hN hE hR => ?_) | refine z06 ?_ | refine z00 (fun Qb kN kE kX kR => ?_) | refine z02 ?_ | refine z03 ?_ | refine z07 ?_ | refine z04 ?_ | refine z05 ?_ | (show W _ _ _ (.cond _ _ _) _ _; refine z01 rfl ?_) | (refine hN _ ?_; try clear hN hE hR Qs) | ((first | refine hE _ _ ?_ | refine hR _ ?_); try clear hN hE hR Qs) | ((first | refine kN _ ?_ | refine kE _ ?_ | refine kX _ _ rfl ?_ | refine kR _ ?_); try clear kN kE kX kR Qb)) | (refine z0b f1 ?_) | (refine i_lt hkl ?_) | (refine z0b f3 ?_) | (refine z3A f6 ?_) | (refine And.intro (by simp only [List.length_append, List.length_set, List.length_replicate]; omega) ?_) | (refine stpQ ?_))
    refine ⟨k + 1, by omega, by omega, ?_⟩
    rw [hn]
    (refine z0a (by rfl) ?_ ?_) <;> (repeat' (first | (exact eqA) | (refine And.intro ?_ ?_) | ((fail_if_success (with_reducible (show _ = _))); (show _ = _)))) <;> first | rfl | exact hs.symm | exact hs
   ·have f3 : ¬ ((l.getD k 0).toNat : Int) = 10 := by omega
    have hn : hK l (k + 1) = ((hK l k).1, (hK l k).2 ++ [l.getD k 0]) := by rw [hn]; exact lnS_by h10
    have hf : k + 1 - ((hK l k).2 ++ [l.getD k 0]).length = k - (hK l k).2.length := by rw [List.length_append, List.length_singleton]; omega
    clear h10 h3 h1 h2 hlo
    repeat ((try conv => whnf); first | (with_reducible first | refine z08 (fun Qs hN hE hR => ?_) | refine z06 ?_ | refine z00 (fun Qb kN kE kX kR => ?_) | refine z02 ?_ | refine z03 ?_ | refine z07 ?_ | refine z04 ?_ | refine z05 ?_ | (show W _ _ _ (.cond _ _ _) _ _; refine z01 rfl ?_) | (refine hN _ ?_; try clear hN hE hR Qs) | ((first | refine hE _ _ ?_ | refine hR _ ?_); try clear hN hE hR Qs) | ((first | refine kN _ ?_ | refine kE _ ?_ | refine kX _ _ rfl ?_ | refine kR _ ?_); try clear kN kE kX kR Qb)) | (refine z0b f1 ?_) | (refine i_lt hkl ?_) | (refine z0c f3 ?_) | (refine stpQ ?_))
    refine ⟨k + 1, by omega, by omega, ?_⟩
    rw [hn, hf]
    (refine z0a (by rfl) ?_ ?_) <;> (repeat' (first | (exact eqA) | (refine And.intro ?_ ?_) | ((fail_if_success (with_reducible (show _ = _))); (show _ = _)))) <;> rfl
  ·have hke : k = l.length := by omega
   subst hke
   have f1 : ¬ (l.length : Int) < (l.length : Int) := by omega
   rw [zaI]
   repeat ((try conv => whnf); first | (with_reducible first | refine z08 (fun Qs hN hE hR => ?_) | refine z06 ?_ | refine z00 (fun Qb kN kE kX kR => ?_) | refine z02 ?_ | refine z03 ?_ | refine z07 ?_ | refine z04 ?_ | refine z05 ?_ | (show W _ _ _ (.cond _ _ _) _ _; refine z01 rfl ?_) | (refine hN _ ?_; try clear hN hE hR Qs) | ((first | refine hE _ _ ?_ | refine hR _ ?_); try clear hN hE hR Qs) | ((first | refine kN _ ?_ | refine kE _ ?_ | refine kX _ _ rfl ?_ | refine kR _ ?_); try clear kN kE kX kR Qb)) | (refine z0c f1 ?_) | (refine stpQ ?_))
   (refine z0a (by rfl) ?_ ?_) <;> (repeat' (first | (exact eqA) | (refine And.intro ?_ ?_) | ((fail_if_success (with_reducible (show _ = _))); (show _ = _))))
 ·have hlo := z0h (lnF l).1
  by_cases hc : (lnF l).2 = []
  ·rw [if_pos hc] at hM
   have f1 : ¬ ((l.length - (lnF l).2.length : Nat) : Int) < (l.length : Int) := by rw [hc]; simp
   repeat ((try conv => whnf); first | (with_reducible first | refine z08 (fun Qs hN hE hR => ?_) | refine z06 ?_ | refine z00 (fun Qb kN kE kX kR => ?_) | refine z02 ?_ | refine z03 ?_ | refine z07 ?_ | refine z04 ?_ | refine z05 ?_ | (show W _ _ _ (.cond _ _ _) _ _; refine z01 rfl ?_) | (refine hN _ ?_; try clear hN hE hR Qs) | ((first | refine hE _ _ ?_ | refine hR _ ?_); try clear hN hE hR Qs) | ((first | refine kN _ ?_ | refine kE _ ?_ | refine kX _ _ rfl ?_ | refine kR _ ?_); try clear kN kE kX kR Qb)) | (refine z0c f1 ?_) | (refine stpQ ?_))
   (refine z09 (by rfl) ?_ ?_ (by rfl)) <;> (repeat' (first | (exact eqA) | (refine And.intro ?_ ?_) | ((fail_if_success (with_reducible (show _ = _))); (show _ = _)))) <;> (rw [hM]; done)
  ·rw [if_neg hc] at hM
   have hcl : 0 < (lnF l).2.length := List.length_pos_iff.2 hc
   have f1 : ((l.length - (lnF l).2.length : Nat) : Int) < (l.length : Int) := by omega
   have f6 : l.length - (lnF l).2.length ≤ l.length := by omega
   have e4 : (lnF l).2 = (l.drop (l.length - (lnF l).2.length)) := e3
   have hs := z5v (o := (lnF l).1) e4
   rw [← hM] at hs
   clear hM e3 e4 hc hcl
   generalize lnF l = x at *
   clear e2
   repeat ((try conv => whnf); first | (with_reducible first | refine z08 (fun Qs hN hE hR => ?_) | refine z06 ?_ | refine z00 (fun Qb kN kE kX kR => ?_) | refine z02 ?_ | refine z03 ?_ | refine z07 ?_ | refine z04 ?_ | refine z05 ?_ | (show W _ _ _ (.cond _ _ _) _ _; refine z01 rfl ?_) | (refine hN _ ?_; try clear hN hE hR Qs) | ((first | refine hE _ _ ?_ | refine hR _ ?_); try clear hN hE hR Qs) | ((first | refine kN _ ?_ | refine kE _ ?_ | refine kX _ _ rfl ?_ | refine kR _ ?_); try clear kN kE kX kR Qb)) | (refine z0b f1 ?_) | (refine i_le f6 ?_) | (refine Exists.intro _ (And.intro rfl (And.intro f6 ?_))) | (refine And.intro (by simp only [List.length_append, List.length_set, List.length_replicate]; omega) ?_) | (refine stpQ ?_))
   (refine z09 (by rfl) ?_ ?_ (by rfl)) <;> (repeat' (first | (exact eqA) | (refine And.intro ?_ ?_) | ((fail_if_success (with_reducible (show _ = _))); (show _ = _)))) <;> first | rfl | exact hs.symm | exact hs
end
end Go.Proofs.YtfgkjgfigjpkoaaDoor
