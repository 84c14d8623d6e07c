/- Functions by content: an event's line, read by the program. -/
import Derived.Test.YtfgkjgfigjpkoaaDoorRdm
namespace Go.Proofs.YtfgkjgfigjpkoaaDoor
set_option maxRecDepth 100000
set_option maxHeartbeats 2000000
set_option linter.unusedVariables false
set_option linter.unusedSimpArgs false
set_option linter.unusedSectionVars false
open Go.RowKit Pl
section
attribute [local irreducible] z0t z0u z0C AnsP LeP W
theorem c_re0 (p : List Bs) (hw : wdL.getD 0 [] = pt p 0) (hl : p.length = wdN 0) : CT Tryd.prog 28 [] [.sl 1 (strE p)] (.tup [.agg (evC (wdE 0 p)), .bool (wdB 0 p && evOk (wdE 0 p))]) [] := by
 have hl : p.length = 2 := hl.trans rfl
 have hw : pt p 0 = [116, 101, 108, 108] := hw.symm
 have g0 := z0g (p := p) (i := 0) (by omega)
 rw [hw] at g0
 have hcl : (strE p).length = 2 := by rw [z0h]; exact hl
 have n1 := z0G p 1 (pt p 1) (z0V (by omega)) (false)
 have hM : wdB 0 p = (isB (pt p 1)) := by simp [wdB]
 have hE : wdE 0 p = { k := ((0 + 2 : Nat) : Int), h := decV (pt p 1) } := by simp [wdE]
 rw [hM, hE]
 have ce := z0D { k := ((0 + 2 : Nat) : Int), h := decV (pt p 1) } ⟨by simp, by simp⟩
 generalize hq : evOk { k := ((0 + 2 : Nat) : Int), h := decV (pt p 1) } = q at ce ⊢
 clear hq hE hM hl hw
 generalize (decV (pt p 1) : Int) = v1 at *
 generalize isB (pt p 1) = b1 at *
 generalize strE p = z at *
 have fn : (z.length : Int) = 2 := by omega
 have f3 : ¬ (z.length : Int) = 3 := by omega
 have f4 : ¬ (z.length : Int) = 4 := by omega
 have wj : ([116, 101, 108, 108] : Bs) = [116, 101, 108, 108] := rfl
 refine z0d z0f 1 rfl Tryd.func28 rfl rfl rfl ?_
 conv => arg 6; whnf
 cases hall : (b1)
 ·have hB : (!(false || !b1)) = false := by revert hall; cases b1 <;> decide
  repeat ((try conv => whnf); first | (with_reducible first | refine z08 (fun Qs hN hE hR => ?_) | refine z06 ?_ | refine z00 (fun Qb kN kE kX kR => ?_) | refine z02 ?_ | refine z03 ?_ | refine z07 ?_ | refine z04 ?_ | refine z05 ?_ | (show W _ _ _ (.cond _ _ _) _ _; refine z01 rfl ?_) | (refine hN _ ?_; try clear hN hE hR Qs) | ((first | refine hE _ _ ?_ | refine hR _ ?_); try clear hN hE hR Qs) | ((first | refine kN _ ?_ | refine kE _ ?_ | refine kX _ _ rfl ?_ | refine kR _ ?_); try clear kN kE kX kR Qb)) | (refine z0c f3 ?_) | (refine z0c f4 ?_) | (refine z0b fn ?_) | (refine i_at g0 ?_) | (refine And.intro (by kernel_rfl) ?_) | (refine ccB ([_]) (n1) ?_) | (refine ccA ([]) (ce) ?_) | (refine z0b wj ?_) | (refine cb_f hB ?_) | (refine stpQ ?_))
  (refine z09 (by rfl) ?_ ?_ (by rfl)) <;> (repeat' (first | (exact eqA) | (refine And.intro ?_ ?_) | ((fail_if_success (with_reducible (show _ = _))); (show _ = _)))) <;> first | rfl | (rw [hall]; done) | (rw [hall]; rfl)
 ·have hB : (!(false || !b1)) = true := by revert hall; cases b1 <;> decide
  repeat ((try conv => whnf); first | (with_reducible first | refine z08 (fun Qs hN hE hR => ?_) | refine z06 ?_ | refine z00 (fun Qb kN kE kX kR => ?_) | refine z02 ?_ | refine z03 ?_ | refine z07 ?_ | refine z04 ?_ | refine z05 ?_ | (show W _ _ _ (.cond _ _ _) _ _; refine z01 rfl ?_) | (refine hN _ ?_; try clear hN hE hR Qs) | ((first | refine hE _ _ ?_ | refine hR _ ?_); try clear hN hE hR Qs) | ((first | refine kN _ ?_ | refine kE _ ?_ | refine kX _ _ rfl ?_ | refine kR _ ?_); try clear kN kE kX kR Qb)) | (refine z0c f3 ?_) | (refine z0c f4 ?_) | (refine z0b fn ?_) | (refine i_at g0 ?_) | (refine And.intro (by kernel_rfl) ?_) | (refine ccB ([_]) (n1) ?_) | (refine ccA ([]) (ce) ?_) | (refine z0b wj ?_) | (refine cb_t hB ?_) | (refine stpQ ?_))
  (refine z09 (by rfl) ?_ ?_ (by rfl)) <;> (repeat' (first | (exact eqA) | (refine And.intro ?_ ?_) | ((fail_if_success (with_reducible (show _ = _))); (show _ = _)))) <;> first | rfl | (rw [hall]; done) | (rw [hall]; rfl)
theorem c_re1 (p : List Bs) (hw : wdL.getD 1 [] = pt p 0) (hl : p.length = wdN 1) : CT Tryd.prog 28 [] [.sl 1 (strE p)] (.tup [.agg (evC (wdE 1 p)), .bool (wdB 1 p && evOk (wdE 1 p))]) [] := by
 have hl : p.length = 2 := hl.trans rfl
 have hw : pt p 0 = [110, 111, 116, 101] := hw.symm
 have g0 := z0g (p := p) (i := 0) (by omega)
 rw [hw] at g0
 have hcl : (strE p).length = 2 := by rw [z0h]; exact hl
 have n1 := z0G p 1 (pt p 1) (z0V (by omega)) (false)
 have hM : wdB 1 p = (isB (pt p 1)) := by simp [wdB]
 have hE : wdE 1 p = { k := ((1 + 2 : Nat) : Int), a := decV (pt p 1) } := by simp [wdE]
 rw [hM, hE]
 have ce := z0D { k := ((1 + 2 : Nat) : Int), a := decV (pt p 1) } ⟨by simp, by simp⟩
 generalize hq : evOk { k := ((1 + 2 : Nat) : Int), a := decV (pt p 1) } = q at ce ⊢
 clear hq hE hM hl hw
 generalize (decV (pt p 1) : Int) = v1 at *
 generalize isB (pt p 1) = b1 at *
 generalize strE p = z at *
 have fn : (z.length : Int) = 2 := by omega
 have f3 : ¬ (z.length : Int) = 3 := by omega
 have f4 : ¬ (z.length : Int) = 4 := by omega
 have w0 : ¬ ([110, 111, 116, 101] : Bs) = [116, 101, 108, 108] := by decide
 have wj : ([110, 111, 116, 101] : Bs) = [110, 111, 116, 101] := rfl
 refine z0d z0f 1 rfl Tryd.func28 rfl rfl rfl ?_
 conv => arg 6; whnf
 cases hall : (b1)
 ·have hB : (!(false || !b1)) = false := by revert hall; cases b1 <;> decide
  repeat ((try conv => whnf); first | (with_reducible first | refine z08 (fun Qs hN hE hR => ?_) | refine z06 ?_ | refine z00 (fun Qb kN kE kX kR => ?_) | refine z02 ?_ | refine z03 ?_ | refine z07 ?_ | refine z04 ?_ | refine z05 ?_ | (show W _ _ _ (.cond _ _ _) _ _; refine z01 rfl ?_) | (refine hN _ ?_; try clear hN hE hR Qs) | ((first | refine hE _ _ ?_ | refine hR _ ?_); try clear hN hE hR Qs) | ((first | refine kN _ ?_ | refine kE _ ?_ | refine kX _ _ rfl ?_ | refine kR _ ?_); try clear kN kE kX kR Qb)) | (refine z0c f3 ?_) | (refine z0c f4 ?_) | (refine z0b fn ?_) | (refine i_at g0 ?_) | (refine And.intro (by kernel_rfl) ?_) | (refine ccB ([_]) (n1) ?_) | (refine ccA ([]) (ce) ?_) | (refine z0c w0 ?_) | (refine z0b wj ?_) | (refine cb_f hB ?_) | (refine stpQ ?_))
  (refine z09 (by rfl) ?_ ?_ (by rfl)) <;> (repeat' (first | (exact eqA) | (refine And.intro ?_ ?_) | ((fail_if_success (with_reducible (show _ = _))); (show _ = _)))) <;> first | rfl | (rw [hall]; done) | (rw [hall]; rfl)
 ·have hB : (!(false || !b1)) = true := by revert hall; cases b1 <;> decide
  repeat ((try conv => whnf); first | (with_reducible first | refine z08 (fun Qs hN hE hR => ?_) | refine z06 ?_ | refine z00 (fun Qb kN kE kX kR => ?_) | refine z02 ?_ | refine z03 ?_ | refine z07 ?_ | refine z04 ?_ | refine z05 ?_ | (show W _ _ _ (.cond _ _ _) _ _; refine z01 rfl ?_) | (refine hN _ ?_; try clear hN hE hR Qs) | ((first | refine hE _ _ ?_ | refine hR _ ?_); try clear hN hE hR Qs) | ((first | refine kN _ ?_ | refine kE _ ?_ | refine kX _ _ rfl ?_ | refine kR _ ?_); try clear kN kE kX kR Qb)) | (refine z0c f3 ?_) | (refine z0c f4 ?_) | (refine z0b fn ?_) | (refine i_at g0 ?_) | (refine And.intro (by kernel_rfl) ?_) | (refine ccB ([_]) (n1) ?_) | (refine ccA ([]) (ce) ?_) | (refine z0c w0 ?_) | (refine z0b wj ?_) | (refine cb_t hB ?_) | (refine stpQ ?_))
  (refine z09 (by rfl) ?_ ?_ (by rfl)) <;> (repeat' (first | (exact eqA) | (refine And.intro ?_ ?_) | ((fail_if_success (with_reducible (show _ = _))); (show _ = _)))) <;> first | rfl | (rw [hall]; done) | (rw [hall]; rfl)
theorem c_re2 (p : List Bs) (hw : wdL.getD 2 [] = pt p 0) (hl : p.length = wdN 2) : CT Tryd.prog 28 [] [.sl 1 (strE p)] (.tup [.agg (evC (wdE 2 p)), .bool (wdB 2 p && evOk (wdE 2 p))]) [] := by
 have hl : p.length = 2 := hl.trans rfl
 have hw : pt p 0 = [100, 114, 111, 112] := hw.symm
 have g0 := z0g (p := p) (i := 0) (by omega)
 rw [hw] at g0
 have hcl : (strE p).length = 2 := by rw [z0h]; exact hl
 have n1 := z0G p 1 (pt p 1) (z0V (by omega)) (false)
 have hM : wdB 2 p = (isB (pt p 1)) := by simp [wdB]
 have hE : wdE 2 p = { k := ((2 + 2 : Nat) : Int), a := decV (pt p 1) } := by simp [wdE]
 rw [hM, hE]
 have ce := z0D { k := ((2 + 2 : Nat) : Int), a := decV (pt p 1) } ⟨by simp, by simp⟩
 generalize hq : evOk { k := ((2 + 2 : Nat) : Int), a := decV (pt p 1) } = q at ce ⊢
 clear hq hE hM hl hw
 generalize (decV (pt p 1) : Int) = v1 at *
 generalize isB (pt p 1) = b1 at *
 generalize strE p = z at *
 have fn : (z.length : Int) = 2 := by omega
 have f3 : ¬ (z.length : Int) = 3 := by omega
 have f4 : ¬ (z.length : Int) = 4 := by omega
 have w0 : ¬ ([100, 114, 111, 112] : Bs) = [116, 101, 108, 108] := by decide
 have w1 : ¬ ([100, 114, 111, 112] : Bs) = [110, 111, 116, 101] := by decide
 have wj : ([100, 114, 111, 112] : Bs) = [100, 114, 111, 112] := rfl
 refine z0d z0f 1 rfl Tryd.func28 rfl rfl rfl ?_
 conv => arg 6; whnf
 cases hall : (b1)
 ·have hB : (!(false || !b1)) = false := by revert hall; cases b1 <;> decide
  repeat ((try conv => whnf); first | (with_reducible first | refine z08 (fun Qs hN hE hR => ?_) | refine z06 ?_ | refine z00 (fun Qb kN kE kX kR => ?_) | refine z02 ?_ | refine z03 ?_ | refine z07 ?_ | refine z04 ?_ | refine z05 ?_ | (show W _ _ _ (.cond _ _ _) _ _; refine z01 rfl ?_) | (refine hN _ ?_; try clear hN hE hR Qs) | ((first | refine hE _ _ ?_ | refine hR _ ?_); try clear hN hE hR Qs) | ((first | refine kN _ ?_ | refine kE _ ?_ | refine kX _ _ rfl ?_ | refine kR _ ?_); try clear kN kE kX kR Qb)) | (refine z0c f3 ?_) | (refine z0c f4 ?_) | (refine z0b fn ?_) | (refine i_at g0 ?_) | (refine And.intro (by kernel_rfl) ?_) | (refine ccB ([_]) (n1) ?_) | (refine ccA ([]) (ce) ?_) | (refine z0c w0 ?_) | (refine z0c w1 ?_) | (refine z0b wj ?_) | (refine cb_f hB ?_) | (refine stpQ ?_))
  (refine z09 (by rfl) ?_ ?_ (by rfl)) <;> (repeat' (first | (exact eqA) | (refine And.intro ?_ ?_) | ((fail_if_success (with_reducible (show _ = _))); (show _ = _)))) <;> first | rfl | (rw [hall]; done) | (rw [hall]; rfl)
 ·have hB : (!(false || !b1)) = true := by revert hall; cases b1 <;> decide
  repeat ((try conv => whnf); first | (with_reducible first | refine z08 (fun Qs hN hE hR => ?_) | refine z06 ?_ | refine z00 (fun Qb kN kE kX kR => ?_) | refine z02 ?_ | refine z03 ?_ | refine z07 ?_ | refine z04 ?_ | refine z05 ?_ | (show W _ _ _ (.cond _ _ _) _ _; refine z01 rfl ?_) | (refine hN _ ?_; try clear hN hE hR Qs) | ((first | refine hE _ _ ?_ | refine hR _ ?_); try clear hN hE hR Qs) | ((first | refine kN _ ?_ | refine kE _ ?_ | refine kX _ _ rfl ?_ | refine kR _ ?_); try clear kN kE kX kR Qb)) | (refine z0c f3 ?_) | (refine z0c f4 ?_) | (refine z0b fn ?_) | (refine i_at g0 ?_) | (refine And.intro (by kernel_rfl) ?_) | (refine ccB ([_]) (n1) ?_) | (refine ccA ([]) (ce) ?_) | (refine z0c w0 ?_) | (refine z0c w1 ?_) | (refine z0b wj ?_) | (refine cb_t hB ?_) | (refine stpQ ?_))
  (refine z09 (by rfl) ?_ ?_ (by rfl)) <;> (repeat' (first | (exact eqA) | (refine And.intro ?_ ?_) | ((fail_if_success (with_reducible (show _ = _))); (show _ = _)))) <;> first | rfl | (rw [hall]; done) | (rw [hall]; rfl)
theorem c_re3 (p : List Bs) (hw : wdL.getD 3 [] = pt p 0) (hl : p.length = wdN 3) : CT Tryd.prog 28 [] [.sl 1 (strE p)] (.tup [.agg (evC (wdE 3 p)), .bool (wdB 3 p && evOk (wdE 3 p))]) [] := by
 have hl : p.length = 3 := hl.trans rfl
 have hw : pt p 0 = [102, 111, 114, 103, 101] := hw.symm
 have g0 := z0g (p := p) (i := 0) (by omega)
 have g2 := z0g (p := p) (i := 2) (by omega)
 rw [hw] at g0
 have hcl : (strE p).length = 3 := by rw [z0h]; exact hl
 have n1 := z0G p 1 (pt p 1) (z0V (by omega)) (false)
 have hM : wdB 3 p = (isB (pt p 1)) := by simp [wdB]
 have hE : wdE 3 p = { k := ((3 + 2 : Nat) : Int), h := decV (pt p 1), tx := pt p 2 } := by simp [wdE]
 rw [hM, hE]
 have ce := z0D { k := ((3 + 2 : Nat) : Int), h := decV (pt p 1), tx := pt p 2 } ⟨by simp, by simp⟩
 generalize hq : evOk { k := ((3 + 2 : Nat) : Int), h := decV (pt p 1), tx := pt p 2 } = q at ce ⊢
 clear hq hE hM hl hw
 generalize (decV (pt p 1) : Int) = v1 at *
 generalize isB (pt p 1) = b1 at *
 generalize pt p 2 = s2 at *
 generalize strE p = z at *
 have fn : (z.length : Int) = 3 := by omega
 have f2 : ¬ (z.length : Int) = 2 := by omega
 have f4 : ¬ (z.length : Int) = 4 := by omega
 have wj : ([102, 111, 114, 103, 101] : Bs) = [102, 111, 114, 103, 101] := rfl
 refine z0d z0f 1 rfl Tryd.func28 rfl rfl rfl ?_
 conv => arg 6; whnf
 cases hall : (b1)
 ·have hB : (!(false || !b1)) = false := by revert hall; cases b1 <;> decide
  repeat ((try conv => whnf); first | (with_reducible first | refine z08 (fun Qs hN hE hR => ?_) | refine z06 ?_ | refine z00 (fun Qb kN kE kX kR => ?_) | refine z02 ?_ | refine z03 ?_ | refine z07 ?_ | refine z04 ?_ | refine z05 ?_ | (show W _ _ _ (.cond _ _ _) _ _; refine z01 rfl ?_) | (refine hN _ ?_; try clear hN hE hR Qs) | ((first | refine hE _ _ ?_ | refine hR _ ?_); try clear hN hE hR Qs) | ((first | refine kN _ ?_ | refine kE _ ?_ | refine kX _ _ rfl ?_ | refine kR _ ?_); try clear kN kE kX kR Qb)) | (refine z0c f2 ?_) | (refine z0c f4 ?_) | (refine z0b fn ?_) | (refine i_at g0 ?_) | (refine i_at g2 ?_) | (refine And.intro (by kernel_rfl) ?_) | (refine ccB ([_]) (n1) ?_) | (refine ccA ([]) (ce) ?_) | (refine z0b wj ?_) | (refine cb_f hB ?_) | (refine stpQ ?_))
  (refine z09 (by rfl) ?_ ?_ (by rfl)) <;> (repeat' (first | (exact eqA) | (refine And.intro ?_ ?_) | ((fail_if_success (with_reducible (show _ = _))); (show _ = _)))) <;> first | rfl | (rw [hall]; done) | (rw [hall]; rfl)
 ·have hB : (!(false || !b1)) = true := by revert hall; cases b1 <;> decide
  repeat ((try conv => whnf); first | (with_reducible first | refine z08 (fun Qs hN hE hR => ?_) | refine z06 ?_ | refine z00 (fun Qb kN kE kX kR => ?_) | refine z02 ?_ | refine z03 ?_ | refine z07 ?_ | refine z04 ?_ | refine z05 ?_ | (show W _ _ _ (.cond _ _ _) _ _; refine z01 rfl ?_) | (refine hN _ ?_; try clear hN hE hR Qs) | ((first | refine hE _ _ ?_ | refine hR _ ?_); try clear hN hE hR Qs) | ((first | refine kN _ ?_ | refine kE _ ?_ | refine kX _ _ rfl ?_ | refine kR _ ?_); try clear kN kE kX kR Qb)) | (refine z0c f2 ?_) | (refine z0c f4 ?_) | (refine z0b fn ?_) | (refine i_at g0 ?_) | (refine i_at g2 ?_) | (refine And.intro (by kernel_rfl) ?_) | (refine ccB ([_]) (n1) ?_) | (refine ccA ([]) (ce) ?_) | (refine z0b wj ?_) | (refine cb_t hB ?_) | (refine stpQ ?_))
  (refine z09 (by rfl) ?_ ?_ (by rfl)) <;> (repeat' (first | (exact eqA) | (refine And.intro ?_ ?_) | ((fail_if_success (with_reducible (show _ = _))); (show _ = _)))) <;> first | rfl | (rw [hall]; done) | (rw [hall]; rfl)
theorem c_re4 (p : List Bs) (hw : wdL.getD 4 [] = pt p 0) (hl : p.length = wdN 4) : CT Tryd.prog 28 [] [.sl 1 (strE p)] (.tup [.agg (evC (wdE 4 p)), .bool (wdB 4 p && evOk (wdE 4 p))]) [] := by
 have hl : p.length = 4 := hl.trans rfl
 have hw : pt p 0 = [101, 118, 105, 108] := hw.symm
 have g0 := z0g (p := p) (i := 0) (by omega)
 have g3 := z0g (p := p) (i := 3) (by omega)
 rw [hw] at g0
 have hcl : (strE p).length = 4 := by rw [z0h]; exact hl
 have n1 := z0G p 1 (pt p 1) (z0V (by omega)) (false)
 have n2 := z0G p 2 (pt p 2) (z0V (by omega)) (false || !isB (pt p 1))
 have hM : wdB 4 p = (isB (pt p 1) && isB (pt p 2)) := by simp [wdB]
 have hE : wdE 4 p = { k := ((4 + 2 : Nat) : Int), h := decV (pt p 1), a := decV (pt p 2), tx := pt p 3 } := by simp [wdE]
 rw [hM, hE]
 have ce := z0D { k := ((4 + 2 : Nat) : Int), h := decV (pt p 1), a := decV (pt p 2), tx := pt p 3 } ⟨by simp, by simp⟩
 generalize hq : evOk { k := ((4 + 2 : Nat) : Int), h := decV (pt p 1), a := decV (pt p 2), tx := pt p 3 } = q at ce ⊢
 clear hq hE hM hl hw
 generalize (decV (pt p 1) : Int) = v1 at *
 generalize isB (pt p 1) = b1 at *
 generalize (decV (pt p 2) : Int) = v2 at *
 generalize isB (pt p 2) = b2 at *
 generalize pt p 3 = s3 at *
 generalize strE p = z at *
 have fn : (z.length : Int) = 4 := by omega
 have f2 : ¬ (z.length : Int) = 2 := by omega
 have f3 : ¬ (z.length : Int) = 3 := by omega
 have wj : ([101, 118, 105, 108] : Bs) = [101, 118, 105, 108] := rfl
 refine z0d z0f 1 rfl Tryd.func28 rfl rfl rfl ?_
 conv => arg 6; whnf
 cases hall : (b1 && b2)
 ·have hB : (!((false || !b1) || !b2)) = false := by revert hall; cases b1 <;> cases b2 <;> decide
  repeat ((try conv => whnf); first | (with_reducible first | refine z08 (fun Qs hN hE hR => ?_) | refine z06 ?_ | refine z00 (fun Qb kN kE kX kR => ?_) | refine z02 ?_ | refine z03 ?_ | refine z07 ?_ | refine z04 ?_ | refine z05 ?_ | (show W _ _ _ (.cond _ _ _) _ _; refine z01 rfl ?_) | (refine hN _ ?_; try clear hN hE hR Qs) | ((first | refine hE _ _ ?_ | refine hR _ ?_); try clear hN hE hR Qs) | ((first | refine kN _ ?_ | refine kE _ ?_ | refine kX _ _ rfl ?_ | refine kR _ ?_); try clear kN kE kX kR Qb)) | (refine z0c f2 ?_) | (refine z0c f3 ?_) | (refine z0b fn ?_) | (refine i_at g0 ?_) | (refine i_at g3 ?_) | (refine And.intro (by kernel_rfl) ?_) | (refine ccB ([_]) (n1) ?_) | (refine ccB ([_]) (n2) ?_) | (refine ccA ([]) (ce) ?_) | (refine z0b wj ?_) | (refine cb_f hB ?_) | (refine stpQ ?_))
  (refine z09 (by rfl) ?_ ?_ (by rfl)) <;> (repeat' (first | (exact eqA) | (refine And.intro ?_ ?_) | ((fail_if_success (with_reducible (show _ = _))); (show _ = _)))) <;> first | rfl | (rw [hall]; done) | (rw [hall]; rfl)
 ·have hB : (!((false || !b1) || !b2)) = true := by revert hall; cases b1 <;> cases b2 <;> decide
  repeat ((try conv => whnf); first | (with_reducible first | refine z08 (fun Qs hN hE hR => ?_) | refine z06 ?_ | refine z00 (fun Qb kN kE kX kR => ?_) | refine z02 ?_ | refine z03 ?_ | refine z07 ?_ | refine z04 ?_ | refine z05 ?_ | (show W _ _ _ (.cond _ _ _) _ _; refine z01 rfl ?_) | (refine hN _ ?_; try clear hN hE hR Qs) | ((first | refine hE _ _ ?_ | refine hR _ ?_); try clear hN hE hR Qs) | ((first | refine kN _ ?_ | refine kE _ ?_ | refine kX _ _ rfl ?_ | refine kR _ ?_); try clear kN kE kX kR Qb)) | (refine z0c f2 ?_) | (refine z0c f3 ?_) | (refine z0b fn ?_) | (refine i_at g0 ?_) | (refine i_at g3 ?_) | (refine And.intro (by kernel_rfl) ?_) | (refine ccB ([_]) (n1) ?_) | (refine ccB ([_]) (n2) ?_) | (refine ccA ([]) (ce) ?_) | (refine z0b wj ?_) | (refine cb_t hB ?_) | (refine stpQ ?_))
  (refine z09 (by rfl) ?_ ?_ (by rfl)) <;> (repeat' (first | (exact eqA) | (refine And.intro ?_ ?_) | ((fail_if_success (with_reducible (show _ = _))); (show _ = _)))) <;> first | rfl | (rw [hall]; done) | (rw [hall]; rfl)
theorem c_re5 (p : List Bs) (hw : wdL.getD 5 [] = pt p 0) (hl : p.length = wdN 5) : CT Tryd.prog 28 [] [.sl 1 (strE p)] (.tup [.agg (evC (wdE 5 p)), .bool (wdB 5 p && evOk (wdE 5 p))]) [] := by
 have hl : p.length = 3 := hl.trans rfl
 have hw : pt p 0 = [100, 111, 119, 110] := hw.symm
 have g0 := z0g (p := p) (i := 0) (by omega)
 rw [hw] at g0
 have hcl : (strE p).length = 3 := by rw [z0h]; exact hl
 have n1 := z0G p 1 (pt p 1) (z0V (by omega)) (false)
 have n2 := z0G p 2 (pt p 2) (z0V (by omega)) (false || !isB (pt p 1))
 have hM : wdB 5 p = (isB (pt p 1) && isB (pt p 2)) := by simp [wdB]
 have hE : wdE 5 p = { k := ((5 + 2 : Nat) : Int), h := decV (pt p 1), a := decV (pt p 2) } := by simp [wdE]
 rw [hM, hE]
 have ce := z0D { k := ((5 + 2 : Nat) : Int), h := decV (pt p 1), a := decV (pt p 2) } ⟨by simp, by simp⟩
 generalize hq : evOk { k := ((5 + 2 : Nat) : Int), h := decV (pt p 1), a := decV (pt p 2) } = q at ce ⊢
 clear hq hE hM hl hw
 generalize (decV (pt p 1) : Int) = v1 at *
 generalize isB (pt p 1) = b1 at *
 generalize (decV (pt p 2) : Int) = v2 at *
 generalize isB (pt p 2) = b2 at *
 generalize strE p = z at *
 have fn : (z.length : Int) = 3 := by omega
 have f2 : ¬ (z.length : Int) = 2 := by omega
 have f4 : ¬ (z.length : Int) = 4 := by omega
 have w3 : ¬ ([100, 111, 119, 110] : Bs) = [102, 111, 114, 103, 101] := by decide
 have wj : ([100, 111, 119, 110] : Bs) = [100, 111, 119, 110] := rfl
 refine z0d z0f 1 rfl Tryd.func28 rfl rfl rfl ?_
 conv => arg 6; whnf
 cases hall : (b1 && b2)
 ·have hB : (!((false || !b1) || !b2)) = false := by revert hall; cases b1 <;> cases b2 <;> decide
  repeat ((try conv => whnf); first | (with_reducible first | refine z08 (fun Qs hN hE hR => ?_) | refine z06 ?_ | refine z00 (fun Qb kN kE kX kR => ?_) | refine z02 ?_ | refine z03 ?_ | refine z07 ?_ | refine z04 ?_ | refine z05 ?_ | (show W _ _ _ (.cond _ _ _) _ _; refine z01 rfl ?_) | (refine hN _ ?_; try clear hN hE hR Qs) | ((first | refine hE _ _ ?_ | refine hR _ ?_); try clear hN hE hR Qs) | ((first | refine kN _ ?_ | refine kE _ ?_ | refine kX _ _ rfl ?_ | refine kR _ ?_); try clear kN kE kX kR Qb)) | (refine z0c f2 ?_) | (refine z0c f4 ?_) | (refine z0b fn ?_) | (refine i_at g0 ?_) | (refine And.intro (by kernel_rfl) ?_) | (refine ccB ([_]) (n1) ?_) | (refine ccB ([_]) (n2) ?_) | (refine ccA ([]) (ce) ?_) | (refine z0c w3 ?_) | (refine z0b wj ?_) | (refine cb_f hB ?_) | (refine stpQ ?_))
  (refine z09 (by rfl) ?_ ?_ (by rfl)) <;> (repeat' (first | (exact eqA) | (refine And.intro ?_ ?_) | ((fail_if_success (with_reducible (show _ = _))); (show _ = _)))) <;> first | rfl | (rw [hall]; done) | (rw [hall]; rfl)
 ·have hB : (!((false || !b1) || !b2)) = true := by revert hall; cases b1 <;> cases b2 <;> decide
  repeat ((try conv => whnf); first | (with_reducible first | refine z08 (fun Qs hN hE hR => ?_) | refine z06 ?_ | refine z00 (fun Qb kN kE kX kR => ?_) | refine z02 ?_ | refine z03 ?_ | refine z07 ?_ | refine z04 ?_ | refine z05 ?_ | (show W _ _ _ (.cond _ _ _) _ _; refine z01 rfl ?_) | (refine hN _ ?_; try clear hN hE hR Qs) | ((first | refine hE _ _ ?_ | refine hR _ ?_); try clear hN hE hR Qs) | ((first | refine kN _ ?_ | refine kE _ ?_ | refine kX _ _ rfl ?_ | refine kR _ ?_); try clear kN kE kX kR Qb)) | (refine z0c f2 ?_) | (refine z0c f4 ?_) | (refine z0b fn ?_) | (refine i_at g0 ?_) | (refine And.intro (by kernel_rfl) ?_) | (refine ccB ([_]) (n1) ?_) | (refine ccB ([_]) (n2) ?_) | (refine ccA ([]) (ce) ?_) | (refine z0c w3 ?_) | (refine z0b wj ?_) | (refine cb_t hB ?_) | (refine stpQ ?_))
  (refine z09 (by rfl) ?_ ?_ (by rfl)) <;> (repeat' (first | (exact eqA) | (refine And.intro ?_ ?_) | ((fail_if_success (with_reducible (show _ = _))); (show _ = _)))) <;> first | rfl | (rw [hall]; done) | (rw [hall]; rfl)
theorem c_re6 (p : List Bs) (hw : wdL.getD 6 [] = pt p 0) (hl : p.length = wdN 6) : CT Tryd.prog 28 [] [.sl 1 (strE p)] (.tup [.agg (evC (wdE 6 p)), .bool (wdB 6 p && evOk (wdE 6 p))]) [] := by
 have hl : p.length = 2 := hl.trans rfl
 have hw : pt p 0 = [117, 112] := hw.symm
 have g0 := z0g (p := p) (i := 0) (by omega)
 rw [hw] at g0
 have hcl : (strE p).length = 2 := by rw [z0h]; exact hl
 have n1 := z0G p 1 (pt p 1) (z0V (by omega)) (false)
 have hM : wdB 6 p = (isB (pt p 1)) := by simp [wdB]
 have hE : wdE 6 p = { k := ((6 + 2 : Nat) : Int), h := decV (pt p 1) } := by simp [wdE]
 rw [hM, hE]
 have ce := z0D { k := ((6 + 2 : Nat) : Int), h := decV (pt p 1) } ⟨by simp, by simp⟩
 generalize hq : evOk { k := ((6 + 2 : Nat) : Int), h := decV (pt p 1) } = q at ce ⊢
 clear hq hE hM hl hw
 generalize (decV (pt p 1) : Int) = v1 at *
 generalize isB (pt p 1) = b1 at *
 generalize strE p = z at *
 have fn : (z.length : Int) = 2 := by omega
 have f3 : ¬ (z.length : Int) = 3 := by omega
 have f4 : ¬ (z.length : Int) = 4 := by omega
 have w0 : ¬ ([117, 112] : Bs) = [116, 101, 108, 108] := by decide
 have w1 : ¬ ([117, 112] : Bs) = [110, 111, 116, 101] := by decide
 have w2 : ¬ ([117, 112] : Bs) = [100, 114, 111, 112] := by decide
 have wj : ([117, 112] : Bs) = [117, 112] := rfl
 refine z0d z0f 1 rfl Tryd.func28 rfl rfl rfl ?_
 conv => arg 6; whnf
 cases hall : (b1)
 ·have hB : (!(false || !b1)) = false := by revert hall; cases b1 <;> decide
  repeat ((try conv => whnf); first | (with_reducible first | refine z08 (fun Qs hN hE hR => ?_) | refine z06 ?_ | refine z00 (fun Qb kN kE kX kR => ?_) | refine z02 ?_ | refine z03 ?_ | refine z07 ?_ | refine z04 ?_ | refine z05 ?_ | (show W _ _ _ (.cond _ _ _) _ _; refine z01 rfl ?_) | (refine hN _ ?_; try clear hN hE hR Qs) | ((first | refine hE _ _ ?_ | refine hR _ ?_); try clear hN hE hR Qs) | ((first | refine kN _ ?_ | refine kE _ ?_ | refine kX _ _ rfl ?_ | refine kR _ ?_); try clear kN kE kX kR Qb)) | (refine z0c f3 ?_) | (refine z0c f4 ?_) | (refine z0b fn ?_) | (refine i_at g0 ?_) | (refine And.intro (by kernel_rfl) ?_) | (refine ccB ([_]) (n1) ?_) | (refine ccA ([]) (ce) ?_) | (refine z0c w0 ?_) | (refine z0c w1 ?_) | (refine z0c w2 ?_) | (refine z0b wj ?_) | (refine cb_f hB ?_) | (refine stpQ ?_))
  (refine z09 (by rfl) ?_ ?_ (by rfl)) <;> (repeat' (first | (exact eqA) | (refine And.intro ?_ ?_) | ((fail_if_success (with_reducible (show _ = _))); (show _ = _)))) <;> first | rfl | (rw [hall]; done) | (rw [hall]; rfl)
 ·have hB : (!(false || !b1)) = true := by revert hall; cases b1 <;> decide
  repeat ((try conv => whnf); first | (with_reducible first | refine z08 (fun Qs hN hE hR => ?_) | refine z06 ?_ | refine z00 (fun Qb kN kE kX kR => ?_) | refine z02 ?_ | refine z03 ?_ | refine z07 ?_ | refine z04 ?_ | refine z05 ?_ | (show W _ _ _ (.cond _ _ _) _ _; refine z01 rfl ?_) | (refine hN _ ?_; try clear hN hE hR Qs) | ((first | refine hE _ _ ?_ | refine hR _ ?_); try clear hN hE hR Qs) | ((first | refine kN _ ?_ | refine kE _ ?_ | refine kX _ _ rfl ?_ | refine kR _ ?_); try clear kN kE kX kR Qb)) | (refine z0c f3 ?_) | (refine z0c f4 ?_) | (refine z0b fn ?_) | (refine i_at g0 ?_) | (refine And.intro (by kernel_rfl) ?_) | (refine ccB ([_]) (n1) ?_) | (refine ccA ([]) (ce) ?_) | (refine z0c w0 ?_) | (refine z0c w1 ?_) | (refine z0c w2 ?_) | (refine z0b wj ?_) | (refine cb_t hB ?_) | (refine stpQ ?_))
  (refine z09 (by rfl) ?_ ?_ (by rfl)) <;> (repeat' (first | (exact eqA) | (refine And.intro ?_ ?_) | ((fail_if_success (with_reducible (show _ = _))); (show _ = _)))) <;> first | rfl | (rw [hall]; done) | (rw [hall]; rfl)
theorem c_re_m (p : List Bs) (h0 : 0 < p.length) (hb : ∀ i, (pt p i).length ≤ 600) (hn : ∀ j, j < 7 → wdL.getD j [] = pt p 0 → ¬ p.length = wdN j) :
 CT Tryd.prog 28 [] [.sl 1 (strE p)] (.tup [.agg (evC (evR (rawM p))), .bool (okR (rawM p) && evOk (evR (rawM p)))]) [] := by
 have cm := z7x p h0 hb
 generalize (okR (rawM p) && evOk (evR (rawM p))) = q at cm ⊢
 generalize evR (rawM p) = e at cm ⊢
 obtain ⟨k, h, a, mk, mn, ma, ci, cn, cv, tx⟩ := e
 unfold evC at *
 simp only at cm ⊢
 have g0 := z0g (p := p) h0
 have hcl : (strE p).length = p.length := z0h p
 have u0 : p.length = 2 → ¬ pt p 0 = [116, 101, 108, 108] := fun h c => hn 0 (by decide) c.symm (h.trans rfl)
 have u1 : p.length = 2 → ¬ pt p 0 = [110, 111, 116, 101] := fun h c => hn 1 (by decide) c.symm (h.trans rfl)
 have u2 : p.length = 2 → ¬ pt p 0 = [100, 114, 111, 112] := fun h c => hn 2 (by decide) c.symm (h.trans rfl)
 have u3 : p.length = 3 → ¬ pt p 0 = [102, 111, 114, 103, 101] := fun h c => hn 3 (by decide) c.symm (h.trans rfl)
 have u4 : p.length = 4 → ¬ pt p 0 = [101, 118, 105, 108] := fun h c => hn 4 (by decide) c.symm (h.trans rfl)
 have u5 : p.length = 3 → ¬ pt p 0 = [100, 111, 119, 110] := fun h c => hn 5 (by decide) c.symm (h.trans rfl)
 have u6 : p.length = 2 → ¬ pt p 0 = [117, 112] := fun h c => hn 6 (by decide) c.symm (h.trans rfl)
 clear hn h0 hb
 generalize pt p 0 = w at *
 generalize strE p = z at *
 generalize p.length = n at *
 by_cases l2 : n = 2
 ·have fn : (z.length : Int) = 2 := by omega
  have f3 : ¬ (z.length : Int) = 3 := by omega
  have f4 : ¬ (z.length : Int) = 4 := by omega
  have u0 := u0 l2
  have u1 := u1 l2
  have u2 := u2 l2
  have u6 := u6 l2
  refine z0d z0f 1 rfl Tryd.func28 rfl rfl rfl ?_
  conv => arg 6; whnf
  repeat ((try conv => whnf); first | (with_reducible first | refine z08 (fun Qs hN hE hR => ?_) | refine z06 ?_ | refine z00 (fun Qb kN kE kX kR => ?_) | refine z02 ?_ | refine z03 ?_ | refine z07 ?_ | refine z04 ?_ | refine z05 ?_ | (show W _ _ _ (.cond _ _ _) _ _; refine z01 rfl ?_) | (refine hN _ ?_; try clear hN hE hR Qs) | ((first | refine hE _ _ ?_ | refine hR _ ?_); try clear hN hE hR Qs) | ((first | refine kN _ ?_ | refine kE _ ?_ | refine kX _ _ rfl ?_ | refine kR _ ?_); try clear kN kE kX kR Qb)) | (refine z0c f3 ?_) | (refine z0c f4 ?_) | (refine z0b fn ?_) | (refine i_at g0 ?_) | (refine z0c u0 ?_) | (refine z0c u1 ?_) | (refine z0c u2 ?_) | (refine z0c u6 ?_) | (refine And.intro (by kernel_rfl) ?_) | (refine ccA ([]) (cm) ?_) | (refine stpQ ?_))
  (refine z09 (by rfl) ?_ ?_ (by rfl)) <;> (repeat' (first | (exact eqA) | (refine And.intro ?_ ?_) | ((fail_if_success (with_reducible (show _ = _))); (show _ = _))))
 by_cases l3 : n = 3
 ·have fn : (z.length : Int) = 3 := by omega
  have f2 : ¬ (z.length : Int) = 2 := by omega
  have f4 : ¬ (z.length : Int) = 4 := by omega
  have u3 := u3 l3
  have u5 := u5 l3
  refine z0d z0f 1 rfl Tryd.func28 rfl rfl rfl ?_
  conv => arg 6; whnf
  repeat ((try conv => whnf); first | (with_reducible first | refine z08 (fun Qs hN hE hR => ?_) | refine z06 ?_ | refine z00 (fun Qb kN kE kX kR => ?_) | refine z02 ?_ | refine z03 ?_ | refine z07 ?_ | refine z04 ?_ | refine z05 ?_ | (show W _ _ _ (.cond _ _ _) _ _; refine z01 rfl ?_) | (refine hN _ ?_; try clear hN hE hR Qs) | ((first | refine hE _ _ ?_ | refine hR _ ?_); try clear hN hE hR Qs) | ((first | refine kN _ ?_ | refine kE _ ?_ | refine kX _ _ rfl ?_ | refine kR _ ?_); try clear kN kE kX kR Qb)) | (refine z0c f2 ?_) | (refine z0c f4 ?_) | (refine z0b fn ?_) | (refine i_at g0 ?_) | (refine z0c u3 ?_) | (refine z0c u5 ?_) | (refine And.intro (by kernel_rfl) ?_) | (refine ccA ([]) (cm) ?_) | (refine stpQ ?_))
  (refine z09 (by rfl) ?_ ?_ (by rfl)) <;> (repeat' (first | (exact eqA) | (refine And.intro ?_ ?_) | ((fail_if_success (with_reducible (show _ = _))); (show _ = _))))
 by_cases l4 : n = 4
 ·have fn : (z.length : Int) = 4 := by omega
  have f2 : ¬ (z.length : Int) = 2 := by omega
  have f3 : ¬ (z.length : Int) = 3 := by omega
  have u4 := u4 l4
  refine z0d z0f 1 rfl Tryd.func28 rfl rfl rfl ?_
  conv => arg 6; whnf
  repeat ((try conv => whnf); first | (with_reducible first | refine z08 (fun Qs hN hE hR => ?_) | refine z06 ?_ | refine z00 (fun Qb kN kE kX kR => ?_) | refine z02 ?_ | refine z03 ?_ | refine z07 ?_ | refine z04 ?_ | refine z05 ?_ | (show W _ _ _ (.cond _ _ _) _ _; refine z01 rfl ?_) | (refine hN _ ?_; try clear hN hE hR Qs) | ((first | refine hE _ _ ?_ | refine hR _ ?_); try clear hN hE hR Qs) | ((first | refine kN _ ?_ | refine kE _ ?_ | refine kX _ _ rfl ?_ | refine kR _ ?_); try clear kN kE kX kR Qb)) | (refine z0c f2 ?_) | (refine z0c f3 ?_) | (refine z0b fn ?_) | (refine i_at g0 ?_) | (refine z0c u4 ?_) | (refine And.intro (by kernel_rfl) ?_) | (refine ccA ([]) (cm) ?_) | (refine stpQ ?_))
  (refine z09 (by rfl) ?_ ?_ (by rfl)) <;> (repeat' (first | (exact eqA) | (refine And.intro ?_ ?_) | ((fail_if_success (with_reducible (show _ = _))); (show _ = _))))
 ·have f2 : ¬ (z.length : Int) = 2 := by omega
  have f3 : ¬ (z.length : Int) = 3 := by omega
  have f4 : ¬ (z.length : Int) = 4 := by omega
  refine z0d z0f 1 rfl Tryd.func28 rfl rfl rfl ?_
  conv => arg 6; whnf
  repeat ((try conv => whnf); first | (with_reducible first | refine z08 (fun Qs hN hE hR => ?_) | refine z06 ?_ | refine z00 (fun Qb kN kE kX kR => ?_) | refine z02 ?_ | refine z03 ?_ | refine z07 ?_ | refine z04 ?_ | refine z05 ?_ | (show W _ _ _ (.cond _ _ _) _ _; refine z01 rfl ?_) | (refine hN _ ?_; try clear hN hE hR Qs) | ((first | refine hE _ _ ?_ | refine hR _ ?_); try clear hN hE hR Qs) | ((first | refine kN _ ?_ | refine kE _ ?_ | refine kX _ _ rfl ?_ | refine kR _ ?_); try clear kN kE kX kR Qb)) | (refine z0c f2 ?_) | (refine z0c f3 ?_) | (refine z0c f4 ?_) | (refine And.intro (by kernel_rfl) ?_) | (refine ccA ([]) (cm) ?_) | (refine stpQ ?_))
  (refine z09 (by rfl) ?_ ?_ (by rfl)) <;> (repeat' (first | (exact eqA) | (refine And.intro ?_ ?_) | ((fail_if_success (with_reducible (show _ = _))); (show _ = _))))
theorem z28 (p : List Bs) (h0 : 0 < p.length) (hb : ∀ i, (pt p i).length ≤ 600) :
 CT Tryd.prog 28 [] [.sl 1 (strE p)] (.tup [.agg (evC (evR (rawE p))), .bool (okR (rawE p) && evOk (evR (rawE p)))]) [] := by
 have no : (∀ j, j < 7 → wdL.getD j [] = pt p 0 → ¬ p.length = wdN j) → rawE p = rawM p → CT Tryd.prog 28 [] [.sl 1 (strE p)] (.tup [.agg (evC (evR (rawE p))), .bool (okR (rawE p) && evOk (evR (rawE p)))]) [] := fun h1 h2 => by
  rw [h2]
  exact c_re_m p h0 hb h1
 rcases zaE (w := pt p 0) with ⟨j, hj, hw, hi⟩ | ⟨hi, hn⟩
 ·by_cases hl : p.length = wdN j
  ·have hr : rawE p = some (wdE j p, wdB j p) := by rw [rawE, hi, if_pos ⟨hj, hl⟩]
   rw [hr]
   show CT _ _ _ _ (.tup [.agg (evC (wdE j p)), .bool (wdB j p && evOk (wdE j p))]) _
   clear no hr hi
   obtain rfl | rfl | rfl | rfl | rfl | rfl | rfl : j = 0 ∨ j = 1 ∨ j = 2 ∨ j = 3 ∨ j = 4 ∨ j = 5 ∨ j = 6 := by omega
   ·exact c_re0 p hw hl
   ·exact c_re1 p hw hl
   ·exact c_re2 p hw hl
   ·exact c_re3 p hw hl
   ·exact c_re4 p hw hl
   ·exact c_re5 p hw hl
   ·exact c_re6 p hw hl
  ·refine no (fun i hi2 hw2 => ?_) (by rw [rawE, hi, if_neg (fun c => hl c.2)])
   by_cases hij : i = j
   ·rw [hij]; exact hl
   ·exact absurd (hw2.trans hw.symm) (z4F j hj i hi2 hij)
 ·exact no (fun i hi2 hw2 => absurd hw2 (hn i hi2)) (by rw [rawE, hi, if_neg (fun c => by have := c.1; omega)])
end
end Go.Proofs.YtfgkjgfigjpkoaaDoor
