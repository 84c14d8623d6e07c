/- Functions by content: a script is read, by the program. -/
import Derived.Test.YtfgkjgfigjpkoaaDoorVQ
import Derived.Test.YtfgkjgfigjpkoaaDoorAdd
import Derived.Test.YtfgkjgfigjpkoaaDoorPt
import Derived.Test.YtfgkjgfigjpkoaaDoorSpl
namespace Go.Proofs.YtfgkjgfigjpkoaaDoor
set_option maxRecDepth 100000
set_option maxHeartbeats 8000000
set_option linter.unusedVariables false
set_option linter.unusedSimpArgs false
set_option linter.unusedSectionVars false
open Go.RowKit Pl
section
attribute [local irreducible] z0t z0u z0C AnsP LeP W
theorem za5 (x : Sc) (p : List Bs) (h0 : 0 < p.length) (hb : ∀ i, (pt p i).length ≤ 600) (hx : ScOk x) (h : addB x p = false) : CT Tryd.prog 14 (scH x) [.ptr 1 0 0, .sl 1 (strE p)] (.bool false) (scH x) := by
 by_cases hc : p.length = 1 ∧ pt p 0 = z1F
 ·rw [(z4I hc.1 hc.2).1] at h
  cases h
 ·by_cases ha : p.length = 4 ∧ pt p 0 = wAsk
  ·rw [(z65 ha.1 ha.2).1] at h
   cases hb1 : (isB (pt p 1) && isB (pt p 3)) with
   | false => exact z7z x p ha.1 ha.2 hx hb1
   | true =>
     rw [hb1, Bool.true_and, decide_eq_false_iff_not] at h
     exact z7A x p ha.1 ha.2 hx hb1 h
  ·rw [(z8M hc ha).1] at h
   cases hq : (okR (rawE p) && evOk (evR (rawE p))) with
   | false => exact z8U x p h0 hb hc ha hx hq
   | true =>
     rw [hq, Bool.true_and, decide_eq_false_iff_not] at h
     exact z8V x p h0 hb hc ha hx hq h
theorem z1R (s : Bs) : CT Tryd.prog 6 [] [.str s] (.tup [.agg [.int .i64 (z0W s).1.n, .int .i64 (z0W s).1.k, .ref 1, .bool (z0W s).1.ca, .ref 2], .int .i64 (z0W s).2]) [.row 10 (evE (z0W s).1.ev), .row 3 (akE (z0W s).1.ak)] := by
 have cs := zbw s
 by_cases hl : s.length ≤ 4000
 ·have cs := cs hl
  have hLl := z9U s
  have hRR := zbj hl
  have hok := z6N s
  generalize linI s = L at *
  generalize z0W s = R at *
  have hLe := z0h L
  clear hok
  refine z0d z0f 1 rfl Tryd.func6 rfl rfl rfl ?_
  conv => arg 6; whnf
  repeat ((try conv => whnf); first | (with_reducible first | refine z08 (fun Qs hN hE hR => ?_) | refine z06 ?_ | refine z00 (fun Qb kN kE kX kR => ?_) | refine z02 ?_ | refine z03 ?_ | refine z07 ?_ | refine z04 ?_ | refine z05 ?_ | (show W _ _ _ (.cond _ _ _) _ _; refine z01 rfl ?_) | (refine hN _ ?_; try clear hN hE hR Qs) | ((first | refine hE _ _ ?_ | refine hR _ ?_); try clear hN hE hR Qs) | ((first | refine kN _ ?_ | refine kE _ ?_ | refine kX _ _ rfl ?_ | refine kR _ ?_); try clear kN kE kX kR Qb)) | (refine ccA ([]) (cs) ?_) | (refine stpQ ?_))
  refine z0p (Nat × Sc) (fun y => ⟨[(2, .ptr 1 0 0), (4, .ptr 2 0 0), (5, .bool (!decide (y.2.n = 0))), (16, .sl 1 (strE L)), (17, .int .i64 ((strE L).length : Int)), (18, .int .i64 (y.1 : Int))], [(1, some (.box zSc)), (2, some (.box [.int .i64 y.2.n, .int .i64 y.2.k, .ref 3, .bool y.2.ca, .ref 4])), (3, some (.row 10 (evE y.2.ev))), (4, some (.row 3 (akE y.2.ak)))], 5⟩)
   (fun y => y.1 ≤ L.length ∧ ScOk y.2 ∧ rdL (L.drop y.1) y.1 y.2 = R) (fun y => L.length - y.1) (0, z1P) ⟨by simp, z1Q, hRR⟩ ?_ ?_
  ·(refine z0a (by rfl) ?_ ?_) <;> (repeat' (first | (exact eqA) | (refine And.intro ?_ ?_) | ((fail_if_success (with_reducible (show _ = _))); (show _ = _)))) <;> first | rfl | decide
  ·clear hRR
   intro Q1 hQ1 y hy
   obtain ⟨i, x⟩ := y
   have hi : i ≤ L.length := hy.1
   have hx : ScOk x := hy.2.1
   have hZ : rdL (L.drop i) i x = R := hy.2.2
   clear hy
   simp only
   by_cases hlt : i < L.length
   ·have hZ := z8N hlt hZ
    have f1 : (i : Int) < ((strE L).length : Int) := by omega
    have gl : (strE L)[i]? = some [.str L[i]] := by rw [strE, List.getElem?_map, List.getElem?_eq_getElem hlt]; rfl
    have c1 := z92 L[i]
    have ew := z5t (i := i) (by omega)
    unfold prt at c1
    generalize L[i] = l at *
    have inx : ∀ {x' : Sc}, rdL (L.drop (i + 1)) (i + 1) x' = R → ScOk x' → (i + 1, x').1 ≤ L.length ∧ ScOk (i + 1, x').2 ∧ rdL (L.drop (i + 1, x').1) (i + 1, x').1 (i + 1, x').2 = R := fun h1 h2 => ⟨hlt, h2, h1⟩
    cases hB : z0v l
    ·rw [hB] at c1
     simp only [cond_false] at c1
     have hZ := zaG hZ hB
     clear inx hx hB
     repeat ((try conv => whnf); first | (with_reducible first | refine z08 (fun Qs hN hE hR => ?_) | refine z06 ?_ | refine z00 (fun Qb kN kE kX kR => ?_) | refine z02 ?_ | refine z03 ?_ | refine z07 ?_ | refine z04 ?_ | refine z05 ?_ | (show W _ _ _ (.cond _ _ _) _ _; refine z01 rfl ?_) | (refine hN _ ?_; try clear hN hE hR Qs) | ((first | refine hE _ _ ?_ | refine hR _ ?_); try clear hN hE hR Qs) | ((first | refine kN _ ?_ | refine kE _ ?_ | refine kX _ _ rfl ?_ | refine kR _ ?_); try clear kN kE kX kR Qb)) | (refine z0b f1 ?_) | (refine i_at gl ?_) | (refine ccA ([]) (c1) ?_) | (refine Exists.intro _ (And.intro ew.symm ?_)) | (refine stpQ ?_))
     refine hQ1 _ _ ?_
     clear hQ1 Q1
     repeat ((try conv => whnf); first | (with_reducible first | refine z08 (fun Qs hN hE hR => ?_) | refine z06 ?_ | refine z00 (fun Qb kN kE kX kR => ?_) | refine z02 ?_ | refine z03 ?_ | refine z07 ?_ | refine z04 ?_ | refine z05 ?_ | (show W _ _ _ (.cond _ _ _) _ _; refine z01 rfl ?_) | (refine hN _ ?_; try clear hN hE hR Qs) | ((first | refine hE _ _ ?_ | refine hR _ ?_); try clear hN hE hR Qs) | ((first | refine kN _ ?_ | refine kE _ ?_ | refine kX _ _ rfl ?_ | refine kR _ ?_); try clear kN kE kX kR Qb)) | (refine stpQ ?_))
     subst hZ
     (refine z09 (by rfl) ?_ ?_ (by rfl)) <;> (repeat' (first | (exact eqA) | (refine And.intro ?_ ?_) | ((fail_if_success (with_reducible (show _ = _))); (show _ = _)))) <;> first | rfl | decide
    ·have hl1 := (z1V hB).1
     have hl2 := (z1V hB).2.1
     have hsk := z8O hZ hB
     have hwy := rl_wy hZ hB
     have hwn := rl_wn hZ hB
     have hay := rl_ay hZ hB
     have han := rl_an hZ hB
     rw [hB] at c1
     simp only [cond_true] at c1
     clear hZ hB
     generalize z0o l = p at *
     have hcl := z0h p
     by_cases h0 : p.length = 0
     ·have hZ := hsk (zaF h0)
      have f2 : ((strE p).length : Int) = 0 := by omega
      clear hsk hwy hwn hay han hl1 hl2
      repeat ((try conv => whnf); first | (with_reducible first | refine z08 (fun Qs hN hE hR => ?_) | refine z06 ?_ | refine z00 (fun Qb kN kE kX kR => ?_) | refine z02 ?_ | refine z03 ?_ | refine z07 ?_ | refine z04 ?_ | refine z05 ?_ | (show W _ _ _ (.cond _ _ _) _ _; refine z01 rfl ?_) | (refine hN _ ?_; try clear hN hE hR Qs) | ((first | refine hE _ _ ?_ | refine hR _ ?_); try clear hN hE hR Qs) | ((first | refine kN _ ?_ | refine kE _ ?_ | refine kX _ _ rfl ?_ | refine kR _ ?_); try clear kN kE kX kR Qb)) | (refine z0b f1 ?_) | (refine i_at gl ?_) | (refine ccA ([]) (c1) ?_) | (refine z0b f2 ?_) | (refine stpQ ?_))
      refine ⟨(i + 1, x), inx hZ hx, by show L.length - (i + 1) < L.length - i; omega, ?_⟩
      (refine z0a (by rfl) ?_ ?_) <;> (repeat' (first | (exact eqA) | (refine And.intro ?_ ?_) | ((fail_if_success (with_reducible (show _ = _))); (show _ = _))))
     ·have hp0 : 0 < p.length := by omega
      have hw0 := pt_ne hl2 hp0
      have g0 := z0g hp0
      have i0 : 0 < (strE p).length := by omega
      have f2 : ¬ ((strE p).length : Int) = 0 := by omega
      by_cases h35 : (pt p 0).getD 0 0 = 35
      ·have hZ := hsk (z8K h35)
       have f3 : (((pt p 0).getD 0 0).toNat : Int) = 35 := by rw [h35]; rfl
       clear hsk hwy hwn hay han hl1 hl2 h35
       generalize pt p 0 = w at *
       repeat ((try conv => whnf); first | (with_reducible first | refine z08 (fun Qs hN hE hR => ?_) | refine z06 ?_ | refine z00 (fun Qb kN kE kX kR => ?_) | refine z02 ?_ | refine z03 ?_ | refine z07 ?_ | refine z04 ?_ | refine z05 ?_ | (show W _ _ _ (.cond _ _ _) _ _; refine z01 rfl ?_) | (refine hN _ ?_; try clear hN hE hR Qs) | ((first | refine hE _ _ ?_ | refine hR _ ?_); try clear hN hE hR Qs) | ((first | refine kN _ ?_ | refine kE _ ?_ | refine kX _ _ rfl ?_ | refine kR _ ?_); try clear kN kE kX kR Qb)) | (refine z0b f1 ?_) | (refine i_at gl ?_) | (refine ccA ([]) (c1) ?_) | (refine z0c f2 ?_) | (refine And.intro i0 ?_) | (refine Exists.intro _ (And.intro g0 ?_)) | (refine Exists.intro 0 (And.intro rfl (And.intro hw0 ?_))) | (refine z0b f3 ?_) | (refine stpQ ?_))
       refine ⟨(i + 1, x), inx hZ hx, by show L.length - (i + 1) < L.length - i; omega, ?_⟩
       (refine z0a (by rfl) ?_ ?_) <;> (repeat' (first | (exact eqA) | (refine And.intro ?_ ?_) | ((fail_if_success (with_reducible (show _ = _))); (show _ = _))))
      ·have hS := z8L h0 h35
       have f3 : ¬ (((pt p 0).getD 0 0).toNat : Int) = 35 := n35 h35
       have hbd := pt_le hl1
       clear hsk hl1 hl2 h35
       by_cases hn : x.n = 0
       ·have hwy := hwy hS hn
        have hwn := hwn hS hn
        clear hay han
        rw [hn, decide_eq_true (show (0 : Int) = 0 from rfl)]
        simp only [Bool.not_true]
        by_cases h3 : p.length = 3
        ·have f4 : ((strE p).length : Int) = 3 := by omega
         by_cases hw : pt p 0 = z3W
         ·have n1 := zaH p 1 (pt p 1) (z0V (by omega)) false
          have n2 := zaH p 2 (pt p 2) (z0V (by omega)) (false || !isB (pt p 1))
          have ci := c_in (decV (pt p 1) : Int) 1 3
          have ck := z7u (decV (pt p 2) : Int)
          have hW : wldB p = ((isB (pt p 1) && isB (pt p 2)) && (inB (decV (pt p 1) : Int) 1 3 && inB (decV (pt p 2) : Int) 0 2)) := by
           rw [wldB, decide_eq_true hw, decide_eq_true h3, Bool.true_and, Bool.true_and, Bool.and_assoc]
          rw [hW] at hwy hwn
          have hnz : inB (decV (pt p 1) : Int) 1 3 = true → ¬ (decV (pt p 1) : Int) = 0 := inB_nz
          clear hW hbd hS
          unfold z3W at hw
          generalize pt p 0 = w at *
          generalize inB (decV (pt p 1) : Int) 1 3 = q1 at *
          generalize inB (decV (pt p 2) : Int) 0 2 = q2 at *
          generalize (decV (pt p 1) : Int) = v1 at *
          generalize (decV (pt p 2) : Int) = v2 at *
          generalize isB (pt p 1) = b1 at *
          generalize isB (pt p 2) = b2 at *
          cases hall : (b1 && b2)
          ·have hZ := hwn (by rw [hall]; rfl)
           have hB : (!((false || !b1) || !b2)) = false := by revert hall; cases b1 <;> cases b2 <;> decide
           clear hwy hwn inx hx
           repeat ((try conv => whnf); first | (with_reducible first | refine z08 (fun Qs hN hE hR => ?_) | refine z06 ?_ | refine z00 (fun Qb kN kE kX kR => ?_) | refine z02 ?_ | refine z03 ?_ | refine z07 ?_ | refine z04 ?_ | refine z05 ?_ | (show W _ _ _ (.cond _ _ _) _ _; refine z01 rfl ?_) | (refine hN _ ?_; try clear hN hE hR Qs) | ((first | refine hE _ _ ?_ | refine hR _ ?_); try clear hN hE hR Qs) | ((first | refine kN _ ?_ | refine kE _ ?_ | refine kX _ _ rfl ?_ | refine kR _ ?_); try clear kN kE kX kR Qb)) | (refine z0b f1 ?_) | (refine i_at gl ?_) | (refine ccA ([]) (c1) ?_) | (refine z0c f2 ?_) | (refine And.intro i0 ?_) | (refine Exists.intro _ (And.intro g0 ?_)) | (refine Exists.intro 0 (And.intro rfl (And.intro hw0 ?_))) | (refine z0c f3 ?_) | (refine z0b f4 ?_) | (refine z0b hw ?_) | (refine ccB ([_, _]) (n1) ?_) | (refine ccB ([_, _]) (n2) ?_) | (refine cb_f hB ?_) | (refine Exists.intro _ (And.intro ew.symm ?_)) | (refine stpQ ?_))
           refine hQ1 _ _ ?_
           clear hQ1 Q1
           repeat ((try conv => whnf); first | (with_reducible first | refine z08 (fun Qs hN hE hR => ?_) | refine z06 ?_ | refine z00 (fun Qb kN kE kX kR => ?_) | refine z02 ?_ | refine z03 ?_ | refine z07 ?_ | refine z04 ?_ | refine z05 ?_ | (show W _ _ _ (.cond _ _ _) _ _; refine z01 rfl ?_) | (refine hN _ ?_; try clear hN hE hR Qs) | ((first | refine hE _ _ ?_ | refine hR _ ?_); try clear hN hE hR Qs) | ((first | refine kN _ ?_ | refine kE _ ?_ | refine kX _ _ rfl ?_ | refine kR _ ?_); try clear kN kE kX kR Qb)) | (refine stpQ ?_))
           subst hZ
           (refine z09 (by rfl) ?_ ?_ (by rfl)) <;> (repeat' (first | (exact eqA) | (refine And.intro ?_ ?_) | ((fail_if_success (with_reducible (show _ = _))); (show _ = _)))) <;> first | rfl | decide
          ·have hB : (!((false || !b1) || !b2)) = true := by revert hall; cases b1 <;> cases b2 <;> decide
           cases q1
           ·have hZ := hwn (by rw [hall]; rfl)
            clear hwy hwn inx hx
            repeat ((try conv => whnf); first | (with_reducible first | refine z08 (fun Qs hN hE hR => ?_) | refine z06 ?_ | refine z00 (fun Qb kN kE kX kR => ?_) | refine z02 ?_ | refine z03 ?_ | refine z07 ?_ | refine z04 ?_ | refine z05 ?_ | (show W _ _ _ (.cond _ _ _) _ _; refine z01 rfl ?_) | (refine hN _ ?_; try clear hN hE hR Qs) | ((first | refine hE _ _ ?_ | refine hR _ ?_); try clear hN hE hR Qs) | ((first | refine kN _ ?_ | refine kE _ ?_ | refine kX _ _ rfl ?_ | refine kR _ ?_); try clear kN kE kX kR Qb)) | (refine z0b f1 ?_) | (refine i_at gl ?_) | (refine ccA ([]) (c1) ?_) | (refine z0c f2 ?_) | (refine And.intro i0 ?_) | (refine Exists.intro _ (And.intro g0 ?_)) | (refine Exists.intro 0 (And.intro rfl (And.intro hw0 ?_))) | (refine z0c f3 ?_) | (refine z0b f4 ?_) | (refine z0b hw ?_) | (refine ccB ([_, _]) (n1) ?_) | (refine ccB ([_, _]) (n2) ?_) | (refine cb_t hB ?_) | (refine ccA ([]) (ci) ?_) | (refine Exists.intro _ (And.intro ew.symm ?_)) | (refine stpQ ?_))
            refine hQ1 _ _ ?_
            clear hQ1 Q1
            repeat ((try conv => whnf); first | (with_reducible first | refine z08 (fun Qs hN hE hR => ?_) | refine z06 ?_ | refine z00 (fun Qb kN kE kX kR => ?_) | refine z02 ?_ | refine z03 ?_ | refine z07 ?_ | refine z04 ?_ | refine z05 ?_ | (show W _ _ _ (.cond _ _ _) _ _; refine z01 rfl ?_) | (refine hN _ ?_; try clear hN hE hR Qs) | ((first | refine hE _ _ ?_ | refine hR _ ?_); try clear hN hE hR Qs) | ((first | refine kN _ ?_ | refine kE _ ?_ | refine kX _ _ rfl ?_ | refine kR _ ?_); try clear kN kE kX kR Qb)) | (refine stpQ ?_))
            subst hZ
            (refine z09 (by rfl) ?_ ?_ (by rfl)) <;> (repeat' (first | (exact eqA) | (refine And.intro ?_ ?_) | ((fail_if_success (with_reducible (show _ = _))); (show _ = _)))) <;> first | rfl | decide
           ·cases q2
            ·have hZ := hwn (by rw [hall]; rfl)
             clear hwy hwn inx hx
             repeat ((try conv => whnf); first | (with_reducible first | refine z08 (fun Qs hN hE hR => ?_) | refine z06 ?_ | refine z00 (fun Qb kN kE kX kR => ?_) | refine z02 ?_ | refine z03 ?_ | refine z07 ?_ | refine z04 ?_ | refine z05 ?_ | (show W _ _ _ (.cond _ _ _) _ _; refine z01 rfl ?_) | (refine hN _ ?_; try clear hN hE hR Qs) | ((first | refine hE _ _ ?_ | refine hR _ ?_); try clear hN hE hR Qs) | ((first | refine kN _ ?_ | refine kE _ ?_ | refine kX _ _ rfl ?_ | refine kR _ ?_); try clear kN kE kX kR Qb)) | (refine z0b f1 ?_) | (refine i_at gl ?_) | (refine ccA ([]) (c1) ?_) | (refine z0c f2 ?_) | (refine And.intro i0 ?_) | (refine Exists.intro _ (And.intro g0 ?_)) | (refine Exists.intro 0 (And.intro rfl (And.intro hw0 ?_))) | (refine z0c f3 ?_) | (refine z0b f4 ?_) | (refine z0b hw ?_) | (refine ccB ([_, _]) (n1) ?_) | (refine ccB ([_, _]) (n2) ?_) | (refine cb_t hB ?_) | (refine ccA ([]) (ci) ?_) | (refine ccA ([]) (ck) ?_) | (refine Exists.intro _ (And.intro ew.symm ?_)) | (refine stpQ ?_))
             refine hQ1 _ _ ?_
             clear hQ1 Q1
             repeat ((try conv => whnf); first | (with_reducible first | refine z08 (fun Qs hN hE hR => ?_) | refine z06 ?_ | refine z00 (fun Qb kN kE kX kR => ?_) | refine z02 ?_ | refine z03 ?_ | refine z07 ?_ | refine z04 ?_ | refine z05 ?_ | (show W _ _ _ (.cond _ _ _) _ _; refine z01 rfl ?_) | (refine hN _ ?_; try clear hN hE hR Qs) | ((first | refine hE _ _ ?_ | refine hR _ ?_); try clear hN hE hR Qs) | ((first | refine kN _ ?_ | refine kE _ ?_ | refine kX _ _ rfl ?_ | refine kR _ ?_); try clear kN kE kX kR Qb)) | (refine stpQ ?_))
             subst hZ
             (refine z09 (by rfl) ?_ ?_ (by rfl)) <;> (repeat' (first | (exact eqA) | (refine And.intro ?_ ?_) | ((fail_if_success (with_reducible (show _ = _))); (show _ = _)))) <;> first | rfl | decide
            ·have hZ := hwy (by rw [hall]; rfl)
             have hnz := hnz rfl
             have hbg : (!decide (v1 = 0)) = true := by rw [decide_eq_false hnz]; rfl
             clear hwy hwn
             repeat ((try conv => whnf); first | (with_reducible first | refine z08 (fun Qs hN hE hR => ?_) | refine z06 ?_ | refine z00 (fun Qb kN kE kX kR => ?_) | refine z02 ?_ | refine z03 ?_ | refine z07 ?_ | refine z04 ?_ | refine z05 ?_ | (show W _ _ _ (.cond _ _ _) _ _; refine z01 rfl ?_) | (refine hN _ ?_; try clear hN hE hR Qs) | ((first | refine hE _ _ ?_ | refine hR _ ?_); try clear hN hE hR Qs) | ((first | refine kN _ ?_ | refine kE _ ?_ | refine kX _ _ rfl ?_ | refine kR _ ?_); try clear kN kE kX kR Qb)) | (refine z0b f1 ?_) | (refine i_at gl ?_) | (refine ccA ([]) (c1) ?_) | (refine z0c f2 ?_) | (refine And.intro i0 ?_) | (refine Exists.intro _ (And.intro g0 ?_)) | (refine Exists.intro 0 (And.intro rfl (And.intro hw0 ?_))) | (refine z0c f3 ?_) | (refine z0b f4 ?_) | (refine z0b hw ?_) | (refine ccB ([_, _]) (n1) ?_) | (refine ccB ([_, _]) (n2) ?_) | (refine cb_t hB ?_) | (refine ccA ([]) (ci) ?_) | (refine ccA ([]) (ck) ?_) | (refine stpQ ?_))
             refine ⟨(i + 1, { x with n := v1, k := v2 }), inx hZ hx, by show L.length - (i + 1) < L.length - i; omega, ?_⟩
             (refine z0a (by rfl) ?_ ?_) <;> (repeat' (first | (exact eqA) | (refine And.intro ?_ ?_) | ((fail_if_success (with_reducible (show _ = _))); (show _ = _)))) <;> first | rfl | exact hbg.symm
         ·have hZ := hwn (by rw [wldB, decide_eq_false hw]; rfl)
          unfold z3W at hw
          clear hwy hwn inx hx hbd hS
          generalize pt p 0 = w at *
          repeat ((try conv => whnf); first | (with_reducible first | refine z08 (fun Qs hN hE hR => ?_) | refine z06 ?_ | refine z00 (fun Qb kN kE kX kR => ?_) | refine z02 ?_ | refine z03 ?_ | refine z07 ?_ | refine z04 ?_ | refine z05 ?_ | (show W _ _ _ (.cond _ _ _) _ _; refine z01 rfl ?_) | (refine hN _ ?_; try clear hN hE hR Qs) | ((first | refine hE _ _ ?_ | refine hR _ ?_); try clear hN hE hR Qs) | ((first | refine kN _ ?_ | refine kE _ ?_ | refine kX _ _ rfl ?_ | refine kR _ ?_); try clear kN kE kX kR Qb)) | (refine z0b f1 ?_) | (refine i_at gl ?_) | (refine ccA ([]) (c1) ?_) | (refine z0c f2 ?_) | (refine And.intro i0 ?_) | (refine Exists.intro _ (And.intro g0 ?_)) | (refine Exists.intro 0 (And.intro rfl (And.intro hw0 ?_))) | (refine z0c f3 ?_) | (refine z0b f4 ?_) | (refine z0c hw ?_) | (refine Exists.intro _ (And.intro ew.symm ?_)) | (refine stpQ ?_))
          refine hQ1 _ _ ?_
          clear hQ1 Q1
          repeat ((try conv => whnf); first | (with_reducible first | refine z08 (fun Qs hN hE hR => ?_) | refine z06 ?_ | refine z00 (fun Qb kN kE kX kR => ?_) | refine z02 ?_ | refine z03 ?_ | refine z07 ?_ | refine z04 ?_ | refine z05 ?_ | (show W _ _ _ (.cond _ _ _) _ _; refine z01 rfl ?_) | (refine hN _ ?_; try clear hN hE hR Qs) | ((first | refine hE _ _ ?_ | refine hR _ ?_); try clear hN hE hR Qs) | ((first | refine kN _ ?_ | refine kE _ ?_ | refine kX _ _ rfl ?_ | refine kR _ ?_); try clear kN kE kX kR Qb)) | (refine stpQ ?_))
          subst hZ
          (refine z09 (by rfl) ?_ ?_ (by rfl)) <;> (repeat' (first | (exact eqA) | (refine And.intro ?_ ?_) | ((fail_if_success (with_reducible (show _ = _))); (show _ = _)))) <;> first | rfl | decide
        ·have f4 : ¬ ((strE p).length : Int) = 3 := by omega
         have hZ := hwn (by rw [wldB, decide_eq_false h3, Bool.false_and, Bool.and_false])
         clear hwy hwn inx hx hbd hS
         generalize pt p 0 = w at *
         repeat ((try conv => whnf); first | (with_reducible first | refine z08 (fun Qs hN hE hR => ?_) | refine z06 ?_ | refine z00 (fun Qb kN kE kX kR => ?_) | refine z02 ?_ | refine z03 ?_ | refine z07 ?_ | refine z04 ?_ | refine z05 ?_ | (show W _ _ _ (.cond _ _ _) _ _; refine z01 rfl ?_) | (refine hN _ ?_; try clear hN hE hR Qs) | ((first | refine hE _ _ ?_ | refine hR _ ?_); try clear hN hE hR Qs) | ((first | refine kN _ ?_ | refine kE _ ?_ | refine kX _ _ rfl ?_ | refine kR _ ?_); try clear kN kE kX kR Qb)) | (refine z0b f1 ?_) | (refine i_at gl ?_) | (refine ccA ([]) (c1) ?_) | (refine z0c f2 ?_) | (refine And.intro i0 ?_) | (refine Exists.intro _ (And.intro g0 ?_)) | (refine Exists.intro 0 (And.intro rfl (And.intro hw0 ?_))) | (refine z0c f3 ?_) | (refine z0c f4 ?_) | (refine Exists.intro _ (And.intro ew.symm ?_)) | (refine stpQ ?_))
         refine hQ1 _ _ ?_
         clear hQ1 Q1
         repeat ((try conv => whnf); first | (with_reducible first | refine z08 (fun Qs hN hE hR => ?_) | refine z06 ?_ | refine z00 (fun Qb kN kE kX kR => ?_) | refine z02 ?_ | refine z03 ?_ | refine z07 ?_ | refine z04 ?_ | refine z05 ?_ | (show W _ _ _ (.cond _ _ _) _ _; refine z01 rfl ?_) | (refine hN _ ?_; try clear hN hE hR Qs) | ((first | refine hE _ _ ?_ | refine hR _ ?_); try clear hN hE hR Qs) | ((first | refine kN _ ?_ | refine kE _ ?_ | refine kX _ _ rfl ?_ | refine kR _ ?_); try clear kN kE kX kR Qb)) | (refine stpQ ?_))
         subst hZ
         (refine z09 (by rfl) ?_ ?_ (by rfl)) <;> (repeat' (first | (exact eqA) | (refine And.intro ?_ ?_) | ((fail_if_success (with_reducible (show _ = _))); (show _ = _)))) <;> first | rfl | decide
       ·have hay := hay hS hn
        have han := han hS hn
        clear hwy hwn
        have hbn : (!decide (x.n = 0)) = true := by rw [decide_eq_false hn]; rfl
        rw [hbn]
        cases hA : addB x p
        ·have hZ := han hA
         have ca := za5 x p hp0 hbd hx hA
         unfold scH at ca
         clear hay han inx hbd hS hA
         generalize pt p 0 = w at *
         repeat ((try conv => whnf); first | (with_reducible first | refine z08 (fun Qs hN hE hR => ?_) | refine z06 ?_ | refine z00 (fun Qb kN kE kX kR => ?_) | refine z02 ?_ | refine z03 ?_ | refine z07 ?_ | refine z04 ?_ | refine z05 ?_ | (show W _ _ _ (.cond _ _ _) _ _; refine z01 rfl ?_) | (refine hN _ ?_; try clear hN hE hR Qs) | ((first | refine hE _ _ ?_ | refine hR _ ?_); try clear hN hE hR Qs) | ((first | refine kN _ ?_ | refine kE _ ?_ | refine kX _ _ rfl ?_ | refine kR _ ?_); try clear kN kE kX kR Qb)) | (refine z0b f1 ?_) | (refine i_at gl ?_) | (refine ccA ([]) (c1) ?_) | (refine z0c f2 ?_) | (refine And.intro i0 ?_) | (refine Exists.intro _ (And.intro g0 ?_)) | (refine Exists.intro 0 (And.intro rfl (And.intro hw0 ?_))) | (refine z0c f3 ?_) | (refine z0z ([2, 3, 4]) (ca) (by ((repeat' (first | (exact trivial) | (exact rfl) | (decide) | (refine And.intro ?_ ?_))); first | done | fail)) (by ((repeat' (first | (exact trivial) | (exact rfl) | (decide) | (refine And.intro ?_ ?_))); first | done | fail)) (by decide) (by rfl) (by first | exact .inl rfl | (refine .inr ⟨?_, ?_⟩ <;> simp [own2, own1, own0, ownE])) ?_) | (refine Exists.intro _ (And.intro ew.symm ?_)) | (refine stpQ ?_))
         refine hQ1 _ _ ?_
         clear hQ1 Q1
         repeat ((try conv => whnf); first | (with_reducible first | refine z08 (fun Qs hN hE hR => ?_) | refine z06 ?_ | refine z00 (fun Qb kN kE kX kR => ?_) | refine z02 ?_ | refine z03 ?_ | refine z07 ?_ | refine z04 ?_ | refine z05 ?_ | (show W _ _ _ (.cond _ _ _) _ _; refine z01 rfl ?_) | (refine hN _ ?_; try clear hN hE hR Qs) | ((first | refine hE _ _ ?_ | refine hR _ ?_); try clear hN hE hR Qs) | ((first | refine kN _ ?_ | refine kE _ ?_ | refine kX _ _ rfl ?_ | refine kR _ ?_); try clear kN kE kX kR Qb)) | (refine stpQ ?_))
         subst hZ
         (refine z09 (by rfl) ?_ ?_ (by rfl)) <;> (repeat' (first | (exact eqA) | (refine And.intro ?_ ?_) | ((fail_if_success (with_reducible (show _ = _))); (show _ = _)))) <;> first | rfl | decide
        ·have hZ := hay hA
         clear hay han
         by_cases hc : p.length = 1 ∧ pt p 0 = z1F
         ·have ca := z7y x p hc.1 hc.2
          have he := (z4I (x := x) hc.1 hc.2).2
          have hxx := z2D hx hA
          rw [he] at hZ hxx
          unfold scH at ca
          clear hbd hS hc he
          generalize pt p 0 = w at *
          repeat ((try conv => whnf); first | (with_reducible first | refine z08 (fun Qs hN hE hR => ?_) | refine z06 ?_ | refine z00 (fun Qb kN kE kX kR => ?_) | refine z02 ?_ | refine z03 ?_ | refine z07 ?_ | refine z04 ?_ | refine z05 ?_ | (show W _ _ _ (.cond _ _ _) _ _; refine z01 rfl ?_) | (refine hN _ ?_; try clear hN hE hR Qs) | ((first | refine hE _ _ ?_ | refine hR _ ?_); try clear hN hE hR Qs) | ((first | refine kN _ ?_ | refine kE _ ?_ | refine kX _ _ rfl ?_ | refine kR _ ?_); try clear kN kE kX kR Qb)) | (refine z0b f1 ?_) | (refine i_at gl ?_) | (refine ccA ([]) (c1) ?_) | (refine z0c f2 ?_) | (refine And.intro i0 ?_) | (refine Exists.intro _ (And.intro g0 ?_)) | (refine Exists.intro 0 (And.intro rfl (And.intro hw0 ?_))) | (refine z0c f3 ?_) | (refine z0z ([2, 3, 4]) (ca) (by ((repeat' (first | (exact trivial) | (exact rfl) | (decide) | (refine And.intro ?_ ?_))); first | done | fail)) (by ((repeat' (first | (exact trivial) | (exact rfl) | (decide) | (refine And.intro ?_ ?_))); first | done | fail)) (by decide) (by rfl) (by first | exact .inl rfl | (refine .inr ⟨?_, ?_⟩ <;> simp [own2, own1, own0, ownE])) ?_) | (refine stpQ ?_))
          refine ⟨(i + 1, { x with ca := true }), inx hZ hxx, by show L.length - (i + 1) < L.length - i; omega, ?_⟩
          (refine z0a (by rfl) ?_ ?_) <;> (repeat' (first | (exact eqA) | (refine And.intro ?_ ?_) | ((fail_if_success (with_reducible (show _ = _))); (show _ = _)))) <;> first | rfl | exact hbn.symm
         ·by_cases ha : p.length = 4 ∧ pt p 0 = wAsk
          ·have he := (z65 (x := x) ha.1 ha.2)
           have hA2 := hA
           rw [he.1, Bool.and_eq_true, decide_eq_true_eq] at hA2
           have ca := z7B x p ha.1 ha.2 hx hA2.1 hA2.2
           have hxx := z2D hx hA
           rw [he.2] at hZ hxx
           unfold scH scHa at ca
           clear hbd hS hc ha he hA2
           generalize z5s p = aq at *
           generalize pt p 0 = w at *
           repeat ((try conv => whnf); first | (with_reducible first | refine z08 (fun Qs hN hE hR => ?_) | refine z06 ?_ | refine z00 (fun Qb kN kE kX kR => ?_) | refine z02 ?_ | refine z03 ?_ | refine z07 ?_ | refine z04 ?_ | refine z05 ?_ | (show W _ _ _ (.cond _ _ _) _ _; refine z01 rfl ?_) | (refine hN _ ?_; try clear hN hE hR Qs) | ((first | refine hE _ _ ?_ | refine hR _ ?_); try clear hN hE hR Qs) | ((first | refine kN _ ?_ | refine kE _ ?_ | refine kX _ _ rfl ?_ | refine kR _ ?_); try clear kN kE kX kR Qb)) | (refine z0b f1 ?_) | (refine i_at gl ?_) | (refine ccA ([]) (c1) ?_) | (refine z0c f2 ?_) | (refine And.intro i0 ?_) | (refine Exists.intro _ (And.intro g0 ?_)) | (refine Exists.intro 0 (And.intro rfl (And.intro hw0 ?_))) | (refine z0c f3 ?_) | (refine z0z ([2, 3, 4]) (ca) (by ((repeat' (first | (exact trivial) | (exact rfl) | (decide) | (refine And.intro ?_ ?_))); first | done | fail)) (by ((repeat' (first | (exact trivial) | (exact rfl) | (decide) | (refine And.intro ?_ ?_))); first | done | fail)) (by decide) (by rfl) (by first | exact .inl rfl | (refine .inr ⟨?_, ?_⟩ <;> simp [own2, own1, own0, ownE])) ?_) | (refine stpQ ?_))
           refine ⟨(i + 1, { x with ak := x.ak ++ [aq] }), inx hZ hxx, by show L.length - (i + 1) < L.length - i; omega, ?_⟩
           (refine z0a (by rfl) ?_ ?_) <;> (repeat' (first | (exact eqA) | (refine And.intro ?_ ?_) | ((fail_if_success (with_reducible (show _ = _))); (show _ = _)))) <;> first | rfl | exact hbn.symm
          ·have he := (z8M (x := x) hc ha)
           have hA2 := hA
           rw [he.1, Bool.and_eq_true, decide_eq_true_eq] at hA2
           have ca := z8W x p hp0 hbd hc ha hx hA2.1 hA2.2
           have hxx := z2D hx hA
           rw [he.2] at hZ hxx
           unfold scH scHe at ca
           clear hbd hS hc ha he hA2
           generalize evR (rawE p) = ee at *
           generalize pt p 0 = w at *
           repeat ((try conv => whnf); first | (with_reducible first | refine z08 (fun Qs hN hE hR => ?_) | refine z06 ?_ | refine z00 (fun Qb kN kE kX kR => ?_) | refine z02 ?_ | refine z03 ?_ | refine z07 ?_ | refine z04 ?_ | refine z05 ?_ | (show W _ _ _ (.cond _ _ _) _ _; refine z01 rfl ?_) | (refine hN _ ?_; try clear hN hE hR Qs) | ((first | refine hE _ _ ?_ | refine hR _ ?_); try clear hN hE hR Qs) | ((first | refine kN _ ?_ | refine kE _ ?_ | refine kX _ _ rfl ?_ | refine kR _ ?_); try clear kN kE kX kR Qb)) | (refine z0b f1 ?_) | (refine i_at gl ?_) | (refine ccA ([]) (c1) ?_) | (refine z0c f2 ?_) | (refine And.intro i0 ?_) | (refine Exists.intro _ (And.intro g0 ?_)) | (refine Exists.intro 0 (And.intro rfl (And.intro hw0 ?_))) | (refine z0c f3 ?_) | (refine z0z ([2, 3, 4]) (ca) (by ((repeat' (first | (exact trivial) | (exact rfl) | (decide) | (refine And.intro ?_ ?_))); first | done | fail)) (by ((repeat' (first | (exact trivial) | (exact rfl) | (decide) | (refine And.intro ?_ ?_))); first | done | fail)) (by decide) (by rfl) (by first | exact .inl rfl | (refine .inr ⟨?_, ?_⟩ <;> simp [own2, own1, own0, ownE])) ?_) | (refine stpQ ?_))
           refine ⟨(i + 1, { x with ev := x.ev ++ [ee] }), inx hZ hxx, by show L.length - (i + 1) < L.length - i; omega, ?_⟩
           (refine z0a (by rfl) ?_ ?_) <;> (repeat' (first | (exact eqA) | (refine And.intro ?_ ?_) | ((fail_if_success (with_reducible (show _ = _))); (show _ = _)))) <;> first | rfl | exact hbn.symm
   ·have hie : i = L.length := by omega
    subst hie
    rw [List.drop_length] at hZ
    have f1 : ¬ (L.length : Int) < ((strE L).length : Int) := by omega
    by_cases hn : x.n = 0
    ·have hZ := z8P hZ hn
     rw [hn, decide_eq_true (show (0 : Int) = 0 from rfl)]
     simp only [Bool.not_true]
     repeat ((try conv => whnf); first | (with_reducible first | refine z08 (fun Qs hN hE hR => ?_) | refine z06 ?_ | refine z00 (fun Qb kN kE kX kR => ?_) | refine z02 ?_ | refine z03 ?_ | refine z07 ?_ | refine z04 ?_ | refine z05 ?_ | (show W _ _ _ (.cond _ _ _) _ _; refine z01 rfl ?_) | (refine hN _ ?_; try clear hN hE hR Qs) | ((first | refine hE _ _ ?_ | refine hR _ ?_); try clear hN hE hR Qs) | ((first | refine kN _ ?_ | refine kE _ ?_ | refine kX _ _ rfl ?_ | refine kR _ ?_); try clear kN kE kX kR Qb)) | (refine z0c f1 ?_) | (refine stpQ ?_))
     refine hQ1 _ _ ?_
     clear hQ1 Q1
     repeat ((try conv => whnf); first | (with_reducible first | refine z08 (fun Qs hN hE hR => ?_) | refine z06 ?_ | refine z00 (fun Qb kN kE kX kR => ?_) | refine z02 ?_ | refine z03 ?_ | refine z07 ?_ | refine z04 ?_ | refine z05 ?_ | (show W _ _ _ (.cond _ _ _) _ _; refine z01 rfl ?_) | (refine hN _ ?_; try clear hN hE hR Qs) | ((first | refine hE _ _ ?_ | refine hR _ ?_); try clear hN hE hR Qs) | ((first | refine kN _ ?_ | refine kE _ ?_ | refine kX _ _ rfl ?_ | refine kR _ ?_); try clear kN kE kX kR Qb)) | (refine stpQ ?_))
     subst hZ
     (refine z09 (by rfl) ?_ ?_ (by rfl)) <;> (repeat' (first | (exact eqA) | (refine And.intro ?_ ?_) | ((fail_if_success (with_reducible (show _ = _))); (show _ = _)))) <;> first | rfl | decide
    ·have hZ := z8Q hZ hn
     have hbn : (!decide (x.n = 0)) = true := by rw [decide_eq_false hn]; rfl
     rw [hbn]
     repeat ((try conv => whnf); first | (with_reducible first | refine z08 (fun Qs hN hE hR => ?_) | refine z06 ?_ | refine z00 (fun Qb kN kE kX kR => ?_) | refine z02 ?_ | refine z03 ?_ | refine z07 ?_ | refine z04 ?_ | refine z05 ?_ | (show W _ _ _ (.cond _ _ _) _ _; refine z01 rfl ?_) | (refine hN _ ?_; try clear hN hE hR Qs) | ((first | refine hE _ _ ?_ | refine hR _ ?_); try clear hN hE hR Qs) | ((first | refine kN _ ?_ | refine kE _ ?_ | refine kX _ _ rfl ?_ | refine kR _ ?_); try clear kN kE kX kR Qb)) | (refine z0c f1 ?_) | (refine stpQ ?_))
     refine hQ1 _ _ ?_
     clear hQ1 Q1
     repeat ((try conv => whnf); first | (with_reducible first | refine z08 (fun Qs hN hE hR => ?_) | refine z06 ?_ | refine z00 (fun Qb kN kE kX kR => ?_) | refine z02 ?_ | refine z03 ?_ | refine z07 ?_ | refine z04 ?_ | refine z05 ?_ | (show W _ _ _ (.cond _ _ _) _ _; refine z01 rfl ?_) | (refine hN _ ?_; try clear hN hE hR Qs) | ((first | refine hE _ _ ?_ | refine hR _ ?_); try clear hN hE hR Qs) | ((first | refine kN _ ?_ | refine kE _ ?_ | refine kX _ _ rfl ?_ | refine kR _ ?_); try clear kN kE kX kR Qb)) | (refine stpQ ?_))
     subst hZ
     (refine z09 (by rfl) ?_ ?_ (by rfl)) <;> (repeat' (first | (exact eqA) | (refine And.intro ?_ ?_) | ((fail_if_success (with_reducible (show _ = _))); (show _ = _)))) <;> first | rfl | decide
 ·have hZ : (z1P, (-1 : Int)) = z0W s := by rw [z0W, if_neg hl]
  generalize z0W s = R at *
  clear cs
  refine z0d z0f 1 rfl Tryd.func6 rfl rfl rfl ?_
  conv => arg 6; whnf
  repeat ((try conv => whnf); first | (with_reducible first | refine z08 (fun Qs hN hE hR => ?_) | refine z06 ?_ | refine z00 (fun Qb kN kE kX kR => ?_) | refine z02 ?_ | refine z03 ?_ | refine z07 ?_ | refine z04 ?_ | refine z05 ?_ | (show W _ _ _ (.cond _ _ _) _ _; refine z01 rfl ?_) | (refine hN _ ?_; try clear hN hE hR Qs) | ((first | refine hE _ _ ?_ | refine hR _ ?_); try clear hN hE hR Qs) | ((first | refine kN _ ?_ | refine kE _ ?_ | refine kX _ _ rfl ?_ | refine kR _ ?_); try clear kN kE kX kR Qb)) | (refine stpQ ?_))
  subst hZ
  (refine z09 (by rfl) ?_ ?_ (by rfl)) <;> (repeat' (first | (exact eqA) | (refine And.intro ?_ ?_) | ((fail_if_success (with_reducible (show _ = _))); (show _ = _)))) <;> first | rfl | decide
end
end Go.Proofs.YtfgkjgfigjpkoaaDoor
