/- Functions by content: a script is read, by the reference. -/
import Derived.Test.YtfgkjgfigjpkoaaDoorVQ
import Derived.Test.YtfgkjgfigjpkoaaDoorLim
import Derived.Test.YtfgkjgfigjpkoaaDoorPt
namespace Go.Proofs.YtfgkjgfigjpkoaaDoor
set_option linter.unusedVariables false
set_option linter.unusedSimpArgs false
set_option linter.unusedSectionVars false
open Go.RowKit Pl
theorem ev_fit (p : List Bs) (h : ∀ i, (pt p i).length ≤ 600) : ((evR (rawE p)).cn.length : Int) ≤ 1000000000 ∧ ((evR (rawE p)).cv.length : Int) ≤ 1000000000 := by
 have h3 := h 3
 have h4 := h 4
 have key : ∀ j, ((mvE j p).cn.length : Int) ≤ 1000000000 ∧ ((mvE j p).cv.length : Int) ≤ 1000000000 := fun j => by
  unfold mvE
  simp only
  refine ⟨?_, ?_⟩
  ·split
   ·omega
   ·simp
  ·split
   ·split
    ·simp
    ·omega
   ·simp
 unfold rawE
 split
 ·exact ⟨by show ((([] : Bs).length : Nat) : Int) ≤ _; simp, by show ((([] : Bs).length : Nat) : Int) ≤ _; simp⟩
 ·unfold rawM
  split
  ·exact key _
  ·exact ⟨by show ((([] : Bs).length : Nat) : Int) ≤ _; simp, by show ((([] : Bs).length : Nat) : Int) ≤ _; simp⟩
section
attribute [local irreducible] z0t z0u z0C AnsP LeP W
set_option maxRecDepth 100000 in
set_option maxHeartbeats 8000000 in
theorem z4M (s : Bs) : CT Tryd.prog 7 [] [.str s] (.tup [.agg [.int .i64 (z0W s).1.n, .int .i64 (z0W s).1.k, .ref 1, .bool (z0W s).1.ca, .ref 2], .int .i64 (z0W s).2]) [.row 10 (evE (z0W s).1.ev), .row 3 (akE (z0W s).1.ak)] := by
 by_cases hl : s.length ≤ 4000
 ·have cs := z7G s hl
  have hLl := z9T s
  have hRR : rdL (linM s) 0 z1P = z0W s := by rw [z0W, if_pos hl]
  generalize linM s = L at *
  generalize z0W s = R at *
  have hLe := z0h L
  refine z0d z0f 1 rfl Tryd.func7 rfl rfl rfl ?_
  conv => arg 6; whnf
  repeat ((try conv => whnf); first | (with_reducible first | refine z08 (fun Qs hN hE hR => ?_) | refine z06 ?_ | refine z00 (fun Qb kN kE kX kR => ?_) | refine z02 ?_ | refine z03 ?_ | refine z07 ?_ | refine z04 ?_ | refine z05 ?_ | (show W _ _ _ (.cond _ _ _) _ _; refine z01 rfl ?_) | (refine hN _ ?_; try clear hN hE hR Qs) | ((first | refine hE _ _ ?_ | refine hR _ ?_); try clear hN hE hR Qs) | ((first | refine kN _ ?_ | refine kE _ ?_ | refine kX _ _ rfl ?_ | refine kR _ ?_); try clear kN kE kX kR Qb)) | (refine ccA ([]) (cs) ?_) | (refine stpQ ?_))
  refine z0p (Nat × Sc) (fun y => ⟨[(2, .ptr 1 0 0), (4, .ptr 2 0 0), (5, .ref 5), (6, .int .i64 (y.1 : Int))], [(1, some (.box zSc)), (2, some (.box [.int .i64 y.2.n, .int .i64 y.2.k, .ref 3, .bool y.2.ca, .ref 4])), (3, some (.row 10 (evE y.2.ev))), (4, some (.row 3 (akE y.2.ak))), (5, some (.row 1 (strE L)))], 6⟩)
   (fun y => y.1 ≤ L.length ∧ ScOk y.2 ∧ rdL (L.drop y.1) y.1 y.2 = R) (fun y => L.length - y.1) (0, z1P) ⟨by simp, z1Q, hRR⟩ ?_ ?_
  ·(refine z0a (by rfl) ?_ ?_) <;> (repeat' (first | (exact eqA) | (refine And.intro ?_ ?_) | ((fail_if_success (with_reducible (show _ = _))); (show _ = _)))) <;> first | rfl | decide
  ·clear hRR
   intro Q1 hQ1 y hy
   obtain ⟨i, x⟩ := y
   have hi : i ≤ L.length := hy.1
   have hx : ScOk x := hy.2.1
   have hZ : rdL (L.drop i) i x = R := hy.2.2
   clear hy
   simp only
   by_cases hlt : i < L.length
   ·have hZ := z8N hlt hZ
    have f1 : (i : Int) < ((strE L).length : Int) := by omega
    have iL : i < (strE L).length := by omega
    have gl : (strE L)[i]? = some [.str L[i]] := by rw [strE, List.getElem?_map, List.getElem?_eq_getElem hlt]; rfl
    have c1 := z7C L[i]
    have ew := z5t (i := i) (by omega)
    unfold prt at c1
    generalize L[i] = l at *
    have inx : ∀ {x' : Sc}, rdL (L.drop (i + 1)) (i + 1) x' = R → ScOk x' → (i + 1, x').1 ≤ L.length ∧ ScOk (i + 1, x').2 ∧ rdL (L.drop (i + 1, x').1) (i + 1, x').1 (i + 1, x').2 = R := fun h1 h2 => ⟨hlt, h2, h1⟩
    cases hB : z0v l
    ·rw [hB] at c1
     simp only [cond_false] at c1
     have hZ := zaG hZ hB
     clear inx hx hB
     repeat ((try conv => whnf); first | (with_reducible first | refine z08 (fun Qs hN hE hR => ?_) | refine z06 ?_ | refine z00 (fun Qb kN kE kX kR => ?_) | refine z02 ?_ | refine z03 ?_ | refine z07 ?_ | refine z04 ?_ | refine z05 ?_ | (show W _ _ _ (.cond _ _ _) _ _; refine z01 rfl ?_) | (refine hN _ ?_; try clear hN hE hR Qs) | ((first | refine hE _ _ ?_ | refine hR _ ?_); try clear hN hE hR Qs) | ((first | refine kN _ ?_ | refine kE _ ?_ | refine kX _ _ rfl ?_ | refine kR _ ?_); try clear kN kE kX kR Qb)) | (refine z0b f1 ?_) | (refine And.intro iL ?_) | (refine Exists.intro _ (And.intro gl ?_)) | (refine ccA ([]) (c1) ?_) | (refine Exists.intro _ (And.intro ew.symm ?_)) | (refine stpQ ?_))
     refine hQ1 _ _ ?_
     clear hQ1 Q1
     repeat ((try conv => whnf); first | (with_reducible first | refine z08 (fun Qs hN hE hR => ?_) | refine z06 ?_ | refine z00 (fun Qb kN kE kX kR => ?_) | refine z02 ?_ | refine z03 ?_ | refine z07 ?_ | refine z04 ?_ | refine z05 ?_ | (show W _ _ _ (.cond _ _ _) _ _; refine z01 rfl ?_) | (refine hN _ ?_; try clear hN hE hR Qs) | ((first | refine hE _ _ ?_ | refine hR _ ?_); try clear hN hE hR Qs) | ((first | refine kN _ ?_ | refine kE _ ?_ | refine kX _ _ rfl ?_ | refine kR _ ?_); try clear kN kE kX kR Qb)) | (refine stpQ ?_))
     subst hZ
     (refine z09 (by rfl) ?_ ?_ (by rfl)) <;> (repeat' (first | (exact eqA) | (refine And.intro ?_ ?_) | ((fail_if_success (with_reducible (show _ = _))); (show _ = _)))) <;> first | rfl | decide
    ·have hl1 := (z1V hB).1
     have hl2 := (z1V hB).2.1
     have hsk := z8O hZ hB
     have hwy := rl_wy hZ hB
     have hwn := rl_wn hZ hB
     have hay := rl_ay hZ hB
     have han := rl_an hZ hB
     rw [hB] at c1
     simp only [cond_true] at c1
     clear hZ hB
     generalize z0o l = p at *
     have hcl := z0h p
     by_cases h0 : p.length = 0
     ·have hZ := hsk (zaF h0)
      have f2 : ((strE p).length : Int) = 0 := by omega
      clear hsk hwy hwn hay han hl1 hl2
      repeat ((try conv => whnf); first | (with_reducible first | refine z08 (fun Qs hN hE hR => ?_) | refine z06 ?_ | refine z00 (fun Qb kN kE kX kR => ?_) | refine z02 ?_ | refine z03 ?_ | refine z07 ?_ | refine z04 ?_ | refine z05 ?_ | (show W _ _ _ (.cond _ _ _) _ _; refine z01 rfl ?_) | (refine hN _ ?_; try clear hN hE hR Qs) | ((first | refine hE _ _ ?_ | refine hR _ ?_); try clear hN hE hR Qs) | ((first | refine kN _ ?_ | refine kE _ ?_ | refine kX _ _ rfl ?_ | refine kR _ ?_); try clear kN kE kX kR Qb)) | (refine z0b f1 ?_) | (refine And.intro iL ?_) | (refine Exists.intro _ (And.intro gl ?_)) | (refine ccA ([]) (c1) ?_) | (refine z0b f2 ?_) | (refine stpQ ?_))
      refine ⟨(i + 1, x), inx hZ hx, by show L.length - (i + 1) < L.length - i; omega, ?_⟩
      (refine z0a (by rfl) ?_ ?_) <;> (repeat' (first | (exact eqA) | (refine And.intro ?_ ?_) | ((fail_if_success (with_reducible (show _ = _))); (show _ = _))))
     ·have hp0 : 0 < p.length := by omega
      have hw0 := pt_ne hl2 hp0
      have g0 := z0g hp0
      have i0 : 0 < (strE p).length := by omega
      have f2 : ¬ ((strE p).length : Int) = 0 := by omega
      by_cases h35 : (pt p 0).getD 0 0 = 35
      ·have hZ := hsk (z8K h35)
       have f3 : (((pt p 0).getD 0 0).toNat : Int) = 35 := by rw [h35]; rfl
       clear hsk hwy hwn hay han hl1 hl2 h35
       generalize pt p 0 = w at *
       repeat ((try conv => whnf); first | (with_reducible first | refine z08 (fun Qs hN hE hR => ?_) | refine z06 ?_ | refine z00 (fun Qb kN kE kX kR => ?_) | refine z02 ?_ | refine z03 ?_ | refine z07 ?_ | refine z04 ?_ | refine z05 ?_ | (show W _ _ _ (.cond _ _ _) _ _; refine z01 rfl ?_) | (refine hN _ ?_; try clear hN hE hR Qs) | ((first | refine hE _ _ ?_ | refine hR _ ?_); try clear hN hE hR Qs) | ((first | refine kN _ ?_ | refine kE _ ?_ | refine kX _ _ rfl ?_ | refine kR _ ?_); try clear kN kE kX kR Qb)) | (refine z0b f1 ?_) | (refine And.intro iL ?_) | (refine Exists.intro _ (And.intro gl ?_)) | (refine ccA ([]) (c1) ?_) | (refine z0c f2 ?_) | (refine And.intro i0 ?_) | (refine Exists.intro _ (And.intro g0 ?_)) | (refine Exists.intro 0 (And.intro rfl (And.intro hw0 ?_))) | (refine z0b f3 ?_) | (refine stpQ ?_))
       refine ⟨(i + 1, x), inx hZ hx, by show L.length - (i + 1) < L.length - i; omega, ?_⟩
       (refine z0a (by rfl) ?_ ?_) <;> (repeat' (first | (exact eqA) | (refine And.intro ?_ ?_) | ((fail_if_success (with_reducible (show _ = _))); (show _ = _))))
      ·have hS := z8L h0 h35
       have f3 : ¬ (((pt p 0).getD 0 0).toNat : Int) = 35 := n35 h35
       have hbd := pt_le hl1
       clear hsk hl1 hl2 h35
       by_cases hn : x.n = 0
       ·have hwy := hwy hS hn
        have hwn := hwn hS hn
        clear hay han
        have ca := z7F x p hp0 hn
        unfold scH at ca
        simp only at ca
        cases hW : wldB p
        ·have hZ := hwn hW
         rw [hW] at ca
         clear hwy hwn inx hx hbd hS hW
         generalize pt p 0 = w at *
         repeat ((try conv => whnf); first | (with_reducible first | refine z08 (fun Qs hN hE hR => ?_) | refine z06 ?_ | refine z00 (fun Qb kN kE kX kR => ?_) | refine z02 ?_ | refine z03 ?_ | refine z07 ?_ | refine z04 ?_ | refine z05 ?_ | (show W _ _ _ (.cond _ _ _) _ _; refine z01 rfl ?_) | (refine hN _ ?_; try clear hN hE hR Qs) | ((first | refine hE _ _ ?_ | refine hR _ ?_); try clear hN hE hR Qs) | ((first | refine kN _ ?_ | refine kE _ ?_ | refine kX _ _ rfl ?_ | refine kR _ ?_); try clear kN kE kX kR Qb)) | (refine z0b f1 ?_) | (refine And.intro iL ?_) | (refine Exists.intro _ (And.intro gl ?_)) | (refine ccA ([]) (c1) ?_) | (refine z0c f2 ?_) | (refine And.intro i0 ?_) | (refine Exists.intro _ (And.intro g0 ?_)) | (refine Exists.intro 0 (And.intro rfl (And.intro hw0 ?_))) | (refine z0c f3 ?_) | (refine z0z ([2, 3, 4]) (ca) (by ((repeat' (first | (exact trivial) | (exact rfl) | (decide) | (refine And.intro ?_ ?_))); first | done | fail)) (by ((repeat' (first | (exact trivial) | (exact rfl) | (decide) | (refine And.intro ?_ ?_))); first | done | fail)) (by decide) (by rfl) (by first | exact .inl rfl | (refine .inr ⟨?_, ?_⟩ <;> simp [own2, own1, own0, ownE])) ?_) | (refine Exists.intro _ (And.intro ew.symm ?_)) | (refine stpQ ?_))
         refine hQ1 _ _ ?_
         clear hQ1 Q1
         repeat ((try conv => whnf); first | (with_reducible first | refine z08 (fun Qs hN hE hR => ?_) | refine z06 ?_ | refine z00 (fun Qb kN kE kX kR => ?_) | refine z02 ?_ | refine z03 ?_ | refine z07 ?_ | refine z04 ?_ | refine z05 ?_ | (show W _ _ _ (.cond _ _ _) _ _; refine z01 rfl ?_) | (refine hN _ ?_; try clear hN hE hR Qs) | ((first | refine hE _ _ ?_ | refine hR _ ?_); try clear hN hE hR Qs) | ((first | refine kN _ ?_ | refine kE _ ?_ | refine kX _ _ rfl ?_ | refine kR _ ?_); try clear kN kE kX kR Qb)) | (refine stpQ ?_))
         subst hZ
         (refine z09 (by rfl) ?_ ?_ (by rfl)) <;> (repeat' (first | (exact eqA) | (refine And.intro ?_ ?_) | ((fail_if_success (with_reducible (show _ = _))); (show _ = _)))) <;> first | rfl | decide
        ·have hZ := hwy hW
         rw [hW] at ca
         have hW2 := hW
         rw [wldB, Bool.and_eq_true, Bool.and_eq_true, decide_eq_true_eq, decide_eq_true_eq] at hW2
         have h3 := hW2.2.1
         have e1 : nV p 1 = decV (pt p 1) := by rw [nV, if_pos (by omega)]
         have e2 : nV p 2 = decV (pt p 2) := by rw [nV, if_pos (by omega)]
         rw [e1, e2] at ca
         clear hwy hwn hbd hS hW hW2 e1 e2
         generalize (decV (pt p 1) : Int) = v1 at *
         generalize (decV (pt p 2) : Int) = v2 at *
         generalize pt p 0 = w at *
         repeat ((try conv => whnf); first | (with_reducible first | refine z08 (fun Qs hN hE hR => ?_) | refine z06 ?_ | refine z00 (fun Qb kN kE kX kR => ?_) | refine z02 ?_ | refine z03 ?_ | refine z07 ?_ | refine z04 ?_ | refine z05 ?_ | (show W _ _ _ (.cond _ _ _) _ _; refine z01 rfl ?_) | (refine hN _ ?_; try clear hN hE hR Qs) | ((first | refine hE _ _ ?_ | refine hR _ ?_); try clear hN hE hR Qs) | ((first | refine kN _ ?_ | refine kE _ ?_ | refine kX _ _ rfl ?_ | refine kR _ ?_); try clear kN kE kX kR Qb)) | (refine z0b f1 ?_) | (refine And.intro iL ?_) | (refine Exists.intro _ (And.intro gl ?_)) | (refine ccA ([]) (c1) ?_) | (refine z0c f2 ?_) | (refine And.intro i0 ?_) | (refine Exists.intro _ (And.intro g0 ?_)) | (refine Exists.intro 0 (And.intro rfl (And.intro hw0 ?_))) | (refine z0c f3 ?_) | (refine z0z ([2, 3, 4]) (ca) (by ((repeat' (first | (exact trivial) | (exact rfl) | (decide) | (refine And.intro ?_ ?_))); first | done | fail)) (by ((repeat' (first | (exact trivial) | (exact rfl) | (decide) | (refine And.intro ?_ ?_))); first | done | fail)) (by decide) (by rfl) (by first | exact .inl rfl | (refine .inr ⟨?_, ?_⟩ <;> simp [own2, own1, own0, ownE])) ?_) | (refine stpQ ?_))
         refine ⟨(i + 1, { x with n := v1, k := v2 }), inx hZ hx, by show L.length - (i + 1) < L.length - i; omega, ?_⟩
         (refine z0a (by rfl) ?_ ?_) <;> (repeat' (first | (exact eqA) | (refine And.intro ?_ ?_) | ((fail_if_success (with_reducible (show _ = _))); (show _ = _)))) <;> rfl
       ·have hay := hay hS hn
        have han := han hS hn
        clear hwy hwn
        by_cases hc : p.length = 1 ∧ pt p 0 = z1F
        ·have ca := z97 x p hn hc.1 hc.2
         have he := z4I (x := x) hc.1 hc.2
         have hZ := hay he.1
         rw [he.2] at hZ
         unfold scH at ca
         clear hbd hS hc he hay han
         generalize pt p 0 = w at *
         repeat ((try conv => whnf); first | (with_reducible first | refine z08 (fun Qs hN hE hR => ?_) | refine z06 ?_ | refine z00 (fun Qb kN kE kX kR => ?_) | refine z02 ?_ | refine z03 ?_ | refine z07 ?_ | refine z04 ?_ | refine z05 ?_ | (show W _ _ _ (.cond _ _ _) _ _; refine z01 rfl ?_) | (refine hN _ ?_; try clear hN hE hR Qs) | ((first | refine hE _ _ ?_ | refine hR _ ?_); try clear hN hE hR Qs) | ((first | refine kN _ ?_ | refine kE _ ?_ | refine kX _ _ rfl ?_ | refine kR _ ?_); try clear kN kE kX kR Qb)) | (refine z0b f1 ?_) | (refine And.intro iL ?_) | (refine Exists.intro _ (And.intro gl ?_)) | (refine ccA ([]) (c1) ?_) | (refine z0c f2 ?_) | (refine And.intro i0 ?_) | (refine Exists.intro _ (And.intro g0 ?_)) | (refine Exists.intro 0 (And.intro rfl (And.intro hw0 ?_))) | (refine z0c f3 ?_) | (refine z0z ([2, 3, 4]) (ca) (by ((repeat' (first | (exact trivial) | (exact rfl) | (decide) | (refine And.intro ?_ ?_))); first | done | fail)) (by ((repeat' (first | (exact trivial) | (exact rfl) | (decide) | (refine And.intro ?_ ?_))); first | done | fail)) (by decide) (by rfl) (by first | exact .inl rfl | (refine .inr ⟨?_, ?_⟩ <;> simp [own2, own1, own0, ownE])) ?_) | (refine stpQ ?_))
         refine ⟨(i + 1, { x with ca := true }), inx hZ hx, by show L.length - (i + 1) < L.length - i; omega, ?_⟩
         (refine z0a (by rfl) ?_ ?_) <;> (repeat' (first | (exact eqA) | (refine And.intro ?_ ?_) | ((fail_if_success (with_reducible (show _ = _))); (show _ = _)))) <;> rfl
        ·by_cases ha : p.length = 4 ∧ pt p 0 = wAsk
         ·have ca := za8 x p hn ha.1 ha.2 hx
          have he := z65 (x := x) ha.1 ha.2
          rw [← he.1] at ca
          unfold scH scHa at ca
          cases hA : addB x p
          ·have hZ := han hA
           rw [hA] at ca
           clear hay han inx hbd hS hA hc ha he
           generalize z5s p = aq at *
           generalize pt p 0 = w at *
           repeat ((try conv => whnf); first | (with_reducible first | refine z08 (fun Qs hN hE hR => ?_) | refine z06 ?_ | refine z00 (fun Qb kN kE kX kR => ?_) | refine z02 ?_ | refine z03 ?_ | refine z07 ?_ | refine z04 ?_ | refine z05 ?_ | (show W _ _ _ (.cond _ _ _) _ _; refine z01 rfl ?_) | (refine hN _ ?_; try clear hN hE hR Qs) | ((first | refine hE _ _ ?_ | refine hR _ ?_); try clear hN hE hR Qs) | ((first | refine kN _ ?_ | refine kE _ ?_ | refine kX _ _ rfl ?_ | refine kR _ ?_); try clear kN kE kX kR Qb)) | (refine z0b f1 ?_) | (refine And.intro iL ?_) | (refine Exists.intro _ (And.intro gl ?_)) | (refine ccA ([]) (c1) ?_) | (refine z0c f2 ?_) | (refine And.intro i0 ?_) | (refine Exists.intro _ (And.intro g0 ?_)) | (refine Exists.intro 0 (And.intro rfl (And.intro hw0 ?_))) | (refine z0c f3 ?_) | (refine z0z ([2, 3, 4]) (ca) (by ((repeat' (first | (exact trivial) | (exact rfl) | (decide) | (refine And.intro ?_ ?_))); first | done | fail)) (by ((repeat' (first | (exact trivial) | (exact rfl) | (decide) | (refine And.intro ?_ ?_))); first | done | fail)) (by decide) (by rfl) (by first | exact .inl rfl | (refine .inr ⟨?_, ?_⟩ <;> simp [own2, own1, own0, ownE])) ?_) | (refine Exists.intro _ (And.intro ew.symm ?_)) | (refine stpQ ?_))
           refine hQ1 _ _ ?_
           clear hQ1 Q1
           repeat ((try conv => whnf); first | (with_reducible first | refine z08 (fun Qs hN hE hR => ?_) | refine z06 ?_ | refine z00 (fun Qb kN kE kX kR => ?_) | refine z02 ?_ | refine z03 ?_ | refine z07 ?_ | refine z04 ?_ | refine z05 ?_ | (show W _ _ _ (.cond _ _ _) _ _; refine z01 rfl ?_) | (refine hN _ ?_; try clear hN hE hR Qs) | ((first | refine hE _ _ ?_ | refine hR _ ?_); try clear hN hE hR Qs) | ((first | refine kN _ ?_ | refine kE _ ?_ | refine kX _ _ rfl ?_ | refine kR _ ?_); try clear kN kE kX kR Qb)) | (refine stpQ ?_))
           subst hZ
           (refine z09 (by rfl) ?_ ?_ (by rfl)) <;> (repeat' (first | (exact eqA) | (refine And.intro ?_ ?_) | ((fail_if_success (with_reducible (show _ = _))); (show _ = _)))) <;> first | rfl | decide
          ·have hZ := hay hA
           have hxx := z2D hx hA
           rw [he.2] at hZ hxx
           rw [hA] at ca
           clear hay han hbd hS hA hc ha he
           generalize z5s p = aq at *
           generalize pt p 0 = w at *
           repeat ((try conv => whnf); first | (with_reducible first | refine z08 (fun Qs hN hE hR => ?_) | refine z06 ?_ | refine z00 (fun Qb kN kE kX kR => ?_) | refine z02 ?_ | refine z03 ?_ | refine z07 ?_ | refine z04 ?_ | refine z05 ?_ | (show W _ _ _ (.cond _ _ _) _ _; refine z01 rfl ?_) | (refine hN _ ?_; try clear hN hE hR Qs) | ((first | refine hE _ _ ?_ | refine hR _ ?_); try clear hN hE hR Qs) | ((first | refine kN _ ?_ | refine kE _ ?_ | refine kX _ _ rfl ?_ | refine kR _ ?_); try clear kN kE kX kR Qb)) | (refine z0b f1 ?_) | (refine And.intro iL ?_) | (refine Exists.intro _ (And.intro gl ?_)) | (refine ccA ([]) (c1) ?_) | (refine z0c f2 ?_) | (refine And.intro i0 ?_) | (refine Exists.intro _ (And.intro g0 ?_)) | (refine Exists.intro 0 (And.intro rfl (And.intro hw0 ?_))) | (refine z0c f3 ?_) | (refine z0z ([2, 3, 4]) (ca) (by ((repeat' (first | (exact trivial) | (exact rfl) | (decide) | (refine And.intro ?_ ?_))); first | done | fail)) (by ((repeat' (first | (exact trivial) | (exact rfl) | (decide) | (refine And.intro ?_ ?_))); first | done | fail)) (by decide) (by rfl) (by first | exact .inl rfl | (refine .inr ⟨?_, ?_⟩ <;> simp [own2, own1, own0, ownE])) ?_) | (refine stpQ ?_))
           refine ⟨(i + 1, { x with ak := x.ak ++ [aq] }), inx hZ hxx, by show L.length - (i + 1) < L.length - i; omega, ?_⟩
           (refine z0a (by rfl) ?_ ?_) <;> (repeat' (first | (exact eqA) | (refine And.intro ?_ ?_) | ((fail_if_success (with_reducible (show _ = _))); (show _ = _)))) <;> rfl
         ·have ca := zbG x p hn hp0 hbd hc ha hx (ev_fit p hbd)
          have he := z8M (x := x) hc ha
          rw [← he.1] at ca
          unfold scH scHe at ca
          cases hA : addB x p
          ·have hZ := han hA
           rw [hA] at ca
           clear hay han inx hbd hS hA hc ha he
           generalize evR (rawE p) = ee at *
           generalize pt p 0 = w at *
           repeat ((try conv => whnf); first | (with_reducible first | refine z08 (fun Qs hN hE hR => ?_) | refine z06 ?_ | refine z00 (fun Qb kN kE kX kR => ?_) | refine z02 ?_ | refine z03 ?_ | refine z07 ?_ | refine z04 ?_ | refine z05 ?_ | (show W _ _ _ (.cond _ _ _) _ _; refine z01 rfl ?_) | (refine hN _ ?_; try clear hN hE hR Qs) | ((first | refine hE _ _ ?_ | refine hR _ ?_); try clear hN hE hR Qs) | ((first | refine kN _ ?_ | refine kE _ ?_ | refine kX _ _ rfl ?_ | refine kR _ ?_); try clear kN kE kX kR Qb)) | (refine z0b f1 ?_) | (refine And.intro iL ?_) | (refine Exists.intro _ (And.intro gl ?_)) | (refine ccA ([]) (c1) ?_) | (refine z0c f2 ?_) | (refine And.intro i0 ?_) | (refine Exists.intro _ (And.intro g0 ?_)) | (refine Exists.intro 0 (And.intro rfl (And.intro hw0 ?_))) | (refine z0c f3 ?_) | (refine z0z ([2, 3, 4]) (ca) (by ((repeat' (first | (exact trivial) | (exact rfl) | (decide) | (refine And.intro ?_ ?_))); first | done | fail)) (by ((repeat' (first | (exact trivial) | (exact rfl) | (decide) | (refine And.intro ?_ ?_))); first | done | fail)) (by decide) (by rfl) (by first | exact .inl rfl | (refine .inr ⟨?_, ?_⟩ <;> simp [own2, own1, own0, ownE])) ?_) | (refine Exists.intro _ (And.intro ew.symm ?_)) | (refine stpQ ?_))
           refine hQ1 _ _ ?_
           clear hQ1 Q1
           repeat ((try conv => whnf); first | (with_reducible first | refine z08 (fun Qs hN hE hR => ?_) | refine z06 ?_ | refine z00 (fun Qb kN kE kX kR => ?_) | refine z02 ?_ | refine z03 ?_ | refine z07 ?_ | refine z04 ?_ | refine z05 ?_ | (show W _ _ _ (.cond _ _ _) _ _; refine z01 rfl ?_) | (refine hN _ ?_; try clear hN hE hR Qs) | ((first | refine hE _ _ ?_ | refine hR _ ?_); try clear hN hE hR Qs) | ((first | refine kN _ ?_ | refine kE _ ?_ | refine kX _ _ rfl ?_ | refine kR _ ?_); try clear kN kE kX kR Qb)) | (refine stpQ ?_))
           subst hZ
           (refine z09 (by rfl) ?_ ?_ (by rfl)) <;> (repeat' (first | (exact eqA) | (refine And.intro ?_ ?_) | ((fail_if_success (with_reducible (show _ = _))); (show _ = _)))) <;> first | rfl | decide
          ·have hZ := hay hA
           have hxx := z2D hx hA
           rw [he.2] at hZ hxx
           rw [hA] at ca
           clear hay han hbd hS hA hc ha he
           generalize evR (rawE p) = ee at *
           generalize pt p 0 = w at *
           repeat ((try conv => whnf); first | (with_reducible first | refine z08 (fun Qs hN hE hR => ?_) | refine z06 ?_ | refine z00 (fun Qb kN kE kX kR => ?_) | refine z02 ?_ | refine z03 ?_ | refine z07 ?_ | refine z04 ?_ | refine z05 ?_ | (show W _ _ _ (.cond _ _ _) _ _; refine z01 rfl ?_) | (refine hN _ ?_; try clear hN hE hR Qs) | ((first | refine hE _ _ ?_ | refine hR _ ?_); try clear hN hE hR Qs) | ((first | refine kN _ ?_ | refine kE _ ?_ | refine kX _ _ rfl ?_ | refine kR _ ?_); try clear kN kE kX kR Qb)) | (refine z0b f1 ?_) | (refine And.intro iL ?_) | (refine Exists.intro _ (And.intro gl ?_)) | (refine ccA ([]) (c1) ?_) | (refine z0c f2 ?_) | (refine And.intro i0 ?_) | (refine Exists.intro _ (And.intro g0 ?_)) | (refine Exists.intro 0 (And.intro rfl (And.intro hw0 ?_))) | (refine z0c f3 ?_) | (refine z0z ([2, 3, 4]) (ca) (by ((repeat' (first | (exact trivial) | (exact rfl) | (decide) | (refine And.intro ?_ ?_))); first | done | fail)) (by ((repeat' (first | (exact trivial) | (exact rfl) | (decide) | (refine And.intro ?_ ?_))); first | done | fail)) (by decide) (by rfl) (by first | exact .inl rfl | (refine .inr ⟨?_, ?_⟩ <;> simp [own2, own1, own0, ownE])) ?_) | (refine stpQ ?_))
           refine ⟨(i + 1, { x with ev := x.ev ++ [ee] }), inx hZ hxx, by show L.length - (i + 1) < L.length - i; omega, ?_⟩
           (refine z0a (by rfl) ?_ ?_) <;> (repeat' (first | (exact eqA) | (refine And.intro ?_ ?_) | ((fail_if_success (with_reducible (show _ = _))); (show _ = _)))) <;> rfl
   ·have hie : i = L.length := by omega
    subst hie
    rw [List.drop_length] at hZ
    have f1 : ¬ (L.length : Int) < ((strE L).length : Int) := by omega
    by_cases hn : x.n = 0
    ·have hZ := z8P hZ hn
     repeat ((try conv => whnf); first | (with_reducible first | refine z08 (fun Qs hN hE hR => ?_) | refine z06 ?_ | refine z00 (fun Qb kN kE kX kR => ?_) | refine z02 ?_ | refine z03 ?_ | refine z07 ?_ | refine z04 ?_ | refine z05 ?_ | (show W _ _ _ (.cond _ _ _) _ _; refine z01 rfl ?_) | (refine hN _ ?_; try clear hN hE hR Qs) | ((first | refine hE _ _ ?_ | refine hR _ ?_); try clear hN hE hR Qs) | ((first | refine kN _ ?_ | refine kE _ ?_ | refine kX _ _ rfl ?_ | refine kR _ ?_); try clear kN kE kX kR Qb)) | (refine z0c f1 ?_) | (refine z0b hn ?_) | (refine stpQ ?_))
     refine hQ1 _ _ ?_
     clear hQ1 Q1
     repeat ((try conv => whnf); first | (with_reducible first | refine z08 (fun Qs hN hE hR => ?_) | refine z06 ?_ | refine z00 (fun Qb kN kE kX kR => ?_) | refine z02 ?_ | refine z03 ?_ | refine z07 ?_ | refine z04 ?_ | refine z05 ?_ | (show W _ _ _ (.cond _ _ _) _ _; refine z01 rfl ?_) | (refine hN _ ?_; try clear hN hE hR Qs) | ((first | refine hE _ _ ?_ | refine hR _ ?_); try clear hN hE hR Qs) | ((first | refine kN _ ?_ | refine kE _ ?_ | refine kX _ _ rfl ?_ | refine kR _ ?_); try clear kN kE kX kR Qb)) | (refine stpQ ?_))
     subst hZ
     (refine z09 (by rfl) ?_ ?_ (by rfl)) <;> (repeat' (first | (exact eqA) | (refine And.intro ?_ ?_) | ((fail_if_success (with_reducible (show _ = _))); (show _ = _)))) <;> first | rfl | decide
    ·have hZ := z8Q hZ hn
     repeat ((try conv => whnf); first | (with_reducible first | refine z08 (fun Qs hN hE hR => ?_) | refine z06 ?_ | refine z00 (fun Qb kN kE kX kR => ?_) | refine z02 ?_ | refine z03 ?_ | refine z07 ?_ | refine z04 ?_ | refine z05 ?_ | (show W _ _ _ (.cond _ _ _) _ _; refine z01 rfl ?_) | (refine hN _ ?_; try clear hN hE hR Qs) | ((first | refine hE _ _ ?_ | refine hR _ ?_); try clear hN hE hR Qs) | ((first | refine kN _ ?_ | refine kE _ ?_ | refine kX _ _ rfl ?_ | refine kR _ ?_); try clear kN kE kX kR Qb)) | (refine z0c f1 ?_) | (refine z0c hn ?_) | (refine stpQ ?_))
     refine hQ1 _ _ ?_
     clear hQ1 Q1
     repeat ((try conv => whnf); first | (with_reducible first | refine z08 (fun Qs hN hE hR => ?_) | refine z06 ?_ | refine z00 (fun Qb kN kE kX kR => ?_) | refine z02 ?_ | refine z03 ?_ | refine z07 ?_ | refine z04 ?_ | refine z05 ?_ | (show W _ _ _ (.cond _ _ _) _ _; refine z01 rfl ?_) | (refine hN _ ?_; try clear hN hE hR Qs) | ((first | refine hE _ _ ?_ | refine hR _ ?_); try clear hN hE hR Qs) | ((first | refine kN _ ?_ | refine kE _ ?_ | refine kX _ _ rfl ?_ | refine kR _ ?_); try clear kN kE kX kR Qb)) | (refine stpQ ?_))
     subst hZ
     (refine z09 (by rfl) ?_ ?_ (by rfl)) <;> (repeat' (first | (exact eqA) | (refine And.intro ?_ ?_) | ((fail_if_success (with_reducible (show _ = _))); (show _ = _)))) <;> first | rfl | decide
 ·have hZ : (z1P, (-1 : Int)) = z0W s := by rw [z0W, if_neg hl]
  generalize z0W s = R at *
  refine z0d z0f 1 rfl Tryd.func7 rfl rfl rfl ?_
  conv => arg 6; whnf
  repeat ((try conv => whnf); first | (with_reducible first | refine z08 (fun Qs hN hE hR => ?_) | refine z06 ?_ | refine z00 (fun Qb kN kE kX kR => ?_) | refine z02 ?_ | refine z03 ?_ | refine z07 ?_ | refine z04 ?_ | refine z05 ?_ | (show W _ _ _ (.cond _ _ _) _ _; refine z01 rfl ?_) | (refine hN _ ?_; try clear hN hE hR Qs) | ((first | refine hE _ _ ?_ | refine hR _ ?_); try clear hN hE hR Qs) | ((first | refine kN _ ?_ | refine kE _ ?_ | refine kX _ _ rfl ?_ | refine kR _ ?_); try clear kN kE kX kR Qb)) | (refine stpQ ?_))
  subst hZ
  (refine z09 (by rfl) ?_ ?_ (by rfl)) <;> (repeat' (first | (exact eqA) | (refine And.intro ?_ ?_) | ((fail_if_success (with_reducible (show _ = _))); (show _ = _)))) <;> first | rfl | decide
end
end Go.Proofs.YtfgkjgfigjpkoaaDoor
