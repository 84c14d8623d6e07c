/- Functions by content: a complete proof of any content is verified alike by both sides. -/
import Derived.Test.YtgmbkbggnlponaaGreatDoorVfa
namespace Go.Proofs.YtgmbkbggnlponaaGreatDoor
set_option maxRecDepth 100000
set_option maxHeartbeats 8000000
set_option linter.unusedVariables false
set_option linter.unusedSimpArgs false
set_option linter.unusedSectionVars false
open Go.RowKit Pl
def cnN (p : Nat → Bool) : Nat → Nat
 | 0 => 0
 | n + 1 => cnN p n + (if p n = true then 1 else 0)
theorem zaE (p : Nat → Bool) : ∀ n, cnN p n ≤ n
 | 0 => Nat.le_refl _
 | n + 1 => by have := zaE p n; unfold cnN; split <;> omega
section
attribute [local irreducible] z0t z0u z0y AnsP LeP W CvE
theorem zaF (rs : List T) (R : List Bs) (K need : Nat) (house : Int) (nm : Bs) (ep0 : Int) (B : List Lf) (S T : List Bs) (ho ep : Int) (ro pr : Bs) (a : Int) (op sh si : List Bs) (st : List WsT) (hRn : R.length = 3) (hK : K ≤ 2) (hneed : need ≤ 2) (hho : ∃ n : Nat, n ≤ 2 ∧ house = n) (hst : WsOk st) (hB : (B.length : Int) ≤ 1000000000) (p : Nat → Bool)
 (hp : ∀ k, p k = (inB (wsAt st k).1 0 2 && (!decide ((wsAt st k).1 = house) && stA (pAt R (wsAt st k).1.toNat) ho ep ro pr (wsAt st k).2.1 (wsAt st k).2.2.1 (wsAt st k).2.2.2.1 (wsAt st k).2.2.2.2)))
 (hrs : (cnN p st.length < need ∧ rs = [.str [], .bool false, .int .i64 5]) ∨ (¬ cnN p st.length < need ∧ rs = [.str ((z0I B nm).getD []), .bool (z0I B nm).isSome, .int .i64 0])) (ld : Bs) (ix : Nat) (e1 : ho = house) (e2 : ep = ep0)
 (c1 : CT Tryz.prog 17 [] [.agg [.sl 1 (strE R), .int .i64 (K : Int), .int .i64 (need : Int)], .int .i64 house, .str nm, .agg [.sl 2 (lvE B), .sl 1 (strE S), .sl 1 (strE T), .int .i64 ho, .int .i64 ep, .str ro, .str pr, .int .i64 a, .sl 1 (strE op), .sl 1 (strE sh), .sl 1 (strE si), .sl 5 (wsE st)]] (.bool true) [])
 (c2 : ∀ root, CT Tryz.prog 18 [] [.str root, .agg [.int .i64 ho, .int .i64 ep, .str ro, .str pr, .int .i64 a, .sl 1 (strE op), .sl 1 (strE sh), .sl 1 (strE si)]] (.bool (slA root ho ep ro pr a op sh si)) [])
 (hsl : slA (pAt R house.toNat) ho ep ro pr a op sh si = true)
 (c3 : CT Tryz.prog 20 [] [.str nm, .agg [.sl 2 (lvE B), .sl 1 (strE S)], .int .i64 16] (.str ld) [])
 (c4 : CT Tryz.prog 21 [] [.str nm] (.int .i64 (ix : Int)) [])
 (c5 : CT Tryz.prog 19 [] [.str ld, .int .i64 (ix : Int), .int .i64 (K : Int), .sl 1 (strE T), .int .i64 16] (.str ro) []) :
 CT Tryz.prog 6 [] [.agg [.sl 1 (strE R), .int .i64 (K : Int), .int .i64 (need : Int)], .int .i64 house, .str nm, .int .i64 ep0, .agg [.sl 2 (lvE B), .sl 1 (strE S), .sl 1 (strE T), .int .i64 ho, .int .i64 ep, .str ro, .str pr, .int .i64 a, .sl 1 (strE op), .sl 1 (strE sh), .sl 1 (strE si), .sl 5 (wsE st)]] (.tup rs) [] := by
 obtain ⟨h, hh2, rfl⟩ := hho
 have hRl := (z0c R).trans hRn
 have gr := z0n (ps := R) (k := h) (by omega)
 have c2h := c2 (pAt R h)
 rw [show ((h : Nat) : Int).toNat = h from Int.toNat_natCast h] at hsl
 rw [hsl] at c2h
 have c6 := zbt B S nm hB
 have hlen := z9c st
 have hst10 := hst.len
 have ew : IntKind.i64.wrap (((3 : Nat) : Int) - 1) = 2 := by rw [wrap_i64 (by omega) (by omega)]; omega
 generalize (z0I B nm).getD [] = v at c6 hrs
 generalize (z0I B nm).isSome = has at c6 hrs
 clear c2 hsl
 generalize pAt R h = rh at gr c2h
 refine z01 z0d 1 rfl Tryz.func6 rfl rfl rfl ?_
 conv => arg 6; whnf
 repeat ((try conv => whnf); first | (with_reducible first | refine z0b (fun Qs hN hE hR => ?_) | refine z09 ?_ | refine z03 (fun Qb kN kE kX kR => ?_) | refine z05 ?_ | refine z06 ?_ | refine z0a ?_ | refine z07 ?_ | refine z08 ?_ | (show W _ _ _ (.cond _ _ _) _ _; refine z04 rfl ?_) | (refine hN _ ?_; try clear hN hE hR Qs; (try (conv => arg 6; dsimp only [ovl, List.set, List.map, ren0]))) | ((first | refine hE _ _ ?_ | refine hR _ ?_); try clear hN hE hR Qs) | ((first | refine kN _ ?_ | refine kE _ ?_ | refine kX _ _ rfl ?_ | refine kR _ ?_); try clear kN kE kX kR Qb)) | (refine ccA ([]) (c1) ?_) | (refine z1C e1 ?_) | (refine z1C e2 ?_) | (refine z0i e1 ?_) | (refine z0i e2 ?_) | (refine i_at gr ?_) | (refine ccA ([]) (c2h) ?_) | (refine ccA ([]) (c3) ?_) | (refine ccA ([]) (c4) ?_) | (refine ccA ([]) (c5) ?_) | (refine z1C rfl ?_) | (refine Exists.intro st.length (And.intro hlen ?_)) | (refine And.intro (by kernel_rfl) ?_) | (refine stpQ ?_))
 refine z0h 1 ⟨[(2, .str nm), (5, .ptr 1 0 0), (9, .ptr 2 0 0), (10, .str []), (11, .bool false), (12, .int .i64 0), (14, .int .i64 ((min (cnN p st.length) need : Nat) : Int))], [(1, some (.box [.sl 1 (strE R), .int .i64 (K : Int), .int .i64 (need : Int)])), (2, some (.box [.sl 2 (lvE B), .sl 1 (strE S), .sl 1 (strE T), .int .i64 ho, .int .i64 ep, .str ro, .str pr, .int .i64 a, .sl 1 (strE op), .sl 1 (strE sh), .sl 1 (strE si), .sl 5 (wsE st)]))], 3⟩ Nat (fun k => ⟨[(1, .int .i64 (h : Int)), (2, .str nm), (5, .ptr 1 0 0), (9, .ptr 2 0 0), (10, .str []), (11, .bool false), (12, .int .i64 0), (13, .ptr 3 0 0), (14, .int .i64 ((min (cnN p k) need : Nat) : Int)), (66, .sl 5 (wsE st)), (67, .int .i64 (st.length : Int)), (68, .int .i64 (k : Int))], [(1, some (.box [.sl 1 (strE R), .int .i64 (K : Int), .int .i64 (need : Int)])), (2, some (.box [.sl 2 (lvE B), .sl 1 (strE S), .sl 1 (strE T), .int .i64 ho, .int .i64 ep, .str ro, .str pr, .int .i64 a, .sl 1 (strE op), .sl 1 (strE sh), .sl 1 (strE si), .sl 5 (wsE st)])), (3, some (.box [.int .i64 ho, .int .i64 ep, .str ro, .str pr]))], 4⟩) (fun k => k ≤ st.length) (fun k => st.length - k) 0 (by omega) ?_ ?_ ?_
 ·(refine z02 (by rfl) ?_ ?_) <;> (repeat' (first | (exact eqA) | (refine And.intro ?_ ?_) | ((fail_if_success (with_reducible (show _ = _))); (show _ = _)))) <;> first | rfl | decide | (simp [cnN]; done)
 ·intro k hk
  have hkl := zaE p k
  by_cases hlt : k < st.length
  ·have hk2 : (k : Int) < (st.length : Int) := by omega
   have gs := z5w hlt
   have cb := c_in (wsAt st k).1 0 2
   obtain ⟨z1, z2, z3⟩ := hst.sz k
   have cw := fun root => zdP root ho ep ro pr (wsAt st k).2.1 (wsAt st k).2.2.1 (wsAt st k).2.2.2.1 (wsAt st k).2.2.2.2 (by omega) (by omega) (by omega)
   have hpk := hp k
   have hnx : cnN p (k + 1) = cnN p k + (if p k = true then 1 else 0) := rfl
   clear hp z1 z2 z3
   generalize wsAt st k = s0 at gs cb cw hpk
   obtain ⟨by0, a0, op0, sh0, si0⟩ := s0
   simp only at gs cb cw hpk
   cases hb : inB by0 0 2 with
   | false =>
     rw [hb] at cb hpk
     rw [Bool.false_and] at hpk
     rw [hpk, if_neg (by decide), Nat.add_zero] at hnx
     have hne0 : ¬ by0 = (h : Int) := fun e => by
      have q := z0r.2 (show (0 : Int) ≤ (h : Int) ∧ (h : Int) ≤ 2 by omega)
      rw [← e, hb] at q; cases q
     clear cw hpk
     repeat ((try conv => whnf); first | (with_reducible first | refine z0b (fun Qs hN hE hR => ?_) | refine z09 ?_ | refine z03 (fun Qb kN kE kX kR => ?_) | refine z05 ?_ | refine z06 ?_ | refine z0a ?_ | refine z07 ?_ | refine z08 ?_ | (show W _ _ _ (.cond _ _ _) _ _; refine z04 rfl ?_) | (refine hN _ ?_; try clear hN hE hR Qs; (try (conv => arg 6; dsimp only [ovl, List.set, List.map, ren0]))) | ((first | refine hE _ _ ?_ | refine hR _ ?_); try clear hN hE hR Qs) | ((first | refine kN _ ?_ | refine kE _ ?_ | refine kX _ _ rfl ?_ | refine kR _ ?_); try clear kN kE kX kR Qb)) | (refine Exists.intro st.length (And.intro hlen ?_)) | (refine z0i hk2 ?_) | (refine i_at gs ?_) | (refine Exists.intro 3 (And.intro hRl ?_)) | (refine Exists.intro _ (And.intro ew.symm ?_)) | (refine ccA ([]) (cb) ?_) | (refine z30 hne0 ?_) | (refine z0k hne0 ?_) | (refine And.intro (by kernel_rfl) ?_) | (refine stpQ ?_))
     refine ⟨k + 1, by omega, by omega, ?_⟩
     rw [hnx]
     (refine z02 (by rfl) ?_ ?_) <;> (repeat' (first | (exact eqA) | (refine And.intro ?_ ?_) | ((fail_if_success (with_reducible (show _ = _))); (show _ = _))))
   | true =>
     rw [hb] at cb hpk
     rw [Bool.true_and] at hpk
     obtain ⟨b, rfl⟩ : ∃ b : Nat, by0 = b := ⟨by0.toNat, by have := z0r.1 hb; omega⟩
     have hb2 : b ≤ 2 := by have := z0r.1 hb; omega
     have gb := z0n (ps := R) (k := b) (by omega)
     rw [show ((b : Nat) : Int).toNat = b from Int.toNat_natCast b] at hpk
     by_cases hne : (b : Int) = (h : Int)
     ·rw [decide_eq_true hne, Bool.not_true, Bool.false_and] at hpk
      rw [hpk, if_neg (by decide), Nat.add_zero] at hnx
      clear cw hpk hb
      repeat ((try conv => whnf); first | (with_reducible first | refine z0b (fun Qs hN hE hR => ?_) | refine z09 ?_ | refine z03 (fun Qb kN kE kX kR => ?_) | refine z05 ?_ | refine z06 ?_ | refine z0a ?_ | refine z07 ?_ | refine z08 ?_ | (show W _ _ _ (.cond _ _ _) _ _; refine z04 rfl ?_) | (refine hN _ ?_; try clear hN hE hR Qs; (try (conv => arg 6; dsimp only [ovl, List.set, List.map, ren0]))) | ((first | refine hE _ _ ?_ | refine hR _ ?_); try clear hN hE hR Qs) | ((first | refine kN _ ?_ | refine kE _ ?_ | refine kX _ _ rfl ?_ | refine kR _ ?_); try clear kN kE kX kR Qb)) | (refine Exists.intro st.length (And.intro hlen ?_)) | (refine z0i hk2 ?_) | (refine i_at gs ?_) | (refine Exists.intro 3 (And.intro hRl ?_)) | (refine Exists.intro _ (And.intro ew.symm ?_)) | (refine ccA ([]) (cb) ?_) | (refine z0i hne ?_) | (refine z1C hne ?_) | (refine And.intro (by kernel_rfl) ?_) | (refine stpQ ?_))
      refine ⟨k + 1, by omega, by omega, ?_⟩
      rw [hnx]
      (refine z02 (by rfl) ?_ ?_) <;> (repeat' (first | (exact eqA) | (refine And.intro ?_ ?_) | ((fail_if_success (with_reducible (show _ = _))); (show _ = _))))
     ·rw [decide_eq_false hne, Bool.not_false, Bool.true_and] at hpk
      have cw2 := cw (pAt R b)
      rw [← hpk] at cw2
      clear cw hpk hb
      generalize pAt R b = rb at gb cw2
      generalize p k = B0 at cw2 hnx
      by_cases hmn : cnN p k < need
      ·have hm : min (cnN p k) need = cnN p k := by omega
       have f3 : ((cnN p k : Nat) : Int) < (need : Int) := by omega
       cases B0 with
       | false =>
         rw [if_neg (by decide), Nat.add_zero] at hnx
         have hm2 : min (cnN p (k + 1)) need = cnN p k := by omega
         rw [hm]
         repeat ((try conv => whnf); first | (with_reducible first | refine z0b (fun Qs hN hE hR => ?_) | refine z09 ?_ | refine z03 (fun Qb kN kE kX kR => ?_) | refine z05 ?_ | refine z06 ?_ | refine z0a ?_ | refine z07 ?_ | refine z08 ?_ | (show W _ _ _ (.cond _ _ _) _ _; refine z04 rfl ?_) | (refine hN _ ?_; try clear hN hE hR Qs; (try (conv => arg 6; dsimp only [ovl, List.set, List.map, ren0]))) | ((first | refine hE _ _ ?_ | refine hR _ ?_); try clear hN hE hR Qs) | ((first | refine kN _ ?_ | refine kE _ ?_ | refine kX _ _ rfl ?_ | refine kR _ ?_); try clear kN kE kX kR Qb)) | (refine Exists.intro st.length (And.intro hlen ?_)) | (refine z0i hk2 ?_) | (refine i_at gs ?_) | (refine Exists.intro 3 (And.intro hRl ?_)) | (refine Exists.intro _ (And.intro ew.symm ?_)) | (refine ccA ([]) (cb) ?_) | (refine z0k hne ?_) | (refine z30 hne ?_) | (refine i_at gb ?_) | (refine ccA ([]) (cw2) ?_) | (refine z0i f3 ?_) | (refine And.intro (by kernel_rfl) ?_) | (refine stpQ ?_))
         refine ⟨k + 1, by omega, by omega, ?_⟩
         rw [hm2]
         (refine z02 (by rfl) ?_ ?_) <;> (repeat' (first | (exact eqA) | (refine And.intro ?_ ?_) | ((fail_if_success (with_reducible (show _ = _))); (show _ = _))))
       | true =>
         rw [if_pos rfl] at hnx
         have hm2 : min (cnN p (k + 1)) need = cnN p k + 1 := by omega
         rw [hm]
         repeat ((try conv => whnf); first | (with_reducible first | refine z0b (fun Qs hN hE hR => ?_) | refine z09 ?_ | refine z03 (fun Qb kN kE kX kR => ?_) | refine z05 ?_ | refine z06 ?_ | refine z0a ?_ | refine z07 ?_ | refine z08 ?_ | (show W _ _ _ (.cond _ _ _) _ _; refine z04 rfl ?_) | (refine hN _ ?_; try clear hN hE hR Qs; (try (conv => arg 6; dsimp only [ovl, List.set, List.map, ren0]))) | ((first | refine hE _ _ ?_ | refine hR _ ?_); try clear hN hE hR Qs) | ((first | refine kN _ ?_ | refine kE _ ?_ | refine kX _ _ rfl ?_ | refine kR _ ?_); try clear kN kE kX kR Qb)) | (refine Exists.intro st.length (And.intro hlen ?_)) | (refine z0i hk2 ?_) | (refine i_at gs ?_) | (refine Exists.intro 3 (And.intro hRl ?_)) | (refine Exists.intro _ (And.intro ew.symm ?_)) | (refine ccA ([]) (cb) ?_) | (refine z0k hne ?_) | (refine z30 hne ?_) | (refine i_at gb ?_) | (refine ccA ([]) (cw2) ?_) | (refine z0i f3 ?_) | (refine And.intro (by kernel_rfl) ?_) | (refine stpQ ?_))
         refine ⟨k + 1, by omega, by omega, ?_⟩
         rw [hm2]
         (refine z02 (by rfl) ?_ ?_) <;> (repeat' (first | (exact eqA) | (refine And.intro ?_ ?_) | ((fail_if_success (with_reducible (show _ = _))); (show _ = _))))
      ·have hm : min (cnN p k) need = need := by omega
       have hm2 : min (cnN p (k + 1)) need = need := by rw [hnx]; split <;> omega
       have f3 : ¬ (need : Int) < (need : Int) := by omega
       rw [hm]
       repeat ((try conv => whnf); first | (with_reducible first | refine z0b (fun Qs hN hE hR => ?_) | refine z09 ?_ | refine z03 (fun Qb kN kE kX kR => ?_) | refine z05 ?_ | refine z06 ?_ | refine z0a ?_ | refine z07 ?_ | refine z08 ?_ | (show W _ _ _ (.cond _ _ _) _ _; refine z04 rfl ?_) | (refine hN _ ?_; try clear hN hE hR Qs; (try (conv => arg 6; dsimp only [ovl, List.set, List.map, ren0]))) | ((first | refine hE _ _ ?_ | refine hR _ ?_); try clear hN hE hR Qs) | ((first | refine kN _ ?_ | refine kE _ ?_ | refine kX _ _ rfl ?_ | refine kR _ ?_); try clear kN kE kX kR Qb)) | (refine Exists.intro st.length (And.intro hlen ?_)) | (refine z0i hk2 ?_) | (refine i_at gs ?_) | (refine Exists.intro 3 (And.intro hRl ?_)) | (refine Exists.intro _ (And.intro ew.symm ?_)) | (refine ccA ([]) (cb) ?_) | (refine z0k hne ?_) | (refine z30 hne ?_) | (refine i_at gb ?_) | (refine ccA ([]) (cw2) ?_) | (refine z0k f3 ?_) | (refine And.intro (by kernel_rfl) ?_) | (refine stpQ ?_))
       refine ⟨k + 1, by omega, by omega, ?_⟩
       rw [hm2]
       (refine z02 (by rfl) ?_ ?_) <;> (repeat' (first | (exact eqA) | (refine And.intro ?_ ?_) | ((fail_if_success (with_reducible (show _ = _))); (show _ = _))))
  ·obtain rfl : k = st.length := by omega
   have hk2 : ¬ (st.length : Int) < (st.length : Int) := by omega
   repeat ((try conv => whnf); first | (with_reducible first | refine z0b (fun Qs hN hE hR => ?_) | refine z09 ?_ | refine z03 (fun Qb kN kE kX kR => ?_) | refine z05 ?_ | refine z06 ?_ | refine z0a ?_ | refine z07 ?_ | refine z08 ?_ | (show W _ _ _ (.cond _ _ _) _ _; refine z04 rfl ?_) | (refine hN _ ?_; try clear hN hE hR Qs; (try (conv => arg 6; dsimp only [ovl, List.set, List.map, ren0]))) | ((first | refine hE _ _ ?_ | refine hR _ ?_); try clear hN hE hR Qs) | ((first | refine kN _ ?_ | refine kE _ ?_ | refine kX _ _ rfl ?_ | refine kR _ ?_); try clear kN kE kX kR Qb)) | (refine Exists.intro st.length (And.intro hlen ?_)) | (refine z0k hk2 ?_) | (refine And.intro (by kernel_rfl) ?_) | (refine stpQ ?_))
   (refine z02 (by rfl) ?_ ?_) <;> (repeat' (first | (exact eqA) | (refine And.intro ?_ ?_) | ((fail_if_success (with_reducible (show _ = _))); (show _ = _))))
 ·have hkl := zaE p st.length
  rcases hrs with ⟨hc, hrs⟩ | ⟨hc, hrs⟩
  ·have hm : min (cnN p st.length) need = cnN p st.length := by omega
   have f3 : ((cnN p st.length : Nat) : Int) < (need : Int) := by omega
   rw [hm]
   repeat ((try conv => whnf); first | (with_reducible first | refine z0b (fun Qs hN hE hR => ?_) | refine z09 ?_ | refine z03 (fun Qb kN kE kX kR => ?_) | refine z05 ?_ | refine z06 ?_ | refine z0a ?_ | refine z07 ?_ | refine z08 ?_ | (show W _ _ _ (.cond _ _ _) _ _; refine z04 rfl ?_) | (refine hN _ ?_; try clear hN hE hR Qs; (try (conv => arg 6; dsimp only [ovl, List.set, List.map, ren0]))) | ((first | refine hE _ _ ?_ | refine hR _ ?_); try clear hN hE hR Qs) | ((first | refine kN _ ?_ | refine kE _ ?_ | refine kX _ _ rfl ?_ | refine kR _ ?_); try clear kN kE kX kR Qb)) | (refine ccA ([]) (c6) ?_) | (refine z0i f3 ?_) | (refine And.intro (by kernel_rfl) ?_) | (refine stpQ ?_))
   subst hrs
   (refine z00 (by rfl) ?_ ?_ (by rfl)) <;> (repeat' (first | (exact eqA) | (refine And.intro ?_ ?_) | ((fail_if_success (with_reducible (show _ = _))); (show _ = _)))) <;> rfl
  ·have hm : min (cnN p st.length) need = need := by omega
   have f3 : ¬ (need : Int) < (need : Int) := by omega
   rw [hm]
   repeat ((try conv => whnf); first | (with_reducible first | refine z0b (fun Qs hN hE hR => ?_) | refine z09 ?_ | refine z03 (fun Qb kN kE kX kR => ?_) | refine z05 ?_ | refine z06 ?_ | refine z0a ?_ | refine z07 ?_ | refine z08 ?_ | (show W _ _ _ (.cond _ _ _) _ _; refine z04 rfl ?_) | (refine hN _ ?_; try clear hN hE hR Qs; (try (conv => arg 6; dsimp only [ovl, List.set, List.map, ren0]))) | ((first | refine hE _ _ ?_ | refine hR _ ?_); try clear hN hE hR Qs) | ((first | refine kN _ ?_ | refine kE _ ?_ | refine kX _ _ rfl ?_ | refine kR _ ?_); try clear kN kE kX kR Qb)) | (refine ccA ([]) (c6) ?_) | (refine z0k f3 ?_) | (refine And.intro (by kernel_rfl) ?_) | (refine stpQ ?_))
   subst hrs
   (refine z00 (by rfl) ?_ ?_ (by rfl)) <;> (repeat' (first | (exact eqA) | (refine And.intro ?_ ?_) | ((fail_if_success (with_reducible (show _ = _))); (show _ = _)))) <;> rfl
theorem z8d (rs : List T) (R : List Bs) (K need : Nat) (house : Int) (nm : Bs) (ep0 : Int) (B : List Lf) (S T : List Bs) (ho ep : Int) (ro pr : Bs) (a : Int) (op sh si : List Bs) (st : List WsT) (hRn : R.length = 3) (hK : K ≤ 2) (hneed : need ≤ 2) (hho : ∃ n : Nat, n ≤ 2 ∧ house = n) (hst : WsOk st) (hB : (B.length : Int) ≤ 1000000000) (p : Nat → Bool)
 (hp : ∀ k, p k = (inB (wsAt st k).1 0 2 && (!decide ((wsAt st k).1 = house) && stA (pAt R (wsAt st k).1.toNat) ho ep ro pr (wsAt st k).2.1 (wsAt st k).2.2.1 (wsAt st k).2.2.2.1 (wsAt st k).2.2.2.2)))
 (hrs : (cnN p st.length < need ∧ rs = [.str [], .bool false, .int .i64 5]) ∨ (¬ cnN p st.length < need ∧ rs = [.str ((z0I B nm).getD []), .bool (z0I B nm).isSome, .int .i64 0])) (ld : Bs) (ix : Nat) (e1 : ho = house) (e2 : ep = ep0)
 (c1 : CT Tryz.prog 25 [] [.agg [.sl 1 (strE R), .int .i64 (K : Int), .int .i64 (need : Int)], .int .i64 house, .str nm, .agg [.sl 2 (lvE B), .sl 1 (strE S), .sl 1 (strE T), .int .i64 ho, .int .i64 ep, .str ro, .str pr, .int .i64 a, .sl 1 (strE op), .sl 1 (strE sh), .sl 1 (strE si), .sl 5 (wsE st)]] (.bool true) [])
 (c2 : ∀ root, CT Tryz.prog 26 [] [.str root, .agg [.int .i64 ho, .int .i64 ep, .str ro, .str pr, .int .i64 a, .sl 1 (strE op), .sl 1 (strE sh), .sl 1 (strE si)]] (.bool (slA root ho ep ro pr a op sh si)) [])
 (hsl : slA (pAt R house.toNat) ho ep ro pr a op sh si = true)
 (c3 : CT Tryz.prog 28 [] [.str nm, .agg [.sl 2 (lvE B), .sl 1 (strE S)], .int .i64 16] (.str ld) [])
 (c4 : CT Tryz.prog 29 [] [.str nm] (.int .i64 (ix : Int)) [])
 (c5 : CT Tryz.prog 27 [] [.str ld, .int .i64 (ix : Int), .int .i64 (K : Int), .sl 1 (strE T), .int .i64 16] (.str ro) []) :
 CT Tryz.prog 7 [] [.agg [.sl 1 (strE R), .int .i64 (K : Int), .int .i64 (need : Int)], .int .i64 house, .str nm, .int .i64 ep0, .agg [.sl 2 (lvE B), .sl 1 (strE S), .sl 1 (strE T), .int .i64 ho, .int .i64 ep, .str ro, .str pr, .int .i64 a, .sl 1 (strE op), .sl 1 (strE sh), .sl 1 (strE si), .sl 5 (wsE st)]] (.tup rs) [] := by
 obtain ⟨h, hh2, rfl⟩ := hho
 have hRl := (z0c R).trans hRn
 have gr := z0n (ps := R) (k := h) (by omega)
 have c2h := c2 (pAt R h)
 rw [show ((h : Nat) : Int).toNat = h from Int.toNat_natCast h] at hsl
 rw [hsl] at c2h
 have c6 := zap B S nm hB
 have hlen := z9c st
 have hst10 := hst.len
 have ew : IntKind.i64.wrap (((3 : Nat) : Int) - 1) = 2 := by rw [wrap_i64 (by omega) (by omega)]; omega
 generalize (z0I B nm).getD [] = v at c6 hrs
 generalize (z0I B nm).isSome = has at c6 hrs
 clear c2 hsl
 generalize pAt R h = rh at gr c2h
 refine z01 z0d 1 rfl Tryz.func7 rfl rfl rfl ?_
 conv => arg 6; whnf
 repeat ((try conv => whnf); first | (with_reducible first | refine z0b (fun Qs hN hE hR => ?_) | refine z09 ?_ | refine z03 (fun Qb kN kE kX kR => ?_) | refine z05 ?_ | refine z06 ?_ | refine z0a ?_ | refine z07 ?_ | refine z08 ?_ | (show W _ _ _ (.cond _ _ _) _ _; refine z04 rfl ?_) | (refine hN _ ?_; try clear hN hE hR Qs; (try (conv => arg 6; dsimp only [ovl, List.set, List.map, ren0]))) | ((first | refine hE _ _ ?_ | refine hR _ ?_); try clear hN hE hR Qs) | ((first | refine kN _ ?_ | refine kE _ ?_ | refine kX _ _ rfl ?_ | refine kR _ ?_); try clear kN kE kX kR Qb)) | (refine ccA ([]) (c1) ?_) | (refine z1C e1 ?_) | (refine z1C e2 ?_) | (refine z0i e1 ?_) | (refine z0i e2 ?_) | (refine i_at gr ?_) | (refine ccA ([]) (c2h) ?_) | (refine ccA ([]) (c3) ?_) | (refine ccA ([]) (c4) ?_) | (refine ccA ([]) (c5) ?_) | (refine z1C rfl ?_) | (refine Exists.intro st.length (And.intro hlen ?_)) | (refine And.intro (by kernel_rfl) ?_) | (refine stpQ ?_))
 refine z0h 0 ⟨[(2, .str nm), (5, .ptr 1 0 0), (9, .ptr 2 0 0), (15, .int .i64 ((cnN p st.length : Nat) : Int))], [(1, some (.box [.sl 1 (strE R), .int .i64 (K : Int), .int .i64 (need : Int)])), (2, some (.box [.sl 2 (lvE B), .sl 1 (strE S), .sl 1 (strE T), .int .i64 ho, .int .i64 ep, .str ro, .str pr, .int .i64 a, .sl 1 (strE op), .sl 1 (strE sh), .sl 1 (strE si), .sl 5 (wsE st)]))], 3⟩ Nat (fun k => ⟨[(1, .int .i64 (h : Int)), (2, .str nm), (5, .ptr 1 0 0), (9, .ptr 2 0 0), (13, .ptr 3 0 0), (15, .int .i64 ((cnN p k : Nat) : Int)), (16, .int .i64 (k : Int))], [(1, some (.box [.sl 1 (strE R), .int .i64 (K : Int), .int .i64 (need : Int)])), (2, some (.box [.sl 2 (lvE B), .sl 1 (strE S), .sl 1 (strE T), .int .i64 ho, .int .i64 ep, .str ro, .str pr, .int .i64 a, .sl 1 (strE op), .sl 1 (strE sh), .sl 1 (strE si), .sl 5 (wsE st)])), (3, some (.box [.int .i64 ho, .int .i64 ep, .str ro, .str pr]))], 4⟩) (fun k => k ≤ st.length) (fun k => st.length - k) 0 (by omega) ?_ ?_ ?_
 ·(refine z02 (by rfl) ?_ ?_) <;> (repeat' (first | (exact eqA) | (refine And.intro ?_ ?_) | ((fail_if_success (with_reducible (show _ = _))); (show _ = _)))) <;> first | rfl | decide | (simp [cnN]; done)
 ·intro k hk
  have hkl := zaE p k
  by_cases hlt : k < st.length
  ·have hk2 : (k : Int) < (st.length : Int) := by omega
   have gs := z5w hlt
   have cb := z10 (wsAt st k).1 0 2
   obtain ⟨z1, z2, z3⟩ := hst.sz k
   have cw := fun root => zbJ root ho ep ro pr (wsAt st k).2.1 (wsAt st k).2.2.1 (wsAt st k).2.2.2.1 (wsAt st k).2.2.2.2 (by omega) (by omega) (by omega)
   have hpk := hp k
   have hnx : cnN p (k + 1) = cnN p k + (if p k = true then 1 else 0) := rfl
   clear hp z1 z2 z3
   generalize wsAt st k = s0 at gs cb cw hpk
   obtain ⟨by0, a0, op0, sh0, si0⟩ := s0
   simp only at gs cb cw hpk
   cases hb : inB by0 0 2 with
   | false =>
     rw [hb] at cb hpk
     rw [Bool.false_and] at hpk
     rw [hpk, if_neg (by decide), Nat.add_zero] at hnx
     have hne0 : ¬ by0 = (h : Int) := fun e => by
      have q := z0r.2 (show (0 : Int) ≤ (h : Int) ∧ (h : Int) ≤ 2 by omega)
      rw [← e, hb] at q; cases q
     clear cw hpk
     repeat ((try conv => whnf); first | (with_reducible first | refine z0b (fun Qs hN hE hR => ?_) | refine z09 ?_ | refine z03 (fun Qb kN kE kX kR => ?_) | refine z05 ?_ | refine z06 ?_ | refine z0a ?_ | refine z07 ?_ | refine z08 ?_ | (show W _ _ _ (.cond _ _ _) _ _; refine z04 rfl ?_) | (refine hN _ ?_; try clear hN hE hR Qs; (try (conv => arg 6; dsimp only [ovl, List.set, List.map, ren0]))) | ((first | refine hE _ _ ?_ | refine hR _ ?_); try clear hN hE hR Qs) | ((first | refine kN _ ?_ | refine kE _ ?_ | refine kX _ _ rfl ?_ | refine kR _ ?_); try clear kN kE kX kR Qb)) | (refine Exists.intro st.length (And.intro hlen ?_)) | (refine z0i hk2 ?_) | (refine i_at gs ?_) | (refine Exists.intro 3 (And.intro hRl ?_)) | (refine Exists.intro _ (And.intro ew.symm ?_)) | (refine ccA ([]) (cb) ?_) | (refine z30 hne0 ?_) | (refine z0k hne0 ?_) | (refine And.intro (by kernel_rfl) ?_) | (refine stpQ ?_))
     refine ⟨k + 1, by omega, by omega, ?_⟩
     rw [hnx]
     (refine z02 (by rfl) ?_ ?_) <;> (repeat' (first | (exact eqA) | (refine And.intro ?_ ?_) | ((fail_if_success (with_reducible (show _ = _))); (show _ = _))))
   | true =>
     rw [hb] at cb hpk
     rw [Bool.true_and] at hpk
     obtain ⟨b, rfl⟩ : ∃ b : Nat, by0 = b := ⟨by0.toNat, by have := z0r.1 hb; omega⟩
     have hb2 : b ≤ 2 := by have := z0r.1 hb; omega
     have gb := z0n (ps := R) (k := b) (by omega)
     rw [show ((b : Nat) : Int).toNat = b from Int.toNat_natCast b] at hpk
     by_cases hne : (b : Int) = (h : Int)
     ·rw [decide_eq_true hne, Bool.not_true, Bool.false_and] at hpk
      rw [hpk, if_neg (by decide), Nat.add_zero] at hnx
      clear cw hpk hb
      repeat ((try conv => whnf); first | (with_reducible first | refine z0b (fun Qs hN hE hR => ?_) | refine z09 ?_ | refine z03 (fun Qb kN kE kX kR => ?_) | refine z05 ?_ | refine z06 ?_ | refine z0a ?_ | refine z07 ?_ | refine z08 ?_ | (show W _ _ _ (.cond _ _ _) _ _; refine z04 rfl ?_) | (refine hN _ ?_; try clear hN hE hR Qs; (try (conv => arg 6; dsimp only [ovl, List.set, List.map, ren0]))) | ((first | refine hE _ _ ?_ | refine hR _ ?_); try clear hN hE hR Qs) | ((first | refine kN _ ?_ | refine kE _ ?_ | refine kX _ _ rfl ?_ | refine kR _ ?_); try clear kN kE kX kR Qb)) | (refine Exists.intro st.length (And.intro hlen ?_)) | (refine z0i hk2 ?_) | (refine i_at gs ?_) | (refine Exists.intro 3 (And.intro hRl ?_)) | (refine Exists.intro _ (And.intro ew.symm ?_)) | (refine ccA ([]) (cb) ?_) | (refine z0i hne ?_) | (refine z1C hne ?_) | (refine And.intro (by kernel_rfl) ?_) | (refine stpQ ?_))
      refine ⟨k + 1, by omega, by omega, ?_⟩
      rw [hnx]
      (refine z02 (by rfl) ?_ ?_) <;> (repeat' (first | (exact eqA) | (refine And.intro ?_ ?_) | ((fail_if_success (with_reducible (show _ = _))); (show _ = _))))
     ·rw [decide_eq_false hne, Bool.not_false, Bool.true_and] at hpk
      have cw2 := cw (pAt R b)
      rw [← hpk] at cw2
      clear cw hpk hb
      generalize pAt R b = rb at gb cw2
      generalize p k = B0 at cw2 hnx
      cases B0 with
      | false =>
        rw [if_neg (by decide), Nat.add_zero] at hnx
        repeat ((try conv => whnf); first | (with_reducible first | refine z0b (fun Qs hN hE hR => ?_) | refine z09 ?_ | refine z03 (fun Qb kN kE kX kR => ?_) | refine z05 ?_ | refine z06 ?_ | refine z0a ?_ | refine z07 ?_ | refine z08 ?_ | (show W _ _ _ (.cond _ _ _) _ _; refine z04 rfl ?_) | (refine hN _ ?_; try clear hN hE hR Qs; (try (conv => arg 6; dsimp only [ovl, List.set, List.map, ren0]))) | ((first | refine hE _ _ ?_ | refine hR _ ?_); try clear hN hE hR Qs) | ((first | refine kN _ ?_ | refine kE _ ?_ | refine kX _ _ rfl ?_ | refine kR _ ?_); try clear kN kE kX kR Qb)) | (refine Exists.intro st.length (And.intro hlen ?_)) | (refine z0i hk2 ?_) | (refine i_at gs ?_) | (refine Exists.intro 3 (And.intro hRl ?_)) | (refine Exists.intro _ (And.intro ew.symm ?_)) | (refine ccA ([]) (cb) ?_) | (refine z0k hne ?_) | (refine z30 hne ?_) | (refine i_at gb ?_) | (refine ccA ([]) (cw2) ?_) | (refine And.intro (by kernel_rfl) ?_) | (refine stpQ ?_))
        refine ⟨k + 1, by omega, by omega, ?_⟩
        rw [hnx]
        (refine z02 (by rfl) ?_ ?_) <;> (repeat' (first | (exact eqA) | (refine And.intro ?_ ?_) | ((fail_if_success (with_reducible (show _ = _))); (show _ = _))))
      | true =>
        rw [if_pos rfl] at hnx
        repeat ((try conv => whnf); first | (with_reducible first | refine z0b (fun Qs hN hE hR => ?_) | refine z09 ?_ | refine z03 (fun Qb kN kE kX kR => ?_) | refine z05 ?_ | refine z06 ?_ | refine z0a ?_ | refine z07 ?_ | refine z08 ?_ | (show W _ _ _ (.cond _ _ _) _ _; refine z04 rfl ?_) | (refine hN _ ?_; try clear hN hE hR Qs; (try (conv => arg 6; dsimp only [ovl, List.set, List.map, ren0]))) | ((first | refine hE _ _ ?_ | refine hR _ ?_); try clear hN hE hR Qs) | ((first | refine kN _ ?_ | refine kE _ ?_ | refine kX _ _ rfl ?_ | refine kR _ ?_); try clear kN kE kX kR Qb)) | (refine Exists.intro st.length (And.intro hlen ?_)) | (refine z0i hk2 ?_) | (refine i_at gs ?_) | (refine Exists.intro 3 (And.intro hRl ?_)) | (refine Exists.intro _ (And.intro ew.symm ?_)) | (refine ccA ([]) (cb) ?_) | (refine z0k hne ?_) | (refine z30 hne ?_) | (refine i_at gb ?_) | (refine ccA ([]) (cw2) ?_) | (refine And.intro (by kernel_rfl) ?_) | (refine stpQ ?_))
        refine ⟨k + 1, by omega, by omega, ?_⟩
        rw [hnx]
        (refine z02 (by rfl) ?_ ?_) <;> (repeat' (first | (exact eqA) | (refine And.intro ?_ ?_) | ((fail_if_success (with_reducible (show _ = _))); (show _ = _))))
  ·obtain rfl : k = st.length := by omega
   have hk2 : ¬ (st.length : Int) < (st.length : Int) := by omega
   repeat ((try conv => whnf); first | (with_reducible first | refine z0b (fun Qs hN hE hR => ?_) | refine z09 ?_ | refine z03 (fun Qb kN kE kX kR => ?_) | refine z05 ?_ | refine z06 ?_ | refine z0a ?_ | refine z07 ?_ | refine z08 ?_ | (show W _ _ _ (.cond _ _ _) _ _; refine z04 rfl ?_) | (refine hN _ ?_; try clear hN hE hR Qs; (try (conv => arg 6; dsimp only [ovl, List.set, List.map, ren0]))) | ((first | refine hE _ _ ?_ | refine hR _ ?_); try clear hN hE hR Qs) | ((first | refine kN _ ?_ | refine kE _ ?_ | refine kX _ _ rfl ?_ | refine kR _ ?_); try clear kN kE kX kR Qb)) | (refine Exists.intro st.length (And.intro hlen ?_)) | (refine z0k hk2 ?_) | (refine And.intro (by kernel_rfl) ?_) | (refine stpQ ?_))
   (refine z02 (by rfl) ?_ ?_) <;> (repeat' (first | (exact eqA) | (refine And.intro ?_ ?_) | ((fail_if_success (with_reducible (show _ = _))); (show _ = _))))
 ·have hkl := zaE p st.length
  rcases hrs with ⟨hc, hrs⟩ | ⟨hc, hrs⟩
  ·have f3 : ((cnN p st.length : Nat) : Int) < (need : Int) := by omega
   repeat ((try conv => whnf); first | (with_reducible first | refine z0b (fun Qs hN hE hR => ?_) | refine z09 ?_ | refine z03 (fun Qb kN kE kX kR => ?_) | refine z05 ?_ | refine z06 ?_ | refine z0a ?_ | refine z07 ?_ | refine z08 ?_ | (show W _ _ _ (.cond _ _ _) _ _; refine z04 rfl ?_) | (refine hN _ ?_; try clear hN hE hR Qs; (try (conv => arg 6; dsimp only [ovl, List.set, List.map, ren0]))) | ((first | refine hE _ _ ?_ | refine hR _ ?_); try clear hN hE hR Qs) | ((first | refine kN _ ?_ | refine kE _ ?_ | refine kX _ _ rfl ?_ | refine kR _ ?_); try clear kN kE kX kR Qb)) | (refine ccA ([]) (c6) ?_) | (refine z0i f3 ?_) | (refine And.intro (by kernel_rfl) ?_) | (refine stpQ ?_))
   subst hrs
   (refine z00 (by rfl) ?_ ?_ (by rfl)) <;> (repeat' (first | (exact eqA) | (refine And.intro ?_ ?_) | ((fail_if_success (with_reducible (show _ = _))); (show _ = _)))) <;> rfl
  ·have f3 : ¬ ((cnN p st.length : Nat) : Int) < (need : Int) := by omega
   repeat ((try conv => whnf); first | (with_reducible first | refine z0b (fun Qs hN hE hR => ?_) | refine z09 ?_ | refine z03 (fun Qb kN kE kX kR => ?_) | refine z05 ?_ | refine z06 ?_ | refine z0a ?_ | refine z07 ?_ | refine z08 ?_ | (show W _ _ _ (.cond _ _ _) _ _; refine z04 rfl ?_) | (refine hN _ ?_; try clear hN hE hR Qs; (try (conv => arg 6; dsimp only [ovl, List.set, List.map, ren0]))) | ((first | refine hE _ _ ?_ | refine hR _ ?_); try clear hN hE hR Qs) | ((first | refine kN _ ?_ | refine kE _ ?_ | refine kX _ _ rfl ?_ | refine kR _ ?_); try clear kN kE kX kR Qb)) | (refine ccA ([]) (c6) ?_) | (refine z0k f3 ?_) | (refine And.intro (by kernel_rfl) ?_) | (refine stpQ ?_))
   subst hrs
   (refine z00 (by rfl) ?_ ?_ (by rfl)) <;> (repeat' (first | (exact eqA) | (refine And.intro ?_ ?_) | ((fail_if_success (with_reducible (show _ = _))); (show _ = _)))) <;> rfl
theorem wl_all {T : List Bs} (h : (T.all fun x => decide ((x.length : Int) = 16)) = true) : ∀ x ∈ T, x.length = 16 := fun x hx => by
 have q := of_decide_eq_true (List.all_eq_true.1 h x hx)
 omega
theorem zaG (R : List Bs) (K need house : Int) (nm : Bs) (ep0 : Int) (x : Wa) (hRn : R.length = 3) (hK : -5 ≤ K ∧ K ≤ 5) (g : WaOk nm x) : ∃ (v : Bs) (has : Bool) (no : Int), (no = 0 ∨ (v = [] ∧ has = false)) ∧
 CT Tryz.prog 6 [] [.agg [.sl 1 (strE R), .int .i64 K, .int .i64 need], .int .i64 house, .str nm, .int .i64 ep0, .agg (waE x)] (.tup [.str v, .bool has, .int .i64 no]) [] ∧
 CT Tryz.prog 7 [] [.agg [.sl 1 (strE R), .int .i64 K, .int .i64 need], .int .i64 house, .str nm, .int .i64 ep0, .agg (waE x)] (.tup [.str v, .bool has, .int .i64 no]) [] := by
 have c1 := zaD R K need house nm x hRn hK g
 have d1 := zdR R K need house nm x hRn hK g
 have gs := g.sz
 by_cases hF : FmP R K need house nm x
 rotate_left
 ·rw [@decide_eq_false _ (Classical.propDecidable _) hF] at c1 d1
  clear hF gs g
  unfold waE at *
  refine ⟨[], false, 1, .inr ⟨rfl, rfl⟩, ?_, ?_⟩
  ·refine z01 z0d 1 rfl Tryz.func6 rfl rfl rfl ?_
   repeat ((try conv => whnf); first | (with_reducible first | refine z0b (fun Qs hN hE hR => ?_) | refine z09 ?_ | refine z03 (fun Qb kN kE kX kR => ?_) | refine z05 ?_ | refine z06 ?_ | refine z0a ?_ | refine z07 ?_ | refine z08 ?_ | (show W _ _ _ (.cond _ _ _) _ _; refine z04 rfl ?_) | (refine hN _ ?_; try clear hN hE hR Qs; (try (conv => arg 6; dsimp only [ovl, List.set, List.map, ren0]))) | ((first | refine hE _ _ ?_ | refine hR _ ?_); try clear hN hE hR Qs) | ((first | refine kN _ ?_ | refine kE _ ?_ | refine kX _ _ rfl ?_ | refine kR _ ?_); try clear kN kE kX kR Qb)) | (refine ccA ([]) (c1) ?_) | (refine And.intro (by kernel_rfl) ?_) | (refine stpQ ?_))
   (refine z00 (by rfl) ?_ ?_ (by rfl)) <;> (repeat' (first | (exact eqA) | (refine And.intro ?_ ?_) | ((fail_if_success (with_reducible (show _ = _))); (show _ = _)))) <;> rfl
  ·refine z01 z0d 1 rfl Tryz.func7 rfl rfl rfl ?_
   repeat ((try conv => whnf); first | (with_reducible first | refine z0b (fun Qs hN hE hR => ?_) | refine z09 ?_ | refine z03 (fun Qb kN kE kX kR => ?_) | refine z05 ?_ | refine z06 ?_ | refine z0a ?_ | refine z07 ?_ | refine z08 ?_ | (show W _ _ _ (.cond _ _ _) _ _; refine z04 rfl ?_) | (refine hN _ ?_; try clear hN hE hR Qs; (try (conv => arg 6; dsimp only [ovl, List.set, List.map, ren0]))) | ((first | refine hE _ _ ?_ | refine hR _ ?_); try clear hN hE hR Qs) | ((first | refine kN _ ?_ | refine kE _ ?_ | refine kX _ _ rfl ?_ | refine kR _ ?_); try clear kN kE kX kR Qb)) | (refine ccA ([]) (d1) ?_) | (refine And.intro (by kernel_rfl) ?_) | (refine stpQ ?_))
   (refine z00 (by rfl) ?_ ?_ (by rfl)) <;> (repeat' (first | (exact eqA) | (refine And.intro ?_ ?_) | ((fail_if_success (with_reducible (show _ = _))); (show _ = _)))) <;> rfl
 rw [@decide_eq_true _ (Classical.propDecidable _) hF] at c1 d1
 obtain ⟨f1, f2, f3, f4, ⟨f5, f6⟩, f7⟩ := hF
 clear f7
 have f1' := f1
 unfold trB at f1'
 simp only [Bool.and_eq_true] at f1'
 obtain ⟨k1, k2, k3, k4⟩ := f1'
 have k3 := z0r.1 k3
 have k4 := z0r.1 k4
 have f2 := z0r.1 f2
 obtain ⟨K, rfl⟩ : ∃ n : Nat, K = n := ⟨K.toNat, by omega⟩
 obtain ⟨need, rfl⟩ : ∃ n : Nat, need = n := ⟨need.toNat, by omega⟩
 obtain ⟨h, rfl⟩ : ∃ n : Nat, house = n := ⟨house.toNat, by omega⟩
 have gr := z0n (ps := R) (k := h) (by omega)
 have c2 := fun root => zfu root x.ho x.ep x.ro x.pr x.a x.op x.sh x.si (by have := g.op; omega) (by have := g.sh; omega) (by have := g.si; omega)
 have d2 := fun root => zdQ root x.ho x.ep x.ro x.pr x.a x.op x.sh x.si (by have := g.op; omega) (by have := g.sh; omega) (by have := g.si; omega)
 have c3 := zi1 nm x.B x.S 16 gs
 have d3 := zgC nm x.B x.S 16 gs
 have eH : zbA nm x.B x.S 16 = z5N nm x.B x.S 16 := by unfold zbA; rw [if_pos f3]; rfl
 rw [eH] at c3 d3
 have c4 := z4U nm (by have := gs.nm; omega)
 have d4 := z25 nm (by have := gs.nm; omega)
 have hle := zgw nm x.B x.S
 have hw := wl_all f5
 have c5 := zgy (z5N nm x.B x.S 16) (ixB nm) K x.T (z6J nm) (by omega) (by omega) (by omega) (fun y hy => by have := hw y hy; omega)
 have d5 := zfv (z5N nm x.B x.S 16) (ixB nm) K x.T (z6J nm) (by omega) (by omega) (by omega) hw
 have hB : (x.B.length : Int) ≤ 1000000000 := by have := gs.len; omega
 have hstk := g.st
 clear eH hle hw f1 f3 f5 f6 k1 k2 gs g
 obtain ⟨B, S, T, ho, ep, ro, pr, a, op, sh, si, st⟩ := x
 unfold waE at *
 simp only at *
 generalize (z0Y (ixB nm) 16 (8 - K) (z5N nm B S 16) T).2 = fr at c5 d5
 generalize z5N nm B S 16 = ld at c3 c5 d3 d5
 have hixl := z6J nm
 generalize ixB nm = ix at c4 c5 d4 d5
 by_cases e1 : ho = (h : Int)
 rotate_left
 ·refine ⟨[], false, 2, .inr ⟨rfl, rfl⟩, ?_, ?_⟩
  ·refine z01 z0d 1 rfl Tryz.func6 rfl rfl rfl ?_
   repeat ((try conv => whnf); first | (with_reducible first | refine z0b (fun Qs hN hE hR => ?_) | refine z09 ?_ | refine z03 (fun Qb kN kE kX kR => ?_) | refine z05 ?_ | refine z06 ?_ | refine z0a ?_ | refine z07 ?_ | refine z08 ?_ | (show W _ _ _ (.cond _ _ _) _ _; refine z04 rfl ?_) | (refine hN _ ?_; try clear hN hE hR Qs; (try (conv => arg 6; dsimp only [ovl, List.set, List.map, ren0]))) | ((first | refine hE _ _ ?_ | refine hR _ ?_); try clear hN hE hR Qs) | ((first | refine kN _ ?_ | refine kE _ ?_ | refine kX _ _ rfl ?_ | refine kR _ ?_); try clear kN kE kX kR Qb)) | (refine ccA ([]) (c1) ?_) | (refine z30 e1 ?_) | (refine z0k e1 ?_) | (refine And.intro (by kernel_rfl) ?_) | (refine stpQ ?_))
   (refine z00 (by rfl) ?_ ?_ (by rfl)) <;> (repeat' (first | (exact eqA) | (refine And.intro ?_ ?_) | ((fail_if_success (with_reducible (show _ = _))); (show _ = _)))) <;> rfl
  ·refine z01 z0d 1 rfl Tryz.func7 rfl rfl rfl ?_
   repeat ((try conv => whnf); first | (with_reducible first | refine z0b (fun Qs hN hE hR => ?_) | refine z09 ?_ | refine z03 (fun Qb kN kE kX kR => ?_) | refine z05 ?_ | refine z06 ?_ | refine z0a ?_ | refine z07 ?_ | refine z08 ?_ | (show W _ _ _ (.cond _ _ _) _ _; refine z04 rfl ?_) | (refine hN _ ?_; try clear hN hE hR Qs; (try (conv => arg 6; dsimp only [ovl, List.set, List.map, ren0]))) | ((first | refine hE _ _ ?_ | refine hR _ ?_); try clear hN hE hR Qs) | ((first | refine kN _ ?_ | refine kE _ ?_ | refine kX _ _ rfl ?_ | refine kR _ ?_); try clear kN kE kX kR Qb)) | (refine ccA ([]) (d1) ?_) | (refine z30 e1 ?_) | (refine z0k e1 ?_) | (refine And.intro (by kernel_rfl) ?_) | (refine stpQ ?_))
   (refine z00 (by rfl) ?_ ?_ (by rfl)) <;> (repeat' (first | (exact eqA) | (refine And.intro ?_ ?_) | ((fail_if_success (with_reducible (show _ = _))); (show _ = _)))) <;> rfl
 by_cases e2 : ep = ep0
 rotate_left
 ·refine ⟨[], false, 2, .inr ⟨rfl, rfl⟩, ?_, ?_⟩
  ·refine z01 z0d 1 rfl Tryz.func6 rfl rfl rfl ?_
   repeat ((try conv => whnf); first | (with_reducible first | refine z0b (fun Qs hN hE hR => ?_) | refine z09 ?_ | refine z03 (fun Qb kN kE kX kR => ?_) | refine z05 ?_ | refine z06 ?_ | refine z0a ?_ | refine z07 ?_ | refine z08 ?_ | (show W _ _ _ (.cond _ _ _) _ _; refine z04 rfl ?_) | (refine hN _ ?_; try clear hN hE hR Qs; (try (conv => arg 6; dsimp only [ovl, List.set, List.map, ren0]))) | ((first | refine hE _ _ ?_ | refine hR _ ?_); try clear hN hE hR Qs) | ((first | refine kN _ ?_ | refine kE _ ?_ | refine kX _ _ rfl ?_ | refine kR _ ?_); try clear kN kE kX kR Qb)) | (refine ccA ([]) (c1) ?_) | (refine z1C e1 ?_) | (refine z0i e1 ?_) | (refine z30 e2 ?_) | (refine z0k e2 ?_) | (refine And.intro (by kernel_rfl) ?_) | (refine stpQ ?_))
   (refine z00 (by rfl) ?_ ?_ (by rfl)) <;> (repeat' (first | (exact eqA) | (refine And.intro ?_ ?_) | ((fail_if_success (with_reducible (show _ = _))); (show _ = _)))) <;> rfl
  ·refine z01 z0d 1 rfl Tryz.func7 rfl rfl rfl ?_
   repeat ((try conv => whnf); first | (with_reducible first | refine z0b (fun Qs hN hE hR => ?_) | refine z09 ?_ | refine z03 (fun Qb kN kE kX kR => ?_) | refine z05 ?_ | refine z06 ?_ | refine z0a ?_ | refine z07 ?_ | refine z08 ?_ | (show W _ _ _ (.cond _ _ _) _ _; refine z04 rfl ?_) | (refine hN _ ?_; try clear hN hE hR Qs; (try (conv => arg 6; dsimp only [ovl, List.set, List.map, ren0]))) | ((first | refine hE _ _ ?_ | refine hR _ ?_); try clear hN hE hR Qs) | ((first | refine kN _ ?_ | refine kE _ ?_ | refine kX _ _ rfl ?_ | refine kR _ ?_); try clear kN kE kX kR Qb)) | (refine ccA ([]) (d1) ?_) | (refine z1C e1 ?_) | (refine z0i e1 ?_) | (refine z30 e2 ?_) | (refine z0k e2 ?_) | (refine And.intro (by kernel_rfl) ?_) | (refine stpQ ?_))
   (refine z00 (by rfl) ?_ ?_ (by rfl)) <;> (repeat' (first | (exact eqA) | (refine And.intro ?_ ?_) | ((fail_if_success (with_reducible (show _ = _))); (show _ = _)))) <;> rfl
 cases hsl : slA (pAt R h) ho ep ro pr a op sh si with
 | false =>
   have c2h := c2 (pAt R h)
   have d2h := d2 (pAt R h)
   rw [hsl] at c2h d2h
   clear hsl c2 d2
   generalize pAt R h = rh at gr c2h d2h
   refine ⟨[], false, 3, .inr ⟨rfl, rfl⟩, ?_, ?_⟩
   ·refine z01 z0d 1 rfl Tryz.func6 rfl rfl rfl ?_
    repeat ((try conv => whnf); first | (with_reducible first | refine z0b (fun Qs hN hE hR => ?_) | refine z09 ?_ | refine z03 (fun Qb kN kE kX kR => ?_) | refine z05 ?_ | refine z06 ?_ | refine z0a ?_ | refine z07 ?_ | refine z08 ?_ | (show W _ _ _ (.cond _ _ _) _ _; refine z04 rfl ?_) | (refine hN _ ?_; try clear hN hE hR Qs; (try (conv => arg 6; dsimp only [ovl, List.set, List.map, ren0]))) | ((first | refine hE _ _ ?_ | refine hR _ ?_); try clear hN hE hR Qs) | ((first | refine kN _ ?_ | refine kE _ ?_ | refine kX _ _ rfl ?_ | refine kR _ ?_); try clear kN kE kX kR Qb)) | (refine ccA ([]) (c1) ?_) | (refine z1C e1 ?_) | (refine z0i e1 ?_) | (refine z1C e2 ?_) | (refine z0i e2 ?_) | (refine i_at gr ?_) | (refine ccA ([]) (c2h) ?_) | (refine ccA ([]) (c3) ?_) | (refine ccA ([]) (c4) ?_) | (refine ccA ([]) (c5) ?_) | (refine And.intro (by kernel_rfl) ?_) | (refine stpQ ?_))
    (refine z00 (by rfl) ?_ ?_ (by rfl)) <;> (repeat' (first | (exact eqA) | (refine And.intro ?_ ?_) | ((fail_if_success (with_reducible (show _ = _))); (show _ = _)))) <;> rfl
   ·refine z01 z0d 1 rfl Tryz.func7 rfl rfl rfl ?_
    repeat ((try conv => whnf); first | (with_reducible first | refine z0b (fun Qs hN hE hR => ?_) | refine z09 ?_ | refine z03 (fun Qb kN kE kX kR => ?_) | refine z05 ?_ | refine z06 ?_ | refine z0a ?_ | refine z07 ?_ | refine z08 ?_ | (show W _ _ _ (.cond _ _ _) _ _; refine z04 rfl ?_) | (refine hN _ ?_; try clear hN hE hR Qs; (try (conv => arg 6; dsimp only [ovl, List.set, List.map, ren0]))) | ((first | refine hE _ _ ?_ | refine hR _ ?_); try clear hN hE hR Qs) | ((first | refine kN _ ?_ | refine kE _ ?_ | refine kX _ _ rfl ?_ | refine kR _ ?_); try clear kN kE kX kR Qb)) | (refine ccA ([]) (d1) ?_) | (refine z1C e1 ?_) | (refine z0i e1 ?_) | (refine z1C e2 ?_) | (refine z0i e2 ?_) | (refine i_at gr ?_) | (refine ccA ([]) (d2h) ?_) | (refine ccA ([]) (d3) ?_) | (refine ccA ([]) (d4) ?_) | (refine ccA ([]) (d5) ?_) | (refine And.intro (by kernel_rfl) ?_) | (refine stpQ ?_))
    (refine z00 (by rfl) ?_ ?_ (by rfl)) <;> (repeat' (first | (exact eqA) | (refine And.intro ?_ ?_) | ((fail_if_success (with_reducible (show _ = _))); (show _ = _)))) <;> rfl
 | true =>
   by_cases e3 : fr = ro
   ·subst e3
    by_cases hc : cnN (fun k => inB (wsAt st k).1 0 2 && (!decide ((wsAt st k).1 = (h : Int)) && stA (pAt R (wsAt st k).1.toNat) ho ep fr pr (wsAt st k).2.1 (wsAt st k).2.2.1 (wsAt st k).2.2.2.1 (wsAt st k).2.2.2.2)) st.length < need
    ·exact ⟨[], false, 5, .inr ⟨rfl, rfl⟩, zaF _ R K need (h : Int) nm ep0 B S T ho ep fr pr a op sh si st hRn (by omega) (by omega) ⟨h, by omega, rfl⟩ hstk hB _ (fun k => rfl) (.inl ⟨hc, rfl⟩) ld ix e1 e2 c1 c2 hsl c3 c4 c5, z8d _ R K need (h : Int) nm ep0 B S T ho ep fr pr a op sh si st hRn (by omega) (by omega) ⟨h, by omega, rfl⟩ hstk hB _ (fun k => rfl) (.inl ⟨hc, rfl⟩) ld ix e1 e2 d1 d2 hsl d3 d4 d5⟩
    ·exact ⟨(z0I B nm).getD [], (z0I B nm).isSome, 0, .inl rfl, zaF _ R K need (h : Int) nm ep0 B S T ho ep fr pr a op sh si st hRn (by omega) (by omega) ⟨h, by omega, rfl⟩ hstk hB _ (fun k => rfl) (.inr ⟨hc, rfl⟩) ld ix e1 e2 c1 c2 hsl c3 c4 c5, z8d _ R K need (h : Int) nm ep0 B S T ho ep fr pr a op sh si st hRn (by omega) (by omega) ⟨h, by omega, rfl⟩ hstk hB _ (fun k => rfl) (.inr ⟨hc, rfl⟩) ld ix e1 e2 d1 d2 hsl d3 d4 d5⟩
   ·have c2h := c2 (pAt R h)
    have d2h := d2 (pAt R h)
    rw [hsl] at c2h d2h
    clear hsl c2 d2
    generalize pAt R h = rh at gr c2h d2h
    refine ⟨[], false, 4, .inr ⟨rfl, rfl⟩, ?_, ?_⟩
    ·refine z01 z0d 1 rfl Tryz.func6 rfl rfl rfl ?_
     repeat ((try conv => whnf); first | (with_reducible first | refine z0b (fun Qs hN hE hR => ?_) | refine z09 ?_ | refine z03 (fun Qb kN kE kX kR => ?_) | refine z05 ?_ | refine z06 ?_ | refine z0a ?_ | refine z07 ?_ | refine z08 ?_ | (show W _ _ _ (.cond _ _ _) _ _; refine z04 rfl ?_) | (refine hN _ ?_; try clear hN hE hR Qs; (try (conv => arg 6; dsimp only [ovl, List.set, List.map, ren0]))) | ((first | refine hE _ _ ?_ | refine hR _ ?_); try clear hN hE hR Qs) | ((first | refine kN _ ?_ | refine kE _ ?_ | refine kX _ _ rfl ?_ | refine kR _ ?_); try clear kN kE kX kR Qb)) | (refine ccA ([]) (c1) ?_) | (refine z1C e1 ?_) | (refine z0i e1 ?_) | (refine z1C e2 ?_) | (refine z0i e2 ?_) | (refine i_at gr ?_) | (refine ccA ([]) (c2h) ?_) | (refine ccA ([]) (c3) ?_) | (refine ccA ([]) (c4) ?_) | (refine ccA ([]) (c5) ?_) | (refine z30 e3 ?_) | (refine And.intro (by kernel_rfl) ?_) | (refine stpQ ?_))
     (refine z00 (by rfl) ?_ ?_ (by rfl)) <;> (repeat' (first | (exact eqA) | (refine And.intro ?_ ?_) | ((fail_if_success (with_reducible (show _ = _))); (show _ = _)))) <;> rfl
    ·refine z01 z0d 1 rfl Tryz.func7 rfl rfl rfl ?_
     repeat ((try conv => whnf); first | (with_reducible first | refine z0b (fun Qs hN hE hR => ?_) | refine z09 ?_ | refine z03 (fun Qb kN kE kX kR => ?_) | refine z05 ?_ | refine z06 ?_ | refine z0a ?_ | refine z07 ?_ | refine z08 ?_ | (show W _ _ _ (.cond _ _ _) _ _; refine z04 rfl ?_) | (refine hN _ ?_; try clear hN hE hR Qs; (try (conv => arg 6; dsimp only [ovl, List.set, List.map, ren0]))) | ((first | refine hE _ _ ?_ | refine hR _ ?_); try clear hN hE hR Qs) | ((first | refine kN _ ?_ | refine kE _ ?_ | refine kX _ _ rfl ?_ | refine kR _ ?_); try clear kN kE kX kR Qb)) | (refine ccA ([]) (d1) ?_) | (refine z1C e1 ?_) | (refine z0i e1 ?_) | (refine z1C e2 ?_) | (refine z0i e2 ?_) | (refine i_at gr ?_) | (refine ccA ([]) (d2h) ?_) | (refine ccA ([]) (d3) ?_) | (refine ccA ([]) (d4) ?_) | (refine ccA ([]) (d5) ?_) | (refine z30 e3 ?_) | (refine And.intro (by kernel_rfl) ?_) | (refine stpQ ?_))
     (refine z00 (by rfl) ?_ ?_ (by rfl)) <;> (repeat' (first | (exact eqA) | (refine And.intro ?_ ?_) | ((fail_if_success (with_reducible (show _ = _))); (show _ = _)))) <;> rfl
end
end Go.Proofs.YtgmbkbggnlponaaGreatDoor
