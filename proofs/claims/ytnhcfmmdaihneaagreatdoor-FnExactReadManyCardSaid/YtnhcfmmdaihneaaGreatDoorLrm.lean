/- Functions by content: the law of ReadMany. -/
import Derived.Test.YtnhcfmmdaihneaaGreatDoorMro
import Derived.Test.YtnhcfmmdaihneaaGreatDoorMsp
import Derived.Test.YtnhcfmmdaihneaaGreatDoorExE
import Derived.Test.YtnhcfmmdaihneaaGreatDoorMk
namespace Go.Proofs.YtnhcfmmdaihneaaGreatDoor
set_option maxRecDepth 100000
set_option maxHeartbeats 8000000
set_option linter.unusedVariables false
set_option linter.unusedSimpArgs false
set_option linter.unusedSectionVars false
open Go.RowKit Pl
section
attribute [local irreducible] z0s z0t z0x AnsP LeP W CvE
theorem zbG (a b c : List (List T)) (ha : a.length ≤ 1048576 ∧ ∀ e ∈ a, Fits 1048576 .str e) (hb : b.length ≤ 1048576 ∧ ∀ e ∈ b, Fits 1048576 (.sl 2 z2x) e) (hc : c.length ≤ 1048576 ∧ ∀ e ∈ c, Fits 1048576 .str e)
 (A B C : List (List T)) (eA : A = a) (eB : B = b) (eC : C = c) :
 CT Tryz.prog 10 [] [.agg [.sl 1 A, .sl 1 B, .sl 1 C], .agg [.sl 1 a, .sl 1 b, .sl 1 c]] (.bool true) [] := by
 subst eA eB eC
 have c0 := z4T A ha
 have c1 := za8 B hb
 have c2 := z4T C hc
 refine z0b z11 1 rfl Tryz.func10 rfl rfl rfl ?_
 conv => arg 6; whnf
 repeat ((try conv => whnf); first | (with_reducible first | refine z0a (fun Qs hN hE hR => ?_) | refine z08 ?_ | refine z00 (fun Qb kN kE kX kR => ?_) | refine z03 ?_ | refine z04 ?_ | refine z09 ?_ | refine z05 ?_ | refine z06 ?_ | (show W _ _ _ (.cond _ _ _) _ _; refine z02 rfl ?_) | (refine hN _ ?_; try clear hN hE hR Qs) | ((first | refine hE _ _ ?_ | refine hR _ ?_); try clear hN hE hR Qs) | ((first | refine kN _ ?_ | refine kE _ ?_ | refine kX _ _ rfl ?_ | refine kR _ ?_); try clear kN kE kX kR Qb)) | (refine ccA ([]) (c0) ?_) | (refine ccA ([]) (c1) ?_) | (refine ccA ([]) (c2) ?_) | (refine And.intro (by kernel_rfl) ?_) | (refine stpQ ?_))
 (refine z07 (by rfl) ?_ ?_ (by rfl)) <;> (repeat' (first | (exact eqA) | (refine And.intro ?_ ?_) | ((fail_if_success (with_reducible (show _ = _))); (show _ = _))))
theorem zaa (z0 : List (List T)) (w0 : WfSt z0) (l0 : (z0.length : Int) ≤ 1000000000) (z1 : List (List T)) (w1 : za9 z1) (l1 : (z1.length : Int) ≤ 1000000000) (z2 : List (List T)) (w2 : WfSt z2) (l2 : (z2.length : Int) ≤ 1000000000) (k : Nat) (hk : 0 < k) (hb : k + cnG szSt z0 + cnG z0o z1 + cnG szSt z2 ≤ 1000000000000000000) :
 CT Tryz.prog 11 [.deep 1 (z0) [], .deep 1 (z1) [], .deep 1 (z2) []] [.agg [.ref 1, .ref 2, .ref 3], .int .i64 (k : Int)] (.int .i64 ((k + cnG szSt z0 + cnG z0o z1 + cnG szSt z2 : Nat) : Int)) [.deep 1 (mkG elSt szSt (k) z0) [], .deep 1 (mkG z1h z0o (k + cnG szSt z0) z1) [], .deep 1 (mkG elSt szSt (k + cnG szSt z0 + cnG z0o z1) z2) []] := by
 have d0 := z3i z0 w0 (k) (by omega) (by omega) l0
 have d1 := z7y z1 w1 (k + cnG szSt z0) (by omega) (by omega) l1
 have d2 := z3i z2 w2 (k + cnG szSt z0 + cnG z0o z1) (by omega) (by omega) l2
 generalize mkG elSt szSt (k) z0 = p0 at *
 generalize mkG z1h z0o (k + cnG szSt z0) z1 = p1 at *
 generalize mkG elSt szSt (k + cnG szSt z0 + cnG z0o z1) z2 = p2 at *
 refine z0b z11 4 rfl Tryz.func11 rfl rfl rfl ?_
 conv => arg 6; whnf
 repeat ((try conv => whnf); first | (with_reducible first | refine z0a (fun Qs hN hE hR => ?_) | refine z08 ?_ | refine z00 (fun Qb kN kE kX kR => ?_) | refine z03 ?_ | refine z04 ?_ | refine z09 ?_ | refine z05 ?_ | refine z06 ?_ | (show W _ _ _ (.cond _ _ _) _ _; refine z02 rfl ?_) | (refine hN _ ?_; try clear hN hE hR Qs) | ((first | refine hE _ _ ?_ | refine hR _ ?_); try clear hN hE hR Qs) | ((first | refine kN _ ?_ | refine kE _ ?_ | refine kX _ _ rfl ?_ | refine kR _ ?_); try clear kN kE kX kR Qb)) | (refine ccB ([_]) (d0) ?_) | (refine ccB ([_]) (d1) ?_) | (refine ccB ([_]) (d2) ?_) | (refine And.intro (by kernel_rfl) ?_) | (refine stpQ ?_))
 (refine z07 (by rfl) ?_ ?_ (by rfl)) <;> (repeat' (first | (exact eqA) | (refine And.intro ?_ ?_) | ((fail_if_success (with_reducible (show _ = _))); (show _ = _))))
theorem zab (z0 : List (List T)) (w0 : WfSt z0) (l0 : (z0.length : Int) ≤ 1000000000) (z1 : List (List T)) (w1 : za9 z1) (l1 : (z1.length : Int) ≤ 1000000000) (z2 : List (List T)) (w2 : WfSt z2) (l2 : (z2.length : Int) ≤ 1000000000) (k : Nat) (hk : 0 < k) (hb : k + cnG szSt z0 + cnG z0o z1 + cnG szSt z2 ≤ 1000000000000000000) :
 CT Tryz.prog 12 [.deep 1 (mkG elSt szSt (k) z0) [], .deep 1 (mkG z1h z0o (k + cnG szSt z0) z1) [], .deep 1 (mkG elSt szSt (k + cnG szSt z0 + cnG z0o z1) z2) []] [.agg [.ref 1, .ref 2, .ref 3], .int .i64 (k : Int)] (.int .i64 ((k + cnG szSt z0 + cnG z0o z1 + cnG szSt z2 : Nat) : Int)) [.deep 1 (mkG elSt szSt (k) z0) [], .deep 1 (mkG z1h z0o (k + cnG szSt z0) z1) [], .deep 1 (mkG elSt szSt (k + cnG szSt z0 + cnG z0o z1) z2) []] := by
 have d0 := z3j z0 (k) (by omega) (by omega) l0
 have y0 : ¬ ((k + cnG szSt z0 : Nat) : Int) < 0 := by omega
 have d1 := z7z z1 w1 (k + cnG szSt z0) (by omega) (by omega) l1
 have y1 : ¬ ((k + cnG szSt z0 + cnG z0o z1 : Nat) : Int) < 0 := by omega
 have d2 := z3j z2 (k + cnG szSt z0 + cnG z0o z1) (by omega) (by omega) l2
 have y2 : ¬ ((k + cnG szSt z0 + cnG z0o z1 + cnG szSt z2 : Nat) : Int) < 0 := by omega
 generalize mkG elSt szSt (k) z0 = p0 at *
 generalize mkG z1h z0o (k + cnG szSt z0) z1 = p1 at *
 generalize mkG elSt szSt (k + cnG szSt z0 + cnG z0o z1) z2 = p2 at *
 refine z0b z11 4 rfl Tryz.func12 rfl rfl rfl ?_
 conv => arg 6; whnf
 repeat ((try conv => whnf); first | (with_reducible first | refine z0a (fun Qs hN hE hR => ?_) | refine z08 ?_ | refine z00 (fun Qb kN kE kX kR => ?_) | refine z03 ?_ | refine z04 ?_ | refine z09 ?_ | refine z05 ?_ | refine z06 ?_ | (show W _ _ _ (.cond _ _ _) _ _; refine z02 rfl ?_) | (refine hN _ ?_; try clear hN hE hR Qs) | ((first | refine hE _ _ ?_ | refine hR _ ?_); try clear hN hE hR Qs) | ((first | refine kN _ ?_ | refine kE _ ?_ | refine kX _ _ rfl ?_ | refine kR _ ?_); try clear kN kE kX kR Qb)) | (refine z0e y0 ?_) | (refine ccB ([_]) (d0) ?_) | (refine z0e y1 ?_) | (refine ccB ([_]) (d1) ?_) | (refine z0e y2 ?_) | (refine ccB ([_]) (d2) ?_) | (refine And.intro (by kernel_rfl) ?_) | (refine stpQ ?_))
 (refine z07 (by rfl) ?_ ?_ (by rfl)) <;> (repeat' (first | (exact eqA) | (refine And.intro ?_ ?_) | ((fail_if_success (with_reducible (show _ = _))); (show _ = _))))
theorem z5A (t : Bs) (w : Int) (ht : (t.length : Int) ≤ 1048576) (ok : Bool) (a b c e : List (List T))
 (wa : WfSt a) (wb : za9 b) (wc : WfSt c) (la : a.length ≤ 1000) (lb : b.length ≤ 1000) (lc : c.length ≤ 1000) (na : cnG szSt a ≤ 1000000) (nb : cnG z0o b ≤ 1000000) (nc : cnG szSt c ≤ 1000000)
 (ua : ucE a = a) (ub : ucE b = e) (uc : ucE c = c)
 (ha : a.length ≤ 1048576 ∧ ∀ e ∈ a, Fits 1048576 .str e) (hb : e.length ≤ 1048576 ∧ ∀ u ∈ e, Fits 1048576 (.sl 2 z2x) u) (hc : c.length ≤ 1048576 ∧ ∀ e ∈ c, Fits 1048576 .str e)
 (s1 : CT Tryz.prog 8 [] [.str t, .int .i64 w] (.tup [.agg [.sl 1 a, .sl 1 e, .sl 1 c], .bool ok]) [])
 (s2 : CT Tryz.prog 9 [] [.str t, .int .i64 w] (.tup [.agg [.ref 1, .ref 2, .ref 3], .bool ok]) [.deep 1 a [], .deep 1 b [], .deep 1 c []]) :
 CT Tryz.prog 3 [] [.str t, .int .i64 w] (.bool true) [] := by
 have u1 := zbG a e c ha hb hc (ucE a) (ucE b) (ucE c) ua ub uc
 have d2 := zaa a wa (by omega) b wb (by omega) c wc (by omega) 1 (by decide) (by omega)
 have d3 := zab a wa (by omega) b wb (by omega) c wc (by omega) 1 (by decide) (by omega)
 have y2 : ¬ ((1 + cnG szSt a + cnG z0o b + cnG szSt c : Nat) : Int) < 0 := by omega
 generalize ((1 + cnG szSt a + cnG z0o b + cnG szSt c : Nat) : Int) = m2 at d2 d3 y2
 have y3 : m2 = m2 := rfl
 have y4 : ok = ok := rfl
 have f0 : ¬ (t.length : Int) > 1048576 := by omega
 generalize mkG elSt szSt _ a = p1 at d2 d3
 generalize mkG z1h z0o _ b = p2 at d2 d3
 generalize mkG elSt szSt _ c = p3 at d2 d3
 clear wa wb wc la lb lc na nb nc ua ub uc ha hb hc
 refine z0b z11 1 rfl Tryz.func3 rfl rfl rfl ?_
 conv => arg 6; whnf
 repeat ((try conv => whnf); first | (with_reducible first | refine z0a (fun Qs hN hE hR => ?_) | refine z08 ?_ | refine z00 (fun Qb kN kE kX kR => ?_) | refine z03 ?_ | refine z04 ?_ | refine z09 ?_ | refine z05 ?_ | refine z06 ?_ | (show W _ _ _ (.cond _ _ _) _ _; refine z02 rfl ?_) | (refine hN _ ?_; try clear hN hE hR Qs) | ((first | refine hE _ _ ?_ | refine hR _ ?_); try clear hN hE hR Qs) | ((first | refine kN _ ?_ | refine kE _ ?_ | refine kX _ _ rfl ?_ | refine kR _ ?_); try clear kN kE kX kR Qb)) | (refine z0e f0 ?_) | (refine ccA ([]) (s1) ?_) | (refine stpQ ?_))
 repeat ((try conv => whnf); first | (with_reducible first | refine z0a (fun Qs hN hE hR => ?_) | refine z08 ?_ | refine z00 (fun Qb kN kE kX kR => ?_) | refine z03 ?_ | refine z04 ?_ | refine z09 ?_ | refine z05 ?_ | refine z06 ?_ | (show W _ _ _ (.cond _ _ _) _ _; refine z02 rfl ?_) | (refine hN _ ?_; try clear hN hE hR Qs) | ((first | refine hE _ _ ?_ | refine hR _ ?_); try clear hN hE hR Qs) | ((first | refine kN _ ?_ | refine kE _ ?_ | refine kX _ _ rfl ?_ | refine kR _ ?_); try clear kN kE kX kR Qb)) | (refine ccA ([]) (s2) ?_) | (refine ccA ([]) (u1) ?_) | (refine ccB ([_, _, _]) (d2) ?_) | (refine ccB ([_, _, _]) (d3) ?_) | (refine z0e y2 ?_) | (refine z2k y3 ?_) | (refine z2k y4 ?_) | (refine And.intro (by kernel_rfl) ?_) | (refine stpQ ?_))
 (refine z07 (by rfl) ?_ ?_ (by rfl)) <;> (repeat' (first | (exact eqA) | (refine And.intro ?_ ?_) | ((fail_if_success (with_reducible (show _ = _))); (show _ = _))))
theorem zbH (t : Bs) (w : Int) (ht : (t.length : Int) > 1048576) : CT Tryz.prog 3 [] [.str t, .int .i64 w] (.bool true) [] := by
 refine z0b z11 1 rfl Tryz.func3 rfl rfl rfl ?_
 conv => arg 6; whnf
 repeat ((try conv => whnf); first | (with_reducible first | refine z0a (fun Qs hN hE hR => ?_) | refine z08 ?_ | refine z00 (fun Qb kN kE kX kR => ?_) | refine z03 ?_ | refine z04 ?_ | refine z09 ?_ | refine z05 ?_ | refine z06 ?_ | (show W _ _ _ (.cond _ _ _) _ _; refine z02 rfl ?_) | (refine hN _ ?_; try clear hN hE hR Qs) | ((first | refine hE _ _ ?_ | refine hR _ ?_); try clear hN hE hR Qs) | ((first | refine kN _ ?_ | refine kE _ ?_ | refine kX _ _ rfl ?_ | refine kR _ ?_); try clear kN kE kX kR Qb)) | (refine z0d ht ?_) | (refine stpQ ?_))
 (refine z07 (by rfl) ?_ ?_ (by rfl)) <;> (repeat' (first | (exact eqA) | (refine And.intro ?_ ?_) | ((fail_if_success (with_reducible (show _ = _))); (show _ = _))))
end
theorem zcY (l : List Bs) : WfSt (strE l) := fun e he => by
 simp only [strE, List.mem_map] at he
 obtain ⟨x, _, rfl⟩ := he
 exact ⟨_, rfl⟩
theorem wfm_lf (l : List Lf) : WfLf (lvE l) := fun e he => by
 simp only [lvE, List.mem_map] at he
 obtain ⟨x, _, rfl⟩ := he
 exact ⟨_, _, rfl⟩
theorem ze3 (n : Nat) : ∀ (es : List (List T)), cnG (fun _ => n) es = n * es.length
 | [] => rfl
 | e :: es => by rw [cnG, ze3 n es, List.length_cons, Nat.mul_add]; omega
theorem zcZ (l : List (List T)) : cnG szSt l = 1 * l.length := ze3 1 l
theorem cnm_lf (l : List (List T)) : cnG szLf l = 2 * l.length := ze3 2 l
theorem zd0 (l : List Bs) : ucE (strE l) = strE l := z6t fun e he c hc => by
 simp only [strE, List.mem_map] at he
 obtain ⟨x, _, rfl⟩ := he
 simp only [List.mem_singleton] at hc
 subst hc; rfl
theorem ze4 {l : List (List Lf)} (h : ∀ b ∈ l, leavesOk b = true) : za9 (vwD l) := fun e he => by
 simp only [vwD, List.mem_map] at he
 obtain ⟨y, hy, rfl⟩ := he
 obtain ⟨h1, _⟩ := z10 (h y hy)
 exact ⟨_, rfl, wfm_lf _, by simp only [lvE, List.length_map]; omega⟩
theorem zbI : ∀ {l : List (List Lf)}, (∀ b ∈ l, leavesOk b = true) → cnG z0o (vwD l) ≤ 100 * l.length
 | [], _ => Nat.zero_le _
 | y :: l, h => by
   have ih := zbI (l := l) fun z hz => h z (by simp [hz])
   obtain ⟨h1, _⟩ := z10 (h y (by simp))
   show z0o [.own 2 (lvE y)] + cnG z0o (vwD l) ≤ _
   have e : z0o [.own 2 (lvE y)] = 0 + cnG szLf (lvE y) := rfl
   have e2 : (lvE y).length = y.length := by simp [lvE]
   rw [e, cnm_lf, e2, List.length_cons]
   omega
theorem zbJ {l : List Bs} {N : Nat} (hl : l.length ≤ N) (h : ∀ x ∈ l, x.length ≤ N) : (strE l).length ≤ N ∧ ∀ e ∈ strE l, Fits N .str e := ⟨by rw [z0m]; exact hl, fun e he => by
 simp only [strE, List.mem_map] at he
 obtain ⟨x, hx, rfl⟩ := he
 exact ⟨_, rfl, h x hx⟩⟩
theorem zcy {l : List (List Lf)} (hl : l.length ≤ 1000) (h : ∀ b ∈ l, leavesOk b = true) : (bkE l).length ≤ 1048576 ∧ ∀ u ∈ bkE l, Fits 1048576 (.sl 2 z2x) u := ⟨by rw [z31]; omega, fun u hu => by
 simp only [bkE, List.mem_map] at hu
 obtain ⟨y, hy, rfl⟩ := hu
 obtain ⟨h1, h2, _⟩ := z10 (h y hy)
 refine ⟨_, rfl, by simp only [lvE, List.length_map]; omega, fun e he => ?_⟩
 simp only [lvE, List.mem_map] at he
 obtain ⟨z, hz, rfl⟩ := he
 have := h2 z hz
 have c1 := z1r this.1
 have c2 := z1s this.2
 exact zdL (by omega) (by omega)⟩
theorem z6z (t : Bs) (w : Int) : CT Tryz.prog 3 [] [.str t, .int .i64 w] (.bool true) [] := by
 by_cases ht : (t.length : Int) ≤ 1048576
 ·by_cases hx : ∃ names bks sides, z26 names bks sides w = true ∧ t = z2i names bks sides
  ·obtain ⟨names, bks, sides, hm, hT⟩ := hx
   obtain ⟨n1, n8, nm, b8, bl, w0, sw, s64⟩ := z3D hm
   have e0 : t.drop 0 = z0f names.length ++ (names.flatMap z0c ++ (z0f bks.length ++ (bks.flatMap bkT ++ (z0f sides.length ++ (sides.flatten ++ []))))) := by rw [List.drop_zero, hT, z2i, List.append_nil]
   have hlen := congrArg List.length e0
   simp only [List.drop_zero, List.length_append, List.length_nil] at hlen
   have e1 := z27 rfl e0
   have e2 := z27 rfl e1
   have e3 := z27 rfl e2
   have e4 := z27 rfl e3
   have e5 := z27 rfl e4
   have r0 := z3e (by omega) e0 false
   have r1 := nm_dec nm e1
   have r2 := z3e (by omega) e2 false
   have r3 := bk_dec bl e3
   have r3' := bo_dec bl e3
   have r4 := z3e (by omega) e4 false
   have r5 := sd_dec sw e5
   have m1 : min names.length 9 = names.length := by omega
   have m2 : min bks.length 9 = bks.length := by omega
   have k1 : min names.length 10 = names.length := by omega
   have k2 : min bks.length 10 = bks.length := by omega
   have k3 : min sides.length 70 = sides.length := by omega
   have hG : bkG (bkO bks) = bks := by simp [bkG, bkO, Function.comp_def]
   have hA : okA (bkO bks) = true := by simp [okA, bkO]
   have s2 := z4R t w (by omega) _ _ false names _ false _ _ false bks _ false _ _ false sides _ false r0 (by rw [m1]; exact r1) r2 (by rw [m2]; exact r3) r4 r5 true (by
    rw [z1q.2 w0, hm, decide_eq_true hT.symm]
    have : (0 + (z0f names.length).length + (names.flatMap z0c).length + (z0f bks.length).length + (bks.flatMap bkT).length + (z0f sides.length).length + sides.flatten.length) = t.length := by omega
    rw [this]
    simp [z2O])
   have s1 := z4S t w (by omega) _ _ false names _ false _ _ false (bkO bks) _ false _ _ false sides _ false r0 (by rw [k1]; exact r1) r2 (by rw [k2]; exact r3') r4 (by rw [k3]; exact r5) true (by
    rw [hG, hA, hm, decide_eq_true hT.symm]
    rfl)
   rw [hG] at s1
   have b1 := z0m names
   have b2 := zbx bks
   have b3 := z0m sides
   have g1 := zcZ (strE names)
   have g2 := zbI bl
   have g3 := zcZ (strE sides)
   exact z5A t w ht true (strE names) (vwD bks) (strE sides) (bkE bks) (zcY _) (ze4 bl) (zcY _) (by omega) (by omega) (by omega) (by omega) (by omega) (by omega) (zd0 _) (zdV _) (zd0 _) (zbJ (by omega) fun y hy => by have := nm y hy; omega) (zcy (by omega) bl) (zbJ (by omega) fun y hy => by have := sw y hy; omega) s1 s2
  ·have hn : ∀ names bks sides, (z26 names bks sides w && decide (z2i names bks sides = t)) = false := fun names bks sides => by
    cases h1 : z26 names bks sides w with
    | false => rfl
    | true =>
      rw [Bool.true_and]
      exact decide_eq_false fun c => hx ⟨names, bks, sides, h1, c.symm⟩
   have s2 : CT Tryz.prog 9 [] [.str t, .int .i64 w] (.tup [.agg [.ref 1, .ref 2, .ref 3], .bool false]) [.deep 1 [] [], .deep 1 [] [], .deep 1 [] []] := by
    rcases h1 : z1k t 0 false with ⟨n1, q1, b1⟩
    rcases hR0 : rdL (fNm t) (min n1 9) q1 b1 with ⟨names, q2, b2⟩
    rcases h2 : z1k t q2 b2 with ⟨n2, q3, b3⟩
    rcases hR2 : rdL (fBk t) (min n2 9) q3 b3 with ⟨bks, q4, b4⟩
    rcases h3 : z1k t q4 b4 with ⟨n3, q5, b5⟩
    rcases hR4 : rdL (fSd t w) n3 q5 b5 with ⟨sides, q6, b6⟩
    exact z4R t w (by omega) n1 q1 b1 names q2 b2 n2 q3 b3 bks q4 b4 n3 q5 b5 sides q6 b6 h1 hR0 h2 hR2 h3 hR4 false (by rw [hn]; simp)
   have s1 : CT Tryz.prog 8 [] [.str t, .int .i64 w] (.tup [.agg [.sl 1 [], .sl 1 [], .sl 1 []], .bool false]) [] := by
    rcases h1 : numS t 0 false with ⟨n1, q1, b1⟩
    rcases hR0 : rdL (fNm t) (min n1 10) q1 b1 with ⟨names, q2, b2⟩
    rcases h2 : numS t q2 b2 with ⟨n2, q3, b3⟩
    rcases hR2 : rdL (fBo t) (min n2 10) q3 b3 with ⟨os, q4, b4⟩
    rcases h3 : numS t q4 b4 with ⟨n3, q5, b5⟩
    rcases hR4 : rdL (fSd t w) (min n3 70) q5 b5 with ⟨sides, q6, b6⟩
    exact z4S t w (by omega) n1 q1 b1 names q2 b2 n2 q3 b3 os q4 b4 n3 q5 b5 sides q6 b6 h1 hR0 h2 hR2 h3 hR4 false (by rw [hn]; simp)
   have n0 : ∀ e ∈ ([] : List (List T)), False := fun e h => by cases h
   exact z5A t w ht false [] [] [] [] (fun e h => (n0 e h).elim) (fun e h => (n0 e h).elim) (fun e h => (n0 e h).elim) (by decide) (by decide) (by decide) (by decide) (by decide) (by decide) (by simp [ucE]) (by simp [ucE]) (by simp [ucE]) ⟨by simp, fun e h => (n0 e h).elim⟩ ⟨by simp, fun e h => (n0 e h).elim⟩ ⟨by simp, fun e h => (n0 e h).elim⟩ s1 s2
 ·exact zbH t w (by omega)
end Go.Proofs.YtnhcfmmdaihneaaGreatDoor
