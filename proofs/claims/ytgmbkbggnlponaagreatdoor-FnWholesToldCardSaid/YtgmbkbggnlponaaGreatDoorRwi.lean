/- Functions by content: the program reads complete proofs of good content; its rows are told as rows that may be moved. -/
import Derived.Test.YtgmbkbggnlponaaGreatDoorRwp
import Derived.Test.YtgmbkbggnlponaaGreatDoorCad
import Derived.Test.YtgmbkbggnlponaaGreatDoorGg
namespace Go.Proofs.YtgmbkbggnlponaaGreatDoor
set_option maxRecDepth 100000
set_option maxHeartbeats 8000000
set_option linter.unusedVariables false
set_option linter.unusedSimpArgs false
set_option linter.unusedSectionVars false
open Go.RowKit Pl
theorem cl_lvW (l : List Lf) : ∀ e ∈ lvE l, ∀ c ∈ e, cl0 c := fun e he c hc => by
 simp only [lvE, List.mem_map] at he
 obtain ⟨x, _, rfl⟩ := he
 simp only [List.mem_cons, List.not_mem_nil, or_false] at hc
 rcases hc with rfl | rfl <;> trivial
section
attribute [local irreducible] z0t z0u z0y AnsP LeP W CvE
theorem z5I (t : Bs) (w : Int) (ht : (t.length : Int) ≤ 1000000000) : CT Tryz.prog 36 [] [.str t, .int .i64 w] (.tup [.agg [.ref 1, .ref 2], .bool (z3w t w).isSome]) [.deep 2 (lvE (z4p (z3w t w)).1) [], .deep 1 (strE (z4p (z3w t w)).2) []] := by
 have c := zbs t w ht
 have c1 := z7j 0 c rfl (by decide) (cl_lvW _)
 have c2 := z7j 1 c1 rfl (by decide) (zdX _)
 exact c2
theorem zaI (h : Hd) (s : Sg) (g : h.good) (gs : s.good) : CT Tryz.prog 40 [] [.str (z12 h s)] (.tup [.agg [.int .i64 (h.ho : Int), .int .i64 (h.ep : Int), .str h.ro, .str h.pr, .int .i64 (s.a : Int), .ref 1, .ref 2, .ref 3], .bool true]) [.deep 1 (strE s.op) [], .deep 1 (strE s.sh) [], .deep 1 (strE s.si) []] := by
 have hl : ((z12 h s).length : Int) ≤ 1000000000 := by
  have a := z3g (h := h) gs
  have b := z0D (l := z0P h) (by have := z0N g; omega)
  have c := z0N g
  omega
 have c1 := zgI (z12 h s) 0 h s g gs hl (Nat.zero_le _) rfl
 have c2 := z7X (z12 h s) (z12 h s).length false
 rw [show z3i false (z12 h s).length (z12 h s).length = true by simp [z3i]] at c2
 obtain ⟨ho, ep, ro, pr⟩ := h
 obtain ⟨a, op, sh, si⟩ := s
 dsimp only at c1 ⊢
 generalize z12 ⟨ho, ep, ro, pr⟩ ⟨a, op, sh, si⟩ = t at *
 refine z01 z0d 1 rfl Tryz.func40 rfl rfl rfl ?_
 conv => arg 6; whnf
 repeat ((try conv => whnf); first | (with_reducible first | refine z0b (fun Qs hN hE hR => ?_) | refine z09 ?_ | refine z03 (fun Qb kN kE kX kR => ?_) | refine z05 ?_ | refine z06 ?_ | refine z0a ?_ | refine z07 ?_ | refine z08 ?_ | (show W _ _ _ (.cond _ _ _) _ _; refine z04 rfl ?_) | (refine hN _ ?_; try clear hN hE hR Qs; (try (conv => arg 6; dsimp only [ovl, List.set, List.map, ren0]))) | ((first | refine hE _ _ ?_ | refine hR _ ?_); try clear hN hE hR Qs) | ((first | refine kN _ ?_ | refine kE _ ?_ | refine kX _ _ rfl ?_ | refine kR _ ?_); try clear kN kE kX kR Qb)) | (refine ccB ([_]) (c1) ?_) | (refine ccB ([_]) (c2) ?_) | (refine And.intro (by kernel_rfl) ?_) | (refine stpQ ?_))
 (refine z00 (by rfl) ?_ ?_ (by rfl)) <;> (repeat' (first | (exact eqA) | (refine And.intro ?_ ?_) | ((fail_if_success (with_reducible (show _ = _))); (show _ = _)))) <;> rfl
theorem zaJ (x : Wh) (g : WhGood x) (hpl : (z0l x.B x.S).length ≤ 20000) :
 CT Tryz.prog 9 [] [.str (z1V x)] (.tup [.agg (whRp x), .bool true]) (whDp x) := by
 have gsl := g.sl
 have gtl := g.tl
 have gtw := g.tw
 have gsh : ∀ i (h : i < x.st.length), x.st[i].1 ≤ 2 ∧ x.st[i].2.good := fun i h => g.sh _ (List.getElem_mem h)
 have ksl := zaI x.hd x.sg g.hd g.sg
 have lsl : (z12 x.hd x.sg).length ≤ 400 := by
  have a := z3g (h := x.hd) g.sg
  have b := z0D (l := z0P x.hd) (by have := z0N g.hd; omega)
  have c := z0N g.hd
  omega
 have e0 : (z1V x).drop 0 = z0e (z0l x.B x.S) ++ (z0g x.T.length ++ (x.T.flatten ++ (z0e (z12 x.hd x.sg) ++ (z0g x.st.length ++ stL (x.st.drop 0))))) := rfl
 have l1 := z0D (l := z0l x.B x.S) (by omega)
 have l2 := z0O (n := x.T.length) (by omega)
 have l3 := z1Q gtw
 have l4 := z0D (l := z12 x.hd x.sg) (by omega)
 have l5 := z0O (n := x.st.length) (by omega)
 have l6 := z9d fun y hy => (g.sh y hy).2
 have hlen : (z1V x).length ≤ 30000 := by
  have := congrArg List.length e0
  simp only [List.drop_zero, List.length_append] at this
  omega
 have kpf : CT Tryz.prog 36 [] [.str (z0l x.B x.S), .int .i64 16] (.tup [.agg [.ref 1, .ref 2], .bool true]) [.deep 2 (lvE x.B) [], .deep 1 (strE x.S) []] := by
  have c := z5I (z0l x.B x.S) 16 (by omega)
  have hi : inB 16 1 32 = true := by decide
  have f : z3w (z0l x.B x.S) 16 = some (x.B, x.S) := by
   show (bif inB 16 1 32 then z31 _ (16 : Int).toNat else none) = _
   rw [hi]
   exact (zeM (w := 16) (by omega)).2 ⟨g.pf, rfl⟩
  rw [f] at c
  exact c
 have snx : ∀ i (h : i < x.st.length), stD (x.st.take (i + 1)) = stD (x.st.take i) ++ [[.int .i64 (x.st[i].1 : Int), .int .i64 (x.st[i].2.a : Int), .own 1 (strE x.st[i].2.op), .own 1 (strE x.st[i].2.sh), .own 1 (strE x.st[i].2.si)]] := fun i h => zgG h
 clear g
 obtain ⟨B, S, Tp, hd, sg, st⟩ := x
 unfold whRp whDp
 simp only at gsl gtl gtw gsh ksl lsl e0 l1 l2 l3 l4 l5 l6 hlen kpf hpl snx ⊢
 generalize z1V ⟨B, S, Tp, hd, sg, st⟩ = t at e0 hlen ⊢
 generalize z0l B S = P at e0 l1 kpf hpl
 generalize z12 hd sg = SB at ksl lsl e0 l4
 have ht : (t.length : Int) ≤ 1000000000 := by omega
 have e1 := z0x rfl e0
 have p1 := z1u (by omega) rfl e0
 have e2 := z0x rfl e1
 have p2 := z1u p1 rfl e1
 have e3 := z0x l3 e2
 have p3 := z1u p2 l3 e2
 have e4 := z0x rfl e3
 have p4 := z1u p3 rfl e3
 have e5 := z0x rfl e4
 have p5 := z1u p4 rfl e4
 have c0 := z3o t 0 false ht (by omega)
 rw [z1n hpl e0] at c0
 have c1 := zdj t _ false ht p1
 rw [z2s (by omega) e1] at c1
 have c2 := z1W t _ false Tp.length 16 ht p2 (by omega)
 have d2 := z2c gtw e2
 rw [l3] at d2
 rw [d2] at c2
 have c3 := z3o t _ false ht p3
 rw [z1n (by omega) e3] at c3
 have c4 := zdj t _ false ht p4
 rw [z2s (by omega) e4] at c4
 simp only at c0 c1 c2 c3 c4
 generalize 0 + (z0e P).length + (z0g Tp.length).length + 16 * Tp.length + (z0e SB).length + (z0g st.length).length = q5 at c4 e5 p5
 generalize 0 + (z0e P).length + (z0g Tp.length).length + 16 * Tp.length + (z0e SB).length = q4 at c3 c4
 generalize 0 + (z0e P).length + (z0g Tp.length).length + 16 * Tp.length = q3 at c2 c3
 generalize 0 + (z0e P).length + (z0g Tp.length).length = q2 at c1 c2
 generalize 0 + (z0e P).length = q1 at c0 c1
 have hdr : ∀ i, i ≤ st.length → t.drop (q5 + 322 * i) = stL (st.drop i) ∧ q5 + 322 * i ≤ t.length := by
  intro i
  induction i with
  | zero => intro _; exact ⟨e5, by omega⟩
  | succ i ih =>
    intro hi
    obtain ⟨a, b⟩ := ih (by omega)
    rw [zhf (by omega)] at a
    have hs := z1Y (gsh i (by omega)).2
    have f1 := z0x rfl a
    have g1 := z1u b rfl a
    have f2 := z0x hs f1
    have g2 := z1u g1 hs f1
    simp only [List.length_cons, List.length_nil, Nat.zero_add] at f2 g2
    exact ⟨by rw [show q5 + 322 * (i + 1) = q5 + 322 * i + 1 + 321 by omega]; exact f2, by omega⟩
 have sok : ∀ i (h : i < st.length), ∃ q',
  CT Tryz.prog 41 [fldB t (q5 + 322 * i) false] [.ptr 1 0 0] (.int .i64 (st[i].1 : Int)) [fldB t q' false] ∧
  CT Tryz.prog 42 [fldB t q' false] [.ptr 1 0 0] (.agg [.int .i64 (st[i].2.a : Int), .ref 2, .ref 3, .ref 4]) [fldB t (q5 + 322 * (i + 1)) false, .deep 1 (strE st[i].2.op) [], .deep 1 (strE st[i].2.sh) [], .deep 1 (strE st[i].2.si) []] := fun i h => by
  obtain ⟨hb, hs⟩ := gsh i h
  obtain ⟨f0, hq⟩ := hdr i (by omega)
  rw [zhf h] at f0
  have f1 := z0x rfl f0
  have hq1 := z1u hq rfl f0
  simp only [List.length_cons, List.length_nil, Nat.zero_add] at f1 hq1
  have a1 := zfn t (q5 + 322 * i) st[i].1 _ ht hq (by omega) f0
  have a2 := zhg t (q5 + 322 * i + 1) st[i].2 _ hs ht hq1 f1
  rw [show q5 + 322 * i + 1 + 321 = q5 + 322 * (i + 1) by omega] at a2
  exact ⟨_, a1, a2⟩
 have kd := z7X t (q5 + 322 * st.length) false
 have hend : q5 + 322 * st.length = t.length := by
  obtain ⟨a, b⟩ := hdr st.length (Nat.le_refl _)
  rw [List.drop_length] at a
  have := congrArg List.length a
  simp only [List.length_drop, stL, List.length_nil] at this
  omega
 rw [show z3i false (q5 + 322 * st.length) t.length = true by rw [hend]; simp [z3i]] at kd
 have hstl : ∀ k, (stD (st.take k)).length ≤ st.length := fun k => by rw [zie, List.length_take]; omega
 have hsE : stD (st.take st.length) = stD st := by rw [List.take_length]
 have hs0 : stD (st.take 0) = [] := rfl
 have hgt : ¬ (Tp.length : Int) > 2 := by omega
 have hgm : ¬ (st.length : Int) > 3 := by omega
 clear e0 e1 e2 e3 e4 e5 p1 p2 p3 p4 p5 l1 l2 l3 l4 l5 l6 d2 lsl hpl hdr hend
 obtain ⟨ho, ep, ro, pr⟩ := hd
 obtain ⟨sa, so, ss, si⟩ := sg
 dsimp only at ksl ⊢
 unfold fldB at *
 refine z01 z0d 1 rfl Tryz.func9 rfl rfl rfl ?_
 conv => arg 6; whnf
 repeat ((try conv => whnf); first | (with_reducible first | refine z0b (fun Qs hN hE hR => ?_) | refine z09 ?_ | refine z03 (fun Qb kN kE kX kR => ?_) | refine z05 ?_ | refine z06 ?_ | refine z0a ?_ | refine z07 ?_ | refine z08 ?_ | (show W _ _ _ (.cond _ _ _) _ _; refine z04 rfl ?_) | (refine hN _ ?_; try clear hN hE hR Qs; (try (conv => arg 6; dsimp only [ovl, List.set, List.map, ren0]))) | ((first | refine hE _ _ ?_ | refine hR _ ?_); try clear hN hE hR Qs) | ((first | refine kN _ ?_ | refine kE _ ?_ | refine kX _ _ rfl ?_ | refine kR _ ?_); try clear kN kE kX kR Qb)) | (refine ccB ([_]) (c0) ?_) | (refine ccA ([]) (kpf) ?_) | (refine ccB ([_]) (c1) ?_) | (refine ccB ([_]) (c2) ?_) | (refine ccB ([_]) (c3) ?_) | (refine ccA ([]) (ksl) ?_) | (refine ccB ([_]) (c4) ?_) | (refine z0k hgt ?_) | (refine z0k hgm ?_) | (refine And.intro (by kernel_rfl) ?_) | (refine stpQ ?_))
 refine z0h 0 ⟨[(2, .ptr 1 0 0), (4, .ptr 2 0 0), (5, .ptr 3 0 0), (6, .bool true), (7, .bool true)], [(1, some (.box [.val nilV, .val nilV, .val nilV, .int .i64 0, .int .i64 0, .str [], .str [], .int .i64 0, .val nilV, .val nilV, .val nilV, .val nilV])), (2, some (.box [.str t, .int .i64 ((q5 + 322 * st.length : Nat) : Int), .bool false])), (3, some (.box [.ref 4, .ref 5, .ref 6, .int .i64 (ho : Int), .int .i64 (ep : Int), .str ro, .str pr, .int .i64 (sa : Int), .ref 7, .ref 8, .ref 9, .ref 10])), (4, some (.deep 2 (lvE B) [])), (5, some (.deep 1 (strE S) [])), (6, some (.row 1 (strE Tp))), (7, some (.deep 1 (strE so) [])), (8, some (.deep 1 (strE ss) [])), (9, some (.deep 1 (strE si) [])), (10, some (.deep 5 (stD st) []))], 11⟩ Nat
  (fun k => ⟨[(2, .ptr 1 0 0), (4, .ptr 2 0 0), (5, .ptr 3 0 0), (6, .bool true), (7, .bool true), (36, .int .i64 (st.length : Int)), (37, .int .i64 (k : Int))], [(1, some (.box [.val nilV, .val nilV, .val nilV, .int .i64 0, .int .i64 0, .str [], .str [], .int .i64 0, .val nilV, .val nilV, .val nilV, .val nilV])), (2, some (.box [.str t, .int .i64 ((q5 + 322 * k : Nat) : Int), .bool false])), (3, some (.box [.ref 4, .ref 5, .ref 6, .int .i64 (ho : Int), .int .i64 (ep : Int), .str ro, .str pr, .int .i64 (sa : Int), .ref 7, .ref 8, .ref 9, .ref 10])), (4, some (.deep 2 (lvE B) [])), (5, some (.deep 1 (strE S) [])), (6, some (.row 1 (strE Tp))), (7, some (.deep 1 (strE so) [])), (8, some (.deep 1 (strE ss) [])), (9, some (.deep 1 (strE si) [])), (10, some (.deep 5 (stD (st.take k)) []))], 11⟩) (fun k => k ≤ st.length) (fun k => st.length - k) 0 (by omega) ?_ ?_ ?_
 ·(refine z02 (by rfl) ?_ ?_) <;> (repeat' (first | (exact eqA) | (refine And.intro ?_ ?_) | ((fail_if_success (with_reducible (show _ = _))); (show _ = _)))) <;> first | rfl | decide
 ·intro k hk
  have hln := hstl k
  by_cases hlt : k < st.length
  ·have f1 : (k : Int) < ((st.length : Nat) : Int) := by omega
   obtain ⟨q', a1, a2⟩ := sok k hlt
   obtain ⟨hb, gs⟩ := gsh k hlt
   have hx := snx k hlt
   have a3 := z5s (n := (st[k].1 : Int)) (by omega)
   have a4 := zaH st[k].2 gs
   generalize st[k].1 = b at *
   generalize st[k].2 = s at *
   obtain ⟨s1, s2, s3, s4⟩ := s
   dsimp only at *
   generalize stD (st.take k) = o at hln hx ⊢
   generalize hqn : q5 + 322 * (k + 1) = qn at *
   generalize q5 + 322 * k = qk at *
   repeat ((try conv => whnf); first | (with_reducible first | refine z0b (fun Qs hN hE hR => ?_) | refine z09 ?_ | refine z03 (fun Qb kN kE kX kR => ?_) | refine z05 ?_ | refine z06 ?_ | refine z0a ?_ | refine z07 ?_ | refine z08 ?_ | (show W _ _ _ (.cond _ _ _) _ _; refine z04 rfl ?_) | (refine hN _ ?_; try clear hN hE hR Qs; (try (conv => arg 6; dsimp only [ovl, List.set, List.map, ren0]))) | ((first | refine hE _ _ ?_ | refine hR _ ?_); try clear hN hE hR Qs) | ((first | refine kN _ ?_ | refine kE _ ?_ | refine kX _ _ rfl ?_ | refine kR _ ?_); try clear kN kE kX kR Qb)) | (refine z0i f1 ?_) | (refine ccB ([_]) (a1) ?_) | (refine ccB ([_]) (a2) ?_) | (refine ccA ([]) (a3) ?_) | (refine ccA ([]) (a4) ?_) | (refine And.intro (by simp only [List.length_append, List.length_cons, List.length_nil, List.length_set, List.length_replicate]; omega) ?_) | (refine And.intro (by kernel_rfl) ?_) | (refine stpQ ?_))
   refine ⟨k + 1, by omega, by omega, ?_⟩
   rw [hx]
   (refine z02 (by rfl) ?_ ?_) <;> (repeat' (first | (exact eqA) | (refine And.intro ?_ ?_) | ((fail_if_success (with_reducible (show _ = _))); (show _ = _)))) <;> first | rfl | (subst hqn; rfl)
  ·obtain rfl : k = st.length := by omega
   have f1 : ¬ ((st.length : Nat) : Int) < ((st.length : Nat) : Int) := by omega
   repeat ((try conv => whnf); first | (with_reducible first | refine z0b (fun Qs hN hE hR => ?_) | refine z09 ?_ | refine z03 (fun Qb kN kE kX kR => ?_) | refine z05 ?_ | refine z06 ?_ | refine z0a ?_ | refine z07 ?_ | refine z08 ?_ | (show W _ _ _ (.cond _ _ _) _ _; refine z04 rfl ?_) | (refine hN _ ?_; try clear hN hE hR Qs; (try (conv => arg 6; dsimp only [ovl, List.set, List.map, ren0]))) | ((first | refine hE _ _ ?_ | refine hR _ ?_); try clear hN hE hR Qs) | ((first | refine kN _ ?_ | refine kE _ ?_ | refine kX _ _ rfl ?_ | refine kR _ ?_); try clear kN kE kX kR Qb)) | (refine z0k f1 ?_) | (refine stpQ ?_))
   rw [List.take_length]
   (refine z02 (by rfl) ?_ ?_) <;> (repeat' (first | (exact eqA) | (refine And.intro ?_ ?_) | ((fail_if_success (with_reducible (show _ = _))); (show _ = _)))) <;> rfl
 ·repeat ((try conv => whnf); first | (with_reducible first | refine z0b (fun Qs hN hE hR => ?_) | refine z09 ?_ | refine z03 (fun Qb kN kE kX kR => ?_) | refine z05 ?_ | refine z06 ?_ | refine z0a ?_ | refine z07 ?_ | refine z08 ?_ | (show W _ _ _ (.cond _ _ _) _ _; refine z04 rfl ?_) | (refine hN _ ?_; try clear hN hE hR Qs; (try (conv => arg 6; dsimp only [ovl, List.set, List.map, ren0]))) | ((first | refine hE _ _ ?_ | refine hR _ ?_); try clear hN hE hR Qs) | ((first | refine kN _ ?_ | refine kE _ ?_ | refine kX _ _ rfl ?_ | refine kR _ ?_); try clear kN kE kX kR Qb)) | (refine ccB ([_]) (kd) ?_) | (refine And.intro (by kernel_rfl) ?_) | (refine stpQ ?_))
  (refine z00 (by rfl) ?_ ?_ (by rfl)) <;> (repeat' (first | (exact eqA) | (refine And.intro ?_ ?_) | ((fail_if_success (with_reducible (show _ = _))); (show _ = _)))) <;> first | rfl | exact CvE.refl (zdX _)
end
end Go.Proofs.YtgmbkbggnlponaaGreatDoor
