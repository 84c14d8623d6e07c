/- Functions by content: the program reads complete proofs of good content; its rows are told as rows that may be moved. Functions by content: the program refuses what is no text of a complete proof. -/
import Derived.Test.YtnhcfmmdaihneaaPx
import Derived.Test.YtnhcfmmdaihneaaCda
import Derived.Test.YtnhcfmmdaihneaaGg
import Derived.Test.YtnhcfmmdaihneaaMk
namespace Go.Proofs.Ytnhcfmmdaihneaa
set_option maxRecDepth 100000
set_option maxHeartbeats 8000000
set_option linter.unusedVariables false
set_option linter.unusedSimpArgs false
set_option linter.unusedSectionVars false
open Go.RowKit Pl
theorem cl_lvW (l : List Lf) : ∀ e ∈ lvE l, ∀ c ∈ e, cl0 c := fun e he c hc => by
 simp only [lvE, List.mem_map] at he
 obtain ⟨x, _, rfl⟩ := he
 simp only [List.mem_cons, List.not_mem_nil, or_false] at hc
 rcases hc with rfl | rfl <;> trivial
section
attribute [local irreducible] z0m z0o z0s AnsP LeP W CvE
theorem z3U (t : Bs) (w : Int) (ht : (t.length : Int) ≤ 1000000000) : CT Try.prog 17 [] [.str t, .int .i64 w] (.tup [.agg [.ref 1, .ref 2], .bool (z2t t w).isSome]) [.deep 2 (lvE (z34 (z2t t w)).1) [], .deep 1 (strE (z34 (z2t t w)).2) []] := by
 have c := z7V t w ht
 have c1 := zaR 0 c rfl (by decide) (cl_lvW _)
 have c2 := zaR 1 c1 rfl (by decide) (zd7 _)
 exact c2
theorem z7e (h : Hd) (s : Sg) (g : h.good) (gs : s.good) : CT Try.prog 21 [] [.str (z0F h s)] (.tup [.agg [.int .i64 (h.ho : Int), .int .i64 (h.ep : Int), .str h.ro, .str h.pr, .int .i64 (s.a : Int), .ref 1, .ref 2, .ref 3], .bool true]) [.deep 1 (strE s.op) [], .deep 1 (strE s.sh) [], .deep 1 (strE s.si) []] := by
 have hl : ((z0F h s).length : Int) ≤ 1000000000 := by
  have a := z2c (h := h) gs
  have b := z0x (l := z0E h) (by have := z0B g; omega)
  have c := z0B g
  omega
 have c1 := zbO (z0F h s) 0 h s g gs hl (Nat.zero_le _) rfl
 have c2 := z5n (z0F h s) (z0F h s).length false
 rw [show z2i false (z0F h s).length (z0F h s).length = true by simp [z2i]] at c2
 obtain ⟨ho, ep, ro, pr⟩ := h
 obtain ⟨a, op, sh, si⟩ := s
 dsimp only at c1 ⊢
 generalize z0F ⟨ho, ep, ro, pr⟩ ⟨a, op, sh, si⟩ = t at *
 refine z01 z0y 1 rfl Try.func21 rfl rfl rfl ?_
 conv => arg 6; whnf
 repeat ((try conv => whnf); first | (with_reducible first | refine z0c (fun Qs hN hE hR => ?_) | refine z0a ?_ | refine z02 (fun Qb kN kE kX kR => ?_) | refine z04 ?_ | refine z05 ?_ | refine z0b ?_ | refine z06 ?_ | refine z07 ?_ | (show W _ _ _ (.cond _ _ _) _ _; refine z03 rfl ?_) | (refine hN _ ?_; try clear hN hE hR Qs; (try (conv => arg 6; dsimp only [ovl, List.set, List.map, ren0]))) | ((first | refine hE _ _ ?_ | refine hR _ ?_); try clear hN hE hR Qs) | ((first | refine kN _ ?_ | refine kE _ ?_ | refine kX _ _ rfl ?_ | refine kR _ ?_); try clear kN kE kX kR Qb)) | (refine ccB ([_]) (c1) ?_) | (refine ccB ([_]) (c2) ?_) | (refine And.intro (by kernel_rfl) ?_) | (refine stpQ ?_))
 (refine z00 (by rfl) ?_ ?_ (by rfl)) <;> (repeat' (first | (exact eqA) | (refine shE ?_) | (refine And.intro ?_ ?_))) <;> rfl
theorem z7f (x : Wh) (g : WhGood x) (hpl : (z0f x.B x.S).length ≤ 20000) :
 CT Try.prog 5 [] [.str (z1h x)] (.tup [.agg (whRp x), .bool true]) (whDp x) := by
 have gsl := g.sl
 have gtl := g.tl
 have gtw := g.tw
 have gsh : ∀ i (h : i < x.st.length), x.st[i].1 ≤ 2 ∧ x.st[i].2.good := fun i h => g.sh _ (List.getElem_mem h)
 have ksl := z7e x.hd x.sg g.hd g.sg
 have lsl : (z0F x.hd x.sg).length ≤ 400 := by
  have a := z2c (h := x.hd) g.sg
  have b := z0x (l := z0E x.hd) (by have := z0B g.hd; omega)
  have c := z0B g.hd
  omega
 have e0 : (z1h x).drop 0 = z09 (z0f x.B x.S) ++ (z0d x.T.length ++ (x.T.flatten ++ (z09 (z0F x.hd x.sg) ++ (z0d x.st.length ++ stL (x.st.drop 0))))) := rfl
 have l1 := z0x (l := z0f x.B x.S) (by omega)
 have l2 := z0D (n := x.T.length) (by omega)
 have l3 := z1g gtw
 have l4 := z0x (l := z0F x.hd x.sg) (by omega)
 have l5 := z0D (n := x.st.length) (by omega)
 have l6 := z66 fun y hy => (g.sh y hy).2
 have hlen : (z1h x).length ≤ 30000 := by
  have := congrArg List.length e0
  simp only [List.drop_zero, List.length_append] at this
  omega
 have kpf : CT Try.prog 17 [] [.str (z0f x.B x.S), .int .i64 16] (.tup [.agg [.ref 1, .ref 2], .bool true]) [.deep 2 (lvE x.B) [], .deep 1 (strE x.S) []] := by
  have c := z3U (z0f x.B x.S) 16 (by omega)
  have hi : inB 16 1 32 = true := by decide
  have f : z2t (z0f x.B x.S) 16 = some (x.B, x.S) := by
   show (bif inB 16 1 32 then z21 _ (16 : Int).toNat else none) = _
   rw [hi]
   exact (zau (w := 16) (by omega)).2 ⟨g.pf, rfl⟩
  rw [f] at c
  exact c
 have snx : ∀ i (h : i < x.st.length), stD (x.st.take (i + 1)) = stD (x.st.take i) ++ [[.int .i64 (x.st[i].1 : Int), .int .i64 (x.st[i].2.a : Int), .own 1 (strE x.st[i].2.op), .own 1 (strE x.st[i].2.sh), .own 1 (strE x.st[i].2.si)]] := fun i h => zbG h
 clear g
 obtain ⟨B, S, Tp, hd, sg, st⟩ := x
 unfold whRp whDp
 simp only at gsl gtl gtw gsh ksl lsl e0 l1 l2 l3 l4 l5 l6 hlen kpf hpl snx ⊢
 generalize z1h ⟨B, S, Tp, hd, sg, st⟩ = t at e0 hlen ⊢
 generalize z0f B S = P at e0 l1 kpf hpl
 generalize z0F hd sg = SB at ksl lsl e0 l4
 have ht : (t.length : Int) ≤ 1000000000 := by omega
 have e1 := z0k rfl e0
 have p1 := z0U (by omega) rfl e0
 have e2 := z0k rfl e1
 have p2 := z0U p1 rfl e1
 have e3 := z0k l3 e2
 have p3 := z0U p2 l3 e2
 have e4 := z0k rfl e3
 have p4 := z0U p3 rfl e3
 have e5 := z0k rfl e4
 have p5 := z0U p4 rfl e4
 have c0 := z2n t 0 false ht (by omega)
 rw [z0T hpl e0] at c0
 have c1 := z9q t _ false ht p1
 rw [z1J (by omega) e1] at c1
 have c2 := z1j t _ false Tp.length 16 ht p2 (by omega)
 have d2 := z1t gtw e2
 rw [l3] at d2
 rw [d2] at c2
 have c3 := z2n t _ false ht p3
 rw [z0T (by omega) e3] at c3
 have c4 := z9q t _ false ht p4
 rw [z1J (by omega) e4] at c4
 simp only at c0 c1 c2 c3 c4
 generalize 0 + (z09 P).length + (z0d Tp.length).length + 16 * Tp.length + (z09 SB).length + (z0d st.length).length = q5 at c4 e5 p5
 generalize 0 + (z09 P).length + (z0d Tp.length).length + 16 * Tp.length + (z09 SB).length = q4 at c3 c4
 generalize 0 + (z09 P).length + (z0d Tp.length).length + 16 * Tp.length = q3 at c2 c3
 generalize 0 + (z09 P).length + (z0d Tp.length).length = q2 at c1 c2
 generalize 0 + (z09 P).length = q1 at c0 c1
 have hdr : ∀ i, i ≤ st.length → t.drop (q5 + 322 * i) = stL (st.drop i) ∧ q5 + 322 * i ≤ t.length := by
  intro i
  induction i with
  | zero => intro _; exact ⟨e5, by omega⟩
  | succ i ih =>
    intro hi
    obtain ⟨a, b⟩ := ih (by omega)
    rw [zcd (by omega)] at a
    have hs := z1F (gsh i (by omega)).2
    have f1 := z0k rfl a
    have g1 := z0U b rfl a
    have f2 := z0k hs f1
    have g2 := z0U g1 hs f1
    simp only [List.length_cons, List.length_nil, Nat.zero_add] at f2 g2
    exact ⟨by rw [show q5 + 322 * (i + 1) = q5 + 322 * i + 1 + 321 by omega]; exact f2, by omega⟩
 have sok : ∀ i (h : i < st.length), ∃ q',
  CT Try.prog 22 [fldB t (q5 + 322 * i) false] [.ptr 1 0 0] (.int .i64 (st[i].1 : Int)) [fldB t q' false] ∧
  CT Try.prog 23 [fldB t q' false] [.ptr 1 0 0] (.agg [.int .i64 (st[i].2.a : Int), .ref 2, .ref 3, .ref 4]) [fldB t (q5 + 322 * (i + 1)) false, .deep 1 (strE st[i].2.op) [], .deep 1 (strE st[i].2.sh) [], .deep 1 (strE st[i].2.si) []] := fun i h => by
  obtain ⟨hb, hs⟩ := gsh i h
  obtain ⟨f0, hq⟩ := hdr i (by omega)
  rw [zcd h] at f0
  have f1 := z0k rfl f0
  have hq1 := z0U hq rfl f0
  simp only [List.length_cons, List.length_nil, Nat.zero_add] at f1 hq1
  have a1 := zaP t (q5 + 322 * i) st[i].1 _ ht hq (by omega) f0
  have a2 := zcf t (q5 + 322 * i + 1) st[i].2 _ hs ht hq1 f1
  rw [show q5 + 322 * i + 1 + 321 = q5 + 322 * (i + 1) by omega] at a2
  exact ⟨_, a1, a2⟩
 have kd := z5n t (q5 + 322 * st.length) false
 have hend : q5 + 322 * st.length = t.length := by
  obtain ⟨a, b⟩ := hdr st.length (Nat.le_refl _)
  rw [List.drop_length] at a
  have := congrArg List.length a
  simp only [List.length_drop, stL, List.length_nil] at this
  omega
 rw [show z2i false (q5 + 322 * st.length) t.length = true by rw [hend]; simp [z2i]] at kd
 have hstl : ∀ k, (stD (st.take k)).length ≤ st.length := fun k => by rw [zaK, List.length_take]; omega
 have hsE : stD (st.take st.length) = stD st := by rw [List.take_length]
 have hs0 : stD (st.take 0) = [] := rfl
 have hgt : ¬ (Tp.length : Int) > 2 := by omega
 have hgm : ¬ (st.length : Int) > 3 := by omega
 clear e0 e1 e2 e3 e4 e5 p1 p2 p3 p4 p5 l1 l2 l3 l4 l5 l6 d2 lsl hpl hdr hend
 obtain ⟨ho, ep, ro, pr⟩ := hd
 obtain ⟨sa, so, ss, si⟩ := sg
 dsimp only at ksl ⊢
 unfold fldB at *
 refine z01 z0y 1 rfl Try.func5 rfl rfl rfl ?_
 conv => arg 6; whnf
 repeat ((try conv => whnf); first | (with_reducible first | refine z0c (fun Qs hN hE hR => ?_) | refine z0a ?_ | refine z02 (fun Qb kN kE kX kR => ?_) | refine z04 ?_ | refine z05 ?_ | refine z0b ?_ | refine z06 ?_ | refine z07 ?_ | (show W _ _ _ (.cond _ _ _) _ _; refine z03 rfl ?_) | (refine hN _ ?_; try clear hN hE hR Qs; (try (conv => arg 6; dsimp only [ovl, List.set, List.map, ren0]))) | ((first | refine hE _ _ ?_ | refine hR _ ?_); try clear hN hE hR Qs) | ((first | refine kN _ ?_ | refine kE _ ?_ | refine kX _ _ rfl ?_ | refine kR _ ?_); try clear kN kE kX kR Qb)) | (refine ccB ([_]) (c0) ?_) | (refine ccA ([]) (kpf) ?_) | (refine ccB ([_]) (c1) ?_) | (refine ccB ([_]) (c2) ?_) | (refine ccB ([_]) (c3) ?_) | (refine ccA ([]) (ksl) ?_) | (refine ccB ([_]) (c4) ?_) | (refine z0z hgt ?_) | (refine z0z hgm ?_) | (refine And.intro (by kernel_rfl) ?_) | (refine stpQ ?_))
 refine z1r 0 ⟨[(2, .ptr 1 0 0), (4, .ptr 2 0 0), (5, .ptr 3 0 0), (6, .bool true), (7, .bool true)], [(1, some (.box [.val nilV, .val nilV, .val nilV, .int .i64 0, .int .i64 0, .str [], .str [], .int .i64 0, .val nilV, .val nilV, .val nilV, .val nilV])), (2, some (.box [.str t, .int .i64 ((q5 + 322 * st.length : Nat) : Int), .bool false])), (3, some (.box [.ref 4, .ref 5, .ref 6, .int .i64 (ho : Int), .int .i64 (ep : Int), .str ro, .str pr, .int .i64 (sa : Int), .ref 7, .ref 8, .ref 9, .ref 10])), (4, some (.deep 2 (lvE B) [])), (5, some (.deep 1 (strE S) [])), (6, some (.row 1 (strE Tp))), (7, some (.deep 1 (strE so) [])), (8, some (.deep 1 (strE ss) [])), (9, some (.deep 1 (strE si) [])), (10, some (.deep 5 (stD st) []))], 11⟩ Nat
  (fun k => ⟨[(2, .ptr 1 0 0), (4, .ptr 2 0 0), (5, .ptr 3 0 0), (6, .bool true), (7, .bool true), (36, .int .i64 (st.length : Int)), (37, .int .i64 (k : Int))], [(1, some (.box [.val nilV, .val nilV, .val nilV, .int .i64 0, .int .i64 0, .str [], .str [], .int .i64 0, .val nilV, .val nilV, .val nilV, .val nilV])), (2, some (.box [.str t, .int .i64 ((q5 + 322 * k : Nat) : Int), .bool false])), (3, some (.box [.ref 4, .ref 5, .ref 6, .int .i64 (ho : Int), .int .i64 (ep : Int), .str ro, .str pr, .int .i64 (sa : Int), .ref 7, .ref 8, .ref 9, .ref 10])), (4, some (.deep 2 (lvE B) [])), (5, some (.deep 1 (strE S) [])), (6, some (.row 1 (strE Tp))), (7, some (.deep 1 (strE so) [])), (8, some (.deep 1 (strE ss) [])), (9, some (.deep 1 (strE si) [])), (10, some (.deep 5 (stD (st.take k)) []))], 11⟩) (fun k => k ≤ st.length) (fun k => st.length - k) 0 (by omega) ?_ ?_ ?_
 ·(refine z08 (by rfl) ?_ ?_) <;> (repeat' (first | (exact eqA) | (refine shE ?_) | (refine And.intro ?_ ?_))) <;> first | rfl | decide
 ·intro k hk
  have hln := hstl k
  by_cases hlt : k < st.length
  ·have f1 : (k : Int) < ((st.length : Nat) : Int) := by omega
   obtain ⟨q', a1, a2⟩ := sok k hlt
   obtain ⟨hb, gs⟩ := gsh k hlt
   have hx := snx k hlt
   have a3 := z5p (n := (st[k].1 : Int)) (by omega)
   have a4 := z7d st[k].2 gs
   generalize st[k].1 = b at *
   generalize st[k].2 = s at *
   obtain ⟨s1, s2, s3, s4⟩ := s
   dsimp only at *
   generalize stD (st.take k) = o at hln hx ⊢
   generalize hqn : q5 + 322 * (k + 1) = qn at *
   generalize q5 + 322 * k = qk at *
   repeat ((try conv => whnf); first | (with_reducible first | refine z0c (fun Qs hN hE hR => ?_) | refine z0a ?_ | refine z02 (fun Qb kN kE kX kR => ?_) | refine z04 ?_ | refine z05 ?_ | refine z0b ?_ | refine z06 ?_ | refine z07 ?_ | (show W _ _ _ (.cond _ _ _) _ _; refine z03 rfl ?_) | (refine hN _ ?_; try clear hN hE hR Qs; (try (conv => arg 6; dsimp only [ovl, List.set, List.map, ren0]))) | ((first | refine hE _ _ ?_ | refine hR _ ?_); try clear hN hE hR Qs) | ((first | refine kN _ ?_ | refine kE _ ?_ | refine kX _ _ rfl ?_ | refine kR _ ?_); try clear kN kE kX kR Qb)) | (refine z0Q f1 ?_) | (refine ccB ([_]) (a1) ?_) | (refine ccB ([_]) (a2) ?_) | (refine ccA ([]) (a3) ?_) | (refine ccA ([]) (a4) ?_) | (refine And.intro (by simp only [List.length_append, List.length_cons, List.length_nil, List.length_set, List.length_replicate]; omega) ?_) | (refine And.intro (by kernel_rfl) ?_) | (refine stpQ ?_))
   refine ⟨k + 1, by omega, by omega, ?_⟩
   rw [hx]
   (refine z08 (by rfl) ?_ ?_) <;> (repeat' (first | (exact eqA) | (refine shE ?_) | (refine And.intro ?_ ?_))) <;> first | rfl | (subst hqn; rfl)
  ·obtain rfl : k = st.length := by omega
   have f1 : ¬ ((st.length : Nat) : Int) < ((st.length : Nat) : Int) := by omega
   repeat ((try conv => whnf); first | (with_reducible first | refine z0c (fun Qs hN hE hR => ?_) | refine z0a ?_ | refine z02 (fun Qb kN kE kX kR => ?_) | refine z04 ?_ | refine z05 ?_ | refine z0b ?_ | refine z06 ?_ | refine z07 ?_ | (show W _ _ _ (.cond _ _ _) _ _; refine z03 rfl ?_) | (refine hN _ ?_; try clear hN hE hR Qs; (try (conv => arg 6; dsimp only [ovl, List.set, List.map, ren0]))) | ((first | refine hE _ _ ?_ | refine hR _ ?_); try clear hN hE hR Qs) | ((first | refine kN _ ?_ | refine kE _ ?_ | refine kX _ _ rfl ?_ | refine kR _ ?_); try clear kN kE kX kR Qb)) | (refine z0z f1 ?_) | (refine stpQ ?_))
   rw [List.take_length]
   (refine z08 (by rfl) ?_ ?_) <;> (repeat' (first | (exact eqA) | (refine shE ?_) | (refine And.intro ?_ ?_))) <;> rfl
 ·repeat ((try conv => whnf); first | (with_reducible first | refine z0c (fun Qs hN hE hR => ?_) | refine z0a ?_ | refine z02 (fun Qb kN kE kX kR => ?_) | refine z04 ?_ | refine z05 ?_ | refine z0b ?_ | refine z06 ?_ | refine z07 ?_ | (show W _ _ _ (.cond _ _ _) _ _; refine z03 rfl ?_) | (refine hN _ ?_; try clear hN hE hR Qs; (try (conv => arg 6; dsimp only [ovl, List.set, List.map, ren0]))) | ((first | refine hE _ _ ?_ | refine hR _ ?_); try clear hN hE hR Qs) | ((first | refine kN _ ?_ | refine kE _ ?_ | refine kX _ _ rfl ?_ | refine kR _ ?_); try clear kN kE kX kR Qb)) | (refine ccB ([_]) (kd) ?_) | (refine And.intro (by kernel_rfl) ?_) | (refine stpQ ?_))
  (refine z00 (by rfl) ?_ ?_ (by rfl)) <;> (repeat' (first | (exact eqA) | (refine shE ?_) | (refine And.intro ?_ ?_))) <;> first | rfl | exact CvE.refl (zd7 _)
end
end Go.Proofs.Ytnhcfmmdaihneaa
namespace Go.Proofs.Ytnhcfmmdaihneaa
set_option maxRecDepth 100000
set_option maxHeartbeats 16000000
set_option linter.unusedVariables false
set_option linter.unusedSimpArgs false
set_option linter.unusedSectionVars false
open Go.RowKit Pl
section
attribute [local irreducible] z0m z0o z0s AnsP LeP W CvE
theorem z87 (t : Bs) (ht : t.length ≤ 1000000) : ∃ (ho ep : Int) (ro pr : Bs) (a : Int) (op sh si : List Bs) (two : Bool), (two = true → ∃ h s, h.good ∧ s.good ∧ t = z0F h s) ∧
 CT Try.prog 21 [] [.str t] (.tup [.agg [.int .i64 ho, .int .i64 ep, .str ro, .str pr, .int .i64 a, .sl 1 (strE op), .sl 1 (strE sh), .sl 1 (strE si)], .bool two]) [] := by
 cases hr : z0R t with
 | some x =>
   obtain ⟨h, s⟩ := x
   obtain ⟨g, gs, e⟩ := z2d.1 hr
   refine ⟨(h.ho : Int), (h.ep : Int), h.ro, h.pr, (s.a : Int), s.op, s.sh, s.si, true, fun _ => ⟨h, s, g, gs, e⟩, ?_⟩
   subst e
   exact z9x h s g gs
 | none =>
   obtain ⟨ho, ep, ro, pr, a, op, sh, si, q, b', hd, c1⟩ := zd5 t 0 false (by omega) (Nat.zero_le _) (fun _ => by rw [List.drop_zero]; exact hr)
   have c2 := z5n t q b'
   rw [hd] at c2
   refine ⟨0, 0, [], [], 0, [], [], [], false, (fun h => by cases h), ?_⟩
   change CT Try.prog 55 [fldB t 0 false] [.ptr 1 0 0] (.agg [.int .i64 ho, .int .i64 ep, .str ro, .str pr, .int .i64 a, .sl 1 (strE op), .sl 1 (strE sh), .sl 1 (strE si)]) [fldB t q b'] at c1
   unfold fldB at c1 c2
   refine z01 z0y 1 rfl Try.func21 rfl rfl rfl ?_
   conv => arg 6; whnf
   repeat ((try conv => whnf); first | (with_reducible first | refine z0c (fun Qs hN hE hR => ?_) | refine z0a ?_ | refine z02 (fun Qb kN kE kX kR => ?_) | refine z04 ?_ | refine z05 ?_ | refine z0b ?_ | refine z06 ?_ | refine z07 ?_ | (show W _ _ _ (.cond _ _ _) _ _; refine z03 rfl ?_) | (refine hN _ ?_; try clear hN hE hR Qs; (try (conv => arg 6; dsimp only [ovl, List.set, List.map, ren0]))) | ((first | refine hE _ _ ?_ | refine hR _ ?_); try clear hN hE hR Qs) | ((first | refine kN _ ?_ | refine kE _ ?_ | refine kX _ _ rfl ?_ | refine kR _ ?_); try clear kN kE kX kR Qb)) | (refine ccB ([_]) (c1) ?_) | (refine ccB ([_]) (c2) ?_) | (refine And.intro (by kernel_rfl) ?_) | (refine stpQ ?_))
   (refine z00 (by rfl) ?_ ?_ (by rfl)) <;> (repeat' (first | (exact eqA) | (refine shE ?_) | (refine And.intro ?_ ?_))) <;> rfl
theorem z7g (t : Bs) (ht : (t.length : Int) ≤ 1000000000) : ∃ (one : Bool) (B : List Lf) (S : List Bs), (one = true → z0u B S 16 = true ∧ t = z0f B S) ∧
 CT Try.prog 17 [] [.str t, .int .i64 16] (.tup [.agg [.ref 1, .ref 2], .bool one]) [.deep 2 (lvE B) [], .deep 1 (strE S) []] := by
 refine ⟨_, _, _, ?_, z3U t 16 ht⟩
 intro h
 have hi : inB 16 1 32 = true := by decide
 have e : z2t t 16 = z21 t 16 := by
  show (bif inB 16 1 32 then z21 _ (16 : Int).toNat else none) = _
  rw [hi]; rfl
 rw [e] at h ⊢
 cases hr : z21 t 16 with
 | none => rw [hr] at h; cases h
 | some x =>
   obtain ⟨l, s⟩ := x
   exact (zau (w := 16) (by omega)).1 hr
theorem zbP (t : Bs) (q : Nat) (b : Bool) (ht : (t.length : Int) ≤ 1000000000) (hq : q ≤ t.length) : ∃ (a : Nat) (q' : Nat) (b' : Bool) (a' : Int) (op sh si : List Bs) (q2 : Nat) (b2 : Bool) (ih fm : Bool), q2 ≤ t.length ∧
 CT Try.prog 22 [fldB t q b] [.ptr 1 0 0] (.int .i64 (a : Int)) [fldB t q' b'] ∧
 CT Try.prog 23 [fldB t q' b'] [.ptr 1 0 0] (.agg [.int .i64 a', .sl 1 (strE op), .sl 1 (strE sh), .sl 1 (strE si)]) [fldB t q2 b2] ∧
 CT Try.prog 24 [] [.int .i64 (a : Int)] (.bool ih) [] ∧
 CT Try.prog 25 [] [.agg [.int .i64 a', .sl 1 (strE op), .sl 1 (strE sh), .sl 1 (strE si)]] (.bool fm) [] ∧
 (b2 = false → ih = true → fm = true → b = false ∧ ∃ s : Sg, s.good ∧ a ≤ 2 ∧ [T.int .i64 a', .sl 1 (strE op), .sl 1 (strE sh), .sl 1 (strE si)] = sgE s ∧ t.drop q = UInt8.ofNat a :: (sigB s ++ t.drop q2)) := by
 have c1 := z8V t q b ht hq
 have l1 := z3n (t := t) (p := q) (b := b) hq
 rcases hO : z0S t q b with ⟨a, q', b'⟩
 rw [hO] at c1 l1
 simp only at c1 l1
 obtain ⟨x, op, sh, si, q2, b2, ⟨m1, m2, m3, m4⟩, hok, c2⟩ := zce t q' b' ht l1.1
 have c4 := z7c (x : Int) op sh si (by omega) (by omega) (by omega)
 refine ⟨a, q', b', (x : Int), op, sh, si, q2, b2, inB (a : Int) 0 2, z36 (x : Int) op sh si, m4, c1, c2, z4J _, c4, fun h1 h2 h3 => ?_⟩
 obtain ⟨e1, s, gs, es, ed⟩ := hok h1 h3
 subst e1
 obtain ⟨e2, e3, y, e4, e5⟩ := z3o hO
 have h2' := z12.1 h2
 refine ⟨e2, s, gs, by omega, es.symm, ?_⟩
 rw [e5, ed, ← e4]
 simp
theorem z7h (t : Bs) (ht : t.length ≤ 100000000) (hn : ∀ x, WhGood x → t ≠ z1h x) :
 CT Try.prog 5 [] [.str t] (.tup [.agg [.ref 1, .ref 2, .ref 3, .int .i64 0, .int .i64 0, .str [], .str [], .int .i64 0, .ref 4, .ref 5, .ref 6, .ref 7], .bool false]) [.deep 2 [] [], .deep 1 [] [], .deep 1 [] [], .deep 1 [] [], .deep 1 [] [], .deep 1 [] [], .deep 5 [] []] := by
 have ht' : (t.length : Int) ≤ 1000000000 := by omega
 have c0 := z2n t 0 false ht' (Nat.zero_le _)
 have l0 := z0Y (t := t) (p := 0) (bad := false) (Nat.zero_le _)
 rcases hS0 : z0p t 0 false with ⟨pb, q1, b1⟩
 rw [hS0] at c0 l0
 simp only at c0 l0
 obtain ⟨one, B, S, hone, kpf⟩ := z7g pb (by omega)
 have c1 := z9q t q1 b1 ht' l0.1
 have l1 := z1X (t := t) (p := q1) (bad := b1) l0.1
 rcases hN1 : z1G t q1 b1 with ⟨n, q2, b2⟩
 rw [hN1] at c1 l1
 simp only at c1 l1
 by_cases hgt : (n : Int) > 2
 ·clear hS0 hN1 hn hone
  unfold fldB at *
  refine z01 z0y 1 rfl Try.func5 rfl rfl rfl ?_
  conv => arg 6; whnf
  repeat ((try conv => whnf); first | (with_reducible first | refine z0c (fun Qs hN hE hR => ?_) | refine z0a ?_ | refine z02 (fun Qb kN kE kX kR => ?_) | refine z04 ?_ | refine z05 ?_ | refine z0b ?_ | refine z06 ?_ | refine z07 ?_ | (show W _ _ _ (.cond _ _ _) _ _; refine z03 rfl ?_) | (refine hN _ ?_; try clear hN hE hR Qs; (try (conv => arg 6; dsimp only [ovl, List.set, List.map, ren0]))) | ((first | refine hE _ _ ?_ | refine hR _ ?_); try clear hN hE hR Qs) | ((first | refine kN _ ?_ | refine kE _ ?_ | refine kX _ _ rfl ?_ | refine kR _ ?_); try clear kN kE kX kR Qb)) | (refine ccB ([_]) (c0) ?_) | (refine ccA ([]) (kpf) ?_) | (refine ccB ([_]) (c1) ?_) | (refine z0Q hgt ?_) | (refine And.intro (by kernel_rfl) ?_) | (refine stpQ ?_))
  (refine z00 (by rfl) ?_ ?_ (by rfl)) <;> (repeat' (first | (exact eqA) | (refine shE ?_) | (refine And.intro ?_ ?_))) <;> first | rfl | decide
 have c2 := z1j t q2 b2 n 16 ht' l1.1 (by omega)
 have l2 := z3s (t := t) (w := 16) (n := n) (p := q2) (b := b2) l1.1
 rcases hH : z1l t 16 n q2 b2 with ⟨Tp, q3, b3⟩
 rw [hH] at c2 l2
 simp only at c2 l2
 have c3 := z2n t q3 b3 ht' l2
 have l3 := z0Y (t := t) (p := q3) (bad := b3) l2
 rcases hS3 : z0p t q3 b3 with ⟨sb, q4, b4⟩
 rw [hS3] at c3 l3
 simp only at c3 l3
 obtain ⟨ho, ep, ro, pr, sa, so, ss, si, two, htwo, ksl⟩ := z87 sb (by omega)
 have c4 := z9q t q4 b4 ht' l3.1
 have l4 := z1X (t := t) (p := q4) (bad := b4) l3.1
 rcases hN4 : z1G t q4 b4 with ⟨m, q5, b5⟩
 rw [hN4] at c4 l4
 simp only at c4 l4
 by_cases hgm : (m : Int) > 3
 ·clear hS0 hN1 hH hS3 hN4 hn hone htwo
  unfold fldB at *
  refine z01 z0y 1 rfl Try.func5 rfl rfl rfl ?_
  conv => arg 6; whnf
  repeat ((try conv => whnf); first | (with_reducible first | refine z0c (fun Qs hN hE hR => ?_) | refine z0a ?_ | refine z02 (fun Qb kN kE kX kR => ?_) | refine z04 ?_ | refine z05 ?_ | refine z0b ?_ | refine z06 ?_ | refine z07 ?_ | (show W _ _ _ (.cond _ _ _) _ _; refine z03 rfl ?_) | (refine hN _ ?_; try clear hN hE hR Qs; (try (conv => arg 6; dsimp only [ovl, List.set, List.map, ren0]))) | ((first | refine hE _ _ ?_ | refine hR _ ?_); try clear hN hE hR Qs) | ((first | refine kN _ ?_ | refine kE _ ?_ | refine kX _ _ rfl ?_ | refine kR _ ?_); try clear kN kE kX kR Qb)) | (refine ccB ([_]) (c0) ?_) | (refine ccA ([]) (kpf) ?_) | (refine ccB ([_]) (c1) ?_) | (refine ccB ([_]) (c2) ?_) | (refine ccB ([_]) (c3) ?_) | (refine ccA ([]) (ksl) ?_) | (refine ccB ([_]) (c4) ?_) | (refine z0z hgt ?_) | (refine z0Q hgm ?_) | (refine And.intro (by kernel_rfl) ?_) | (refine stpQ ?_))
  (refine z00 (by rfl) ?_ ?_ (by rfl)) <;> (repeat' (first | (exact eqA) | (refine shE ?_) | (refine And.intro ?_ ?_))) <;> first | rfl | decide
 have fin : ∀ (q : Nat) (b : Bool) (st : List (Nat × Sg)), st.length = m → (∀ y ∈ st, y.1 ≤ 2 ∧ y.2.good) → (b = false → b5 = false ∧ t.drop q5 = stL st ++ t.drop q) → z2i b q t.length = true → one = true → two = true → False := by
  intro q b st hst hgs hb hd h1 h2
  simp only [z2i, Bool.and_eq_true, Bool.not_eq_true', beq_iff_eq] at hd
  obtain ⟨rfl, rfl⟩ := hd
  obtain ⟨e5, d5⟩ := hb rfl
  subst e5
  obtain ⟨e4, _, d4, _⟩ := z3m hN4
  subst e4
  obtain ⟨e3, _, d3, _⟩ := z1z hS3
  subst e3
  obtain ⟨e2, n2, w2, _, d2⟩ := z28 hH l1.1
  subst e2
  obtain ⟨e1, _, d1, _⟩ := z3m hN1
  subst e1
  obtain ⟨_, _, d0, _⟩ := z1z hS0
  obtain ⟨p1, p2⟩ := hone h1
  obtain ⟨h, s, g, gs, p3⟩ := htwo h2
  refine hn ⟨B, S, Tp, h, s, st⟩ ⟨p1, by simp only; omega, w2, g, gs, by simp only; omega, hgs⟩ ?_
  rw [List.drop_length, List.append_nil] at d5
  rw [List.drop_zero] at d0
  rw [z1h]
  simp only
  rw [d0, d1, d2, d3, d4, d5, hst, n2, p2, p3]
 clear hS0 hN1 hH hS3 hN4 hn hone htwo
 unfold fldB at *
 refine z01 z0y 1 rfl Try.func5 rfl rfl rfl ?_
 conv => arg 6; whnf
 repeat ((try conv => whnf); first | (with_reducible first | refine z0c (fun Qs hN hE hR => ?_) | refine z0a ?_ | refine z02 (fun Qb kN kE kX kR => ?_) | refine z04 ?_ | refine z05 ?_ | refine z0b ?_ | refine z06 ?_ | refine z07 ?_ | (show W _ _ _ (.cond _ _ _) _ _; refine z03 rfl ?_) | (refine hN _ ?_; try clear hN hE hR Qs; (try (conv => arg 6; dsimp only [ovl, List.set, List.map, ren0]))) | ((first | refine hE _ _ ?_ | refine hR _ ?_); try clear hN hE hR Qs) | ((first | refine kN _ ?_ | refine kE _ ?_ | refine kX _ _ rfl ?_ | refine kR _ ?_); try clear kN kE kX kR Qb)) | (refine ccB ([_]) (c0) ?_) | (refine ccA ([]) (kpf) ?_) | (refine ccB ([_]) (c1) ?_) | (refine ccB ([_]) (c2) ?_) | (refine ccB ([_]) (c3) ?_) | (refine ccA ([]) (ksl) ?_) | (refine ccB ([_]) (c4) ?_) | (refine z0z hgt ?_) | (refine z0z hgm ?_) | (refine And.intro (by kernel_rfl) ?_) | (refine stpQ ?_))
 refine z3N (Nat × Nat × Bool × List (Nat × Sg)) (fun x => ⟨[(2, .ptr 1 0 0), (4, .ptr 2 0 0), (5, .ptr 3 0 0), (6, .bool one), (7, .bool two), (36, .int .i64 (m : Int)), (37, .int .i64 (x.1 : Int))], [(1, some (.box [.val nilV, .val nilV, .val nilV, .int .i64 0, .int .i64 0, .str [], .str [], .int .i64 0, .val nilV, .val nilV, .val nilV, .val nilV])), (2, some (.box [.str t, .int .i64 (x.2.1 : Int), .bool x.2.2.1])), (3, some (.box [.ref 4, .ref 5, .ref 6, .int .i64 ho, .int .i64 ep, .str ro, .str pr, .int .i64 sa, .sl 1 (strE so), .sl 1 (strE ss), .sl 1 (strE si), .ref 7])), (4, some (.deep 2 (lvE B) [])), (5, some (.deep 1 (strE S) [])), (6, some (.row 1 (strE Tp))), (7, some (.row 5 (stE x.2.2.2)))], 8⟩) (fun x => x.1 ≤ m ∧ x.2.2.2.length = x.1 ∧ x.2.1 ≤ t.length ∧ (∀ y ∈ x.2.2.2, y.1 ≤ 2 ∧ y.2.good) ∧ (x.2.2.1 = false → b5 = false ∧ t.drop q5 = stL x.2.2.2 ++ t.drop x.2.1)) (fun x => m - x.1) (0, q5, b5, []) ⟨Nat.zero_le _, rfl, l4.1, (fun y hy => by cases hy), fun h => ⟨h, rfl⟩⟩ ?_ ?_
 ·(refine z08 (by rfl) ?_ ?_)
  all_goals (repeat' (first | (exact trivial) | ((try conv => whnf); first | (exact trivial) | (refine And.intro ?_ ?_))))
  all_goals first
   | rfl
   | decide
 ·intro Q1 hQ1 x hx
  obtain ⟨k, q, b, st⟩ := x
  obtain ⟨hk, hl, hq, hg, hb⟩ := hx
  dsimp only at hk hl hq hg hb ⊢
  by_cases hlt : k < m
  ·have f1 : (k : Int) < ((m : Nat) : Int) := by omega
   obtain ⟨a, q', b', a', op, sh, sj, q2', b2', ih, fm, m4, a1, a2, a3, a4, hok⟩ := zbP t q b ht' hq
   unfold fldB at a1 a2
   have hsl := z7Y st
   cases b2' with
   | true =>
     clear hok fin
     repeat ((try conv => whnf); first | (with_reducible first | refine z0c (fun Qs hN hE hR => ?_) | refine z0a ?_ | refine z02 (fun Qb kN kE kX kR => ?_) | refine z04 ?_ | refine z05 ?_ | refine z0b ?_ | refine z06 ?_ | refine z07 ?_ | (show W _ _ _ (.cond _ _ _) _ _; refine z03 rfl ?_) | (refine hN _ ?_; try clear hN hE hR Qs; (try (conv => arg 6; dsimp only [ovl, List.set, List.map, ren0]))) | ((first | refine hE _ _ ?_ | refine hR _ ?_); try clear hN hE hR Qs) | ((first | refine kN _ ?_ | refine kE _ ?_ | refine kX _ _ rfl ?_ | refine kR _ ?_); try clear kN kE kX kR Qb)) | (refine z0Q f1 ?_) | (refine ccB ([_]) (a1) ?_) | (refine ccB ([_]) (a2) ?_) | (refine ccA ([]) (a3) ?_) | (refine ccA ([]) (a4) ?_) | (refine And.intro (by kernel_rfl) ?_) | (refine stpQ ?_))
     refine hQ1 _ _ ?_
     clear hQ1 Q1
     repeat ((try conv => whnf); first | (with_reducible first | refine z0c (fun Qs hN hE hR => ?_) | refine z0a ?_ | refine z02 (fun Qb kN kE kX kR => ?_) | refine z04 ?_ | refine z05 ?_ | refine z0b ?_ | refine z06 ?_ | refine z07 ?_ | (show W _ _ _ (.cond _ _ _) _ _; refine z03 rfl ?_) | (refine hN _ ?_; try clear hN hE hR Qs; (try (conv => arg 6; dsimp only [ovl, List.set, List.map, ren0]))) | ((first | refine hE _ _ ?_ | refine hR _ ?_); try clear hN hE hR Qs) | ((first | refine kN _ ?_ | refine kE _ ?_ | refine kX _ _ rfl ?_ | refine kR _ ?_); try clear kN kE kX kR Qb)) | (refine And.intro (by kernel_rfl) ?_) | (refine stpQ ?_))
     (refine z00 (by rfl) ?_ ?_ (by rfl)) <;> (repeat' (first | (exact eqA) | (refine shE ?_) | (refine And.intro ?_ ?_))) <;> first | rfl | decide
   | false =>
     cases ih with
     | false =>
       clear hok fin
       repeat ((try conv => whnf); first | (with_reducible first | refine z0c (fun Qs hN hE hR => ?_) | refine z0a ?_ | refine z02 (fun Qb kN kE kX kR => ?_) | refine z04 ?_ | refine z05 ?_ | refine z0b ?_ | refine z06 ?_ | refine z07 ?_ | (show W _ _ _ (.cond _ _ _) _ _; refine z03 rfl ?_) | (refine hN _ ?_; try clear hN hE hR Qs; (try (conv => arg 6; dsimp only [ovl, List.set, List.map, ren0]))) | ((first | refine hE _ _ ?_ | refine hR _ ?_); try clear hN hE hR Qs) | ((first | refine kN _ ?_ | refine kE _ ?_ | refine kX _ _ rfl ?_ | refine kR _ ?_); try clear kN kE kX kR Qb)) | (refine z0Q f1 ?_) | (refine ccB ([_]) (a1) ?_) | (refine ccB ([_]) (a2) ?_) | (refine ccA ([]) (a3) ?_) | (refine ccA ([]) (a4) ?_) | (refine And.intro (by kernel_rfl) ?_) | (refine stpQ ?_))
       refine hQ1 _ _ ?_
       clear hQ1 Q1
       repeat ((try conv => whnf); first | (with_reducible first | refine z0c (fun Qs hN hE hR => ?_) | refine z0a ?_ | refine z02 (fun Qb kN kE kX kR => ?_) | refine z04 ?_ | refine z05 ?_ | refine z0b ?_ | refine z06 ?_ | refine z07 ?_ | (show W _ _ _ (.cond _ _ _) _ _; refine z03 rfl ?_) | (refine hN _ ?_; try clear hN hE hR Qs; (try (conv => arg 6; dsimp only [ovl, List.set, List.map, ren0]))) | ((first | refine hE _ _ ?_ | refine hR _ ?_); try clear hN hE hR Qs) | ((first | refine kN _ ?_ | refine kE _ ?_ | refine kX _ _ rfl ?_ | refine kR _ ?_); try clear kN kE kX kR Qb)) | (refine And.intro (by kernel_rfl) ?_) | (refine stpQ ?_))
       (refine z00 (by rfl) ?_ ?_ (by rfl)) <;> (repeat' (first | (exact eqA) | (refine shE ?_) | (refine And.intro ?_ ?_))) <;> first | rfl | decide
     | true =>
       cases fm with
       | false =>
         clear hok fin
         repeat ((try conv => whnf); first | (with_reducible first | refine z0c (fun Qs hN hE hR => ?_) | refine z0a ?_ | refine z02 (fun Qb kN kE kX kR => ?_) | refine z04 ?_ | refine z05 ?_ | refine z0b ?_ | refine z06 ?_ | refine z07 ?_ | (show W _ _ _ (.cond _ _ _) _ _; refine z03 rfl ?_) | (refine hN _ ?_; try clear hN hE hR Qs; (try (conv => arg 6; dsimp only [ovl, List.set, List.map, ren0]))) | ((first | refine hE _ _ ?_ | refine hR _ ?_); try clear hN hE hR Qs) | ((first | refine kN _ ?_ | refine kE _ ?_ | refine kX _ _ rfl ?_ | refine kR _ ?_); try clear kN kE kX kR Qb)) | (refine z0Q f1 ?_) | (refine ccB ([_]) (a1) ?_) | (refine ccB ([_]) (a2) ?_) | (refine ccA ([]) (a3) ?_) | (refine ccA ([]) (a4) ?_) | (refine And.intro (by kernel_rfl) ?_) | (refine stpQ ?_))
         refine hQ1 _ _ ?_
         clear hQ1 Q1
         repeat ((try conv => whnf); first | (with_reducible first | refine z0c (fun Qs hN hE hR => ?_) | refine z0a ?_ | refine z02 (fun Qb kN kE kX kR => ?_) | refine z04 ?_ | refine z05 ?_ | refine z0b ?_ | refine z06 ?_ | refine z07 ?_ | (show W _ _ _ (.cond _ _ _) _ _; refine z03 rfl ?_) | (refine hN _ ?_; try clear hN hE hR Qs; (try (conv => arg 6; dsimp only [ovl, List.set, List.map, ren0]))) | ((first | refine hE _ _ ?_ | refine hR _ ?_); try clear hN hE hR Qs) | ((first | refine kN _ ?_ | refine kE _ ?_ | refine kX _ _ rfl ?_ | refine kR _ ?_); try clear kN kE kX kR Qb)) | (refine And.intro (by kernel_rfl) ?_) | (refine stpQ ?_))
         (refine z00 (by rfl) ?_ ?_ (by rfl)) <;> (repeat' (first | (exact eqA) | (refine shE ?_) | (refine And.intro ?_ ?_))) <;> first | rfl | decide
       | true =>
         obtain ⟨eb, s, gs, ha, hs, hdr⟩ := hok rfl rfl rfl
         obtain ⟨sx, s1, s2, s3⟩ := s
         have happ := zd1 st (a, ⟨sx, s1, s2, s3⟩)
         unfold sgE at hs happ
         simp only [List.cons.injEq, T.int.injEq, T.sl.injEq, true_and, and_true] at hs
         obtain ⟨h1, h2, h3, h4⟩ := hs
         rw [h1, h2, h3] at a2 a4
         rw [h4] at a2 a4
         clear hok fin
         repeat ((try conv => whnf); first | (with_reducible first | refine z0c (fun Qs hN hE hR => ?_) | refine z0a ?_ | refine z02 (fun Qb kN kE kX kR => ?_) | refine z04 ?_ | refine z05 ?_ | refine z0b ?_ | refine z06 ?_ | refine z07 ?_ | (show W _ _ _ (.cond _ _ _) _ _; refine z03 rfl ?_) | (refine hN _ ?_; try clear hN hE hR Qs; (try (conv => arg 6; dsimp only [ovl, List.set, List.map, ren0]))) | ((first | refine hE _ _ ?_ | refine hR _ ?_); try clear hN hE hR Qs) | ((first | refine kN _ ?_ | refine kE _ ?_ | refine kX _ _ rfl ?_ | refine kR _ ?_); try clear kN kE kX kR Qb)) | (refine z0Q f1 ?_) | (refine ccB ([_]) (a1) ?_) | (refine ccB ([_]) (a2) ?_) | (refine ccA ([]) (a3) ?_) | (refine ccA ([]) (a4) ?_) | (refine And.intro (by simp only [List.length_append, List.length_cons, List.length_nil, List.length_set, List.length_replicate]; omega) ?_) | (refine And.intro (by kernel_rfl) ?_) | (refine stpQ ?_))
         refine ⟨(k + 1, q2', false, st ++ [(a, ⟨sx, s1, s2, s3⟩)]), ⟨hlt, ?_, m4, ?_, fun _ => ?_⟩, ?_, ?_⟩
         ·simp only [List.length_append, List.length_cons, List.length_nil]; omega
         ·intro y hy
          rcases List.mem_append.1 hy with hy | hy
          ·exact hg y hy
          ·rw [List.mem_singleton] at hy; subst hy; exact ⟨ha, gs⟩
         ·obtain ⟨e5, d5⟩ := hb eb
          refine ⟨e5, ?_⟩
          show t.drop q5 = stL (st ++ [(a, ⟨sx, s1, s2, s3⟩)]) ++ t.drop q2'
          rw [d5, hdr, z7Z]
          simp [stL]
         ·show m - (k + 1) < m - k
          omega
         ·dsimp only
          rw [happ]
          (refine z08 (by rfl) ?_ ?_) <;> (repeat' (first | (exact eqA) | (refine shE ?_) | (refine And.intro ?_ ?_))) <;> rfl
  ·have hkm : k = m := by omega
   subst hkm
   have f1 : ¬ ((k : Nat) : Int) < ((k : Nat) : Int) := by omega
   have kd := z5n t q b
   unfold fldB at kd
   have hf := fin q b st hl hg hb
   generalize z2i b q t.length = dn at kd hf
   clear fin hb hg
   repeat ((try conv => whnf); first | (with_reducible first | refine z0c (fun Qs hN hE hR => ?_) | refine z0a ?_ | refine z02 (fun Qb kN kE kX kR => ?_) | refine z04 ?_ | refine z05 ?_ | refine z0b ?_ | refine z06 ?_ | refine z07 ?_ | (show W _ _ _ (.cond _ _ _) _ _; refine z03 rfl ?_) | (refine hN _ ?_; try clear hN hE hR Qs; (try (conv => arg 6; dsimp only [ovl, List.set, List.map, ren0]))) | ((first | refine hE _ _ ?_ | refine hR _ ?_); try clear hN hE hR Qs) | ((first | refine kN _ ?_ | refine kE _ ?_ | refine kX _ _ rfl ?_ | refine kR _ ?_); try clear kN kE kX kR Qb)) | (refine z0z f1 ?_) | (refine stpQ ?_))
   refine hQ1 _ _ ?_
   clear hQ1 Q1
   cases dn with
   | false =>
     clear hf
     repeat ((try conv => whnf); first | (with_reducible first | refine z0c (fun Qs hN hE hR => ?_) | refine z0a ?_ | refine z02 (fun Qb kN kE kX kR => ?_) | refine z04 ?_ | refine z05 ?_ | refine z0b ?_ | refine z06 ?_ | refine z07 ?_ | (show W _ _ _ (.cond _ _ _) _ _; refine z03 rfl ?_) | (refine hN _ ?_; try clear hN hE hR Qs; (try (conv => arg 6; dsimp only [ovl, List.set, List.map, ren0]))) | ((first | refine hE _ _ ?_ | refine hR _ ?_); try clear hN hE hR Qs) | ((first | refine kN _ ?_ | refine kE _ ?_ | refine kX _ _ rfl ?_ | refine kR _ ?_); try clear kN kE kX kR Qb)) | (refine ccB ([_]) (kd) ?_) | (refine And.intro (by kernel_rfl) ?_) | (refine stpQ ?_))
     (refine z00 (by rfl) ?_ ?_ (by rfl)) <;> (repeat' (first | (exact eqA) | (refine shE ?_) | (refine And.intro ?_ ?_))) <;> first | rfl | decide
   | true =>
     cases one with
     | false =>
       clear hf
       repeat ((try conv => whnf); first | (with_reducible first | refine z0c (fun Qs hN hE hR => ?_) | refine z0a ?_ | refine z02 (fun Qb kN kE kX kR => ?_) | refine z04 ?_ | refine z05 ?_ | refine z0b ?_ | refine z06 ?_ | refine z07 ?_ | (show W _ _ _ (.cond _ _ _) _ _; refine z03 rfl ?_) | (refine hN _ ?_; try clear hN hE hR Qs; (try (conv => arg 6; dsimp only [ovl, List.set, List.map, ren0]))) | ((first | refine hE _ _ ?_ | refine hR _ ?_); try clear hN hE hR Qs) | ((first | refine kN _ ?_ | refine kE _ ?_ | refine kX _ _ rfl ?_ | refine kR _ ?_); try clear kN kE kX kR Qb)) | (refine ccB ([_]) (kd) ?_) | (refine And.intro (by kernel_rfl) ?_) | (refine stpQ ?_))
       (refine z00 (by rfl) ?_ ?_ (by rfl)) <;> (repeat' (first | (exact eqA) | (refine shE ?_) | (refine And.intro ?_ ?_))) <;> first | rfl | decide
     | true =>
       cases two with
       | false =>
         clear hf
         repeat ((try conv => whnf); first | (with_reducible first | refine z0c (fun Qs hN hE hR => ?_) | refine z0a ?_ | refine z02 (fun Qb kN kE kX kR => ?_) | refine z04 ?_ | refine z05 ?_ | refine z0b ?_ | refine z06 ?_ | refine z07 ?_ | (show W _ _ _ (.cond _ _ _) _ _; refine z03 rfl ?_) | (refine hN _ ?_; try clear hN hE hR Qs; (try (conv => arg 6; dsimp only [ovl, List.set, List.map, ren0]))) | ((first | refine hE _ _ ?_ | refine hR _ ?_); try clear hN hE hR Qs) | ((first | refine kN _ ?_ | refine kE _ ?_ | refine kX _ _ rfl ?_ | refine kR _ ?_); try clear kN kE kX kR Qb)) | (refine ccB ([_]) (kd) ?_) | (refine And.intro (by kernel_rfl) ?_) | (refine stpQ ?_))
         (refine z00 (by rfl) ?_ ?_ (by rfl)) <;> (repeat' (first | (exact eqA) | (refine shE ?_) | (refine And.intro ?_ ?_))) <;> first | rfl | decide
       | true => exact (hf rfl rfl rfl).elim
end
end Go.Proofs.Ytnhcfmmdaihneaa
