/- Functions by content: the law of ReadWhole. -/
import Derived.Test.YtnhcfmmdaihneaaRi
import Derived.Test.YtnhcfmmdaihneaaRwx
import Derived.Test.YtnhcfmmdaihneaaExw
import Derived.Test.YtnhcfmmdaihneaaMk
namespace Go.Proofs.Ytnhcfmmdaihneaa
set_option maxRecDepth 100000
set_option maxHeartbeats 8000000
set_option linter.unusedVariables false
set_option linter.unusedSimpArgs false
set_option linter.unusedSectionVars false
open Go.RowKit Pl
section
attribute [local irreducible] z0m z0o z0s AnsP LeP W CvE
theorem z3X (t : Bs) (ht : (t.length : Int) ≤ 1048576) (ok : Bool) (ho ep : Int) (ro pr : Bs) (a : Int) (b s tp x y z d e : List (List T))
 (wb : WfLf b) (ws : WfSt s) (wt : WfSt tp) (wx : WfSt x) (wy : WfSt y) (wz : WfSt z) (wd : WfSp d) (lb : b.length ≤ 1000) (ls : s.length ≤ 1000) (lt : tp.length ≤ 1000) (lx : x.length ≤ 1000) (ly : y.length ≤ 1000) (lz : z.length ≤ 1000) (ld : d.length ≤ 1000) (nd : cnG szSp d ≤ 1000000) (nb : cnG szLf b ≤ 1000000) (ns : cnG szSt s ≤ 1000000) (nt : cnG szSt tp ≤ 1000000) (nx : cnG szSt x ≤ 1000000) (ny : cnG szSt y ≤ 1000000) (nz : cnG szSt z ≤ 1000000)
 (ub : ucE b = b) (us : ucE s = s) (ut : ucE tp = tp) (ux : ucE x = x) (uy : ucE y = y) (uz : ucE z = z) (ud : ucE d = e)
 (hb : b.length ≤ 1048576 ∧ ∀ e ∈ b, Fits 1048576 z37 e) (hs : s.length ≤ 1048576 ∧ ∀ e ∈ s, Fits 1048576 .str e) (htp : tp.length ≤ 1048576 ∧ ∀ e ∈ tp, Fits 1048576 .str e) (hl : Fits 1048576 z4I [.int .i64 ho, .int .i64 ep, .str ro, .str pr, .int .i64 a, .sl 1 x, .sl 1 y, .sl 1 z]) (hw : e.length ≤ 1048576 ∧ ∀ u ∈ e, Fits 1048576 z2N u)
 (s1 : CT Try.prog 4 [] [.str t] (.tup [.agg [.sl 2 b, .sl 1 s, .sl 1 tp, .int .i64 ho, .int .i64 ep, .str ro, .str pr, .int .i64 a, .sl 1 x, .sl 1 y, .sl 1 z, .sl 5 e], .bool ok]) [])
 (s2 : CT Try.prog 5 [] [.str t] (.tup [.agg [.ref 1, .ref 2, .ref 3, .int .i64 ho, .int .i64 ep, .str ro, .str pr, .int .i64 a, .ref 4, .ref 5, .ref 6, .ref 7], .bool ok]) [.deep 2 b [], .deep 1 s [], .deep 1 tp [], .deep 1 x [], .deep 1 y [], .deep 1 z [], .deep 5 d []]) :
 CT Try.prog 3 [] [.str t] (.bool true) [] := by
 have u1 := z9B ho ep ro pr a b s tp x y z e hb hs htp hl hw (ucE b) (ucE s) (ucE tp) (ucE x) (ucE y) (ucE z) (ucE d) ub us ut ux uy uz ud
 have d2 := z7q ho ep ro pr a b wb (by omega) s ws (by omega) tp wt (by omega) x wx (by omega) y wy (by omega) z wz (by omega) d wd (by omega) 1 (by decide) (by omega)
 have d3 := z7r ho ep ro pr a b wb (by omega) s ws (by omega) tp wt (by omega) x wx (by omega) y wy (by omega) z wz (by omega) d wd (by omega) 1 (by decide) (by omega)
 have y2 : ¬ ((1 + cnG szLf b + cnG szSt s + cnG szSt tp + cnG szSt x + cnG szSt y + cnG szSt z + cnG szSp d : Nat) : Int) < 0 := by omega
 generalize ((1 + cnG szLf b + cnG szSt s + cnG szSt tp + cnG szSt x + cnG szSt y + cnG szSt z + cnG szSp d : Nat) : Int) = m2 at d2 d3 y2
 have y3 : m2 = m2 := rfl
 have y4 : ok = ok := rfl
 have f0 : ¬ (t.length : Int) > 1048576 := by omega
 generalize mkG elLf szLf _ b = p1 at d2 d3
 generalize mkG elSt szSt _ s = p2 at d2 d3
 generalize mkG elSt szSt _ tp = p3 at d2 d3
 generalize mkG elSt szSt _ x = p4 at d2 d3
 generalize mkG elSt szSt _ y = p5 at d2 d3
 generalize mkG elSt szSt _ z = p6 at d2 d3
 generalize mkG elSp szSp _ d = p7 at d2 d3
 clear wb ws wt wx wy wz wd lb ls lt lx ly lz ld nd nb ns nt nx ny nz ub us ut ux uy uz ud hb hs htp hl hw
 refine z01 z0y 1 rfl Try.func3 rfl rfl rfl ?_
 conv => arg 6; whnf
 repeat ((try conv => whnf); first | (with_reducible first | refine z0c (fun Qs hN hE hR => ?_) | refine z0a ?_ | refine z02 (fun Qb kN kE kX kR => ?_) | refine z04 ?_ | refine z05 ?_ | refine z0b ?_ | refine z06 ?_ | refine z07 ?_ | (show W _ _ _ (.cond _ _ _) _ _; refine z03 rfl ?_) | (refine hN _ ?_; try clear hN hE hR Qs) | ((first | refine hE _ _ ?_ | refine hR _ ?_); try clear hN hE hR Qs) | ((first | refine kN _ ?_ | refine kE _ ?_ | refine kX _ _ rfl ?_ | refine kR _ ?_); try clear kN kE kX kR Qb)) | (refine z0z f0 ?_) | (refine ccA ([]) (s1) ?_) | (refine stpQ ?_))
 repeat ((try conv => whnf); first | (with_reducible first | refine z0c (fun Qs hN hE hR => ?_) | refine z0a ?_ | refine z02 (fun Qb kN kE kX kR => ?_) | refine z04 ?_ | refine z05 ?_ | refine z0b ?_ | refine z06 ?_ | refine z07 ?_ | (show W _ _ _ (.cond _ _ _) _ _; refine z03 rfl ?_) | (refine hN _ ?_; try clear hN hE hR Qs) | ((first | refine hE _ _ ?_ | refine hR _ ?_); try clear hN hE hR Qs) | ((first | refine kN _ ?_ | refine kE _ ?_ | refine kX _ _ rfl ?_ | refine kR _ ?_); try clear kN kE kX kR Qb)) | (refine ccA ([]) (s2) ?_) | (refine ccA ([]) (u1) ?_) | (refine ccB ([_, _, _, _, _, _, _]) (d2) ?_) | (refine ccB ([_, _, _, _, _, _, _]) (d3) ?_) | (refine z0z y2 ?_) | (refine z25 y3 ?_) | (refine z25 y4 ?_) | (refine And.intro (by kernel_rfl) ?_) | (refine stpQ ?_))
 (refine z00 (by rfl) ?_ ?_ (by rfl)) <;> (repeat' (first | (exact eqA) | (refine shE ?_) | (refine And.intro ?_ ?_)))
theorem z9E (t : Bs) (ht : (t.length : Int) > 1048576) : CT Try.prog 3 [] [.str t] (.bool true) [] := by
 refine z01 z0y 1 rfl Try.func3 rfl rfl rfl ?_
 conv => arg 6; whnf
 repeat ((try conv => whnf); first | (with_reducible first | refine z0c (fun Qs hN hE hR => ?_) | refine z0a ?_ | refine z02 (fun Qb kN kE kX kR => ?_) | refine z04 ?_ | refine z05 ?_ | refine z0b ?_ | refine z06 ?_ | refine z07 ?_ | (show W _ _ _ (.cond _ _ _) _ _; refine z03 rfl ?_) | (refine hN _ ?_; try clear hN hE hR Qs) | ((first | refine hE _ _ ?_ | refine hR _ ?_); try clear hN hE hR Qs) | ((first | refine kN _ ?_ | refine kE _ ?_ | refine kX _ _ rfl ?_ | refine kR _ ?_); try clear kN kE kX kR Qb)) | (refine z0Q ht ?_) | (refine stpQ ?_))
 (refine z00 (by rfl) ?_ ?_ (by rfl)) <;> (repeat' (first | (exact eqA) | (refine shE ?_) | (refine And.intro ?_ ?_)))
end
theorem z3Y (l : List Bs) : WfSt (strE l) := fun e he => by
 simp only [strE, List.mem_map] at he
 obtain ⟨x, _, rfl⟩ := he
 exact ⟨_, rfl⟩
theorem wfw_lf (l : List Lf) : WfLf (lvE l) := fun e he => by
 simp only [lvE, List.mem_map] at he
 obtain ⟨x, _, rfl⟩ := he
 exact ⟨_, _, rfl⟩
theorem zdf (n : Nat) : ∀ (es : List (List T)), cnG (fun _ => n) es = n * es.length
 | [] => rfl
 | e :: es => by rw [cnG, zdf n es, List.length_cons, Nat.mul_add]; omega
theorem z3Z (l : List (List T)) : cnG szSt l = 1 * l.length := zdf 1 l
theorem cnw_lf (l : List (List T)) : cnG szLf l = 2 * l.length := zdf 2 l
theorem ucw_lf (l : List Lf) : ucE (lvE l) = lvE l := z6c fun e he c hc => by
 simp only [lvE, List.mem_map] at he
 obtain ⟨x, _, rfl⟩ := he
 simp only [List.mem_cons, List.not_mem_nil, or_false] at hc
 rcases hc with rfl | rfl <;> rfl
theorem zcg : ∀ l : List (Nat × Sg), ucE (stD l) = stE l
 | [] => by simp [stD, stE, ucE]
 | x :: l => by
   have ih := zcg l
   simp only [stD, stE, sgE, List.map_cons, ucE, ucL, ucT, z6d] at ih ⊢
   rw [ih]
theorem zb2 {s : Sg} (g : s.good) : s.op.length = 8 ∧ s.sh.length = 8 ∧ s.si.length = 4 := by
 obtain ⟨h1, ⟨h2, h3⟩, ⟨h4, h5⟩, h6, h7⟩ := g
 exact ⟨h2, h4, h6⟩
theorem wfw_sp {l : List (Nat × Sg)} (h : ∀ y ∈ l, y.1 ≤ 2 ∧ y.2.good) : WfSp (stD l) := fun e he => by
 simp only [stD, List.mem_map] at he
 obtain ⟨y, hy, rfl⟩ := he
 obtain ⟨a, b, c⟩ := zb2 (h y hy).2
 exact ⟨_, _, _, _, _, rfl, z3Y _, by rw [z0q]; omega, z3Y _, by rw [z0q]; omega, z3Y _, by rw [z0q]; omega⟩
theorem zch : ∀ {l : List (Nat × Sg)}, (∀ y ∈ l, y.1 ≤ 2 ∧ y.2.good) → cnG szSp (stD l) ≤ 100 * l.length
 | [], _ => Nat.zero_le _
 | y :: l, h => by
   have ih := zch (l := l) fun z hz => h z (by simp [hz])
   obtain ⟨a, b, c⟩ := zb2 (h y (by simp)).2
   show szSp [.int .i64 (y.1 : Int), .int .i64 (y.2.a : Int), .own 1 (strE y.2.op), .own 1 (strE y.2.sh), .own 1 (strE y.2.si)] + cnG szSp (stD l) ≤ _
   have e : szSp [.int .i64 (y.1 : Int), .int .i64 (y.2.a : Int), .own 1 (strE y.2.op), .own 1 (strE y.2.sh), .own 1 (strE y.2.si)] = 2 + cnG szSt (strE y.2.op) + cnG szSt (strE y.2.sh) + cnG szSt (strE y.2.si) := rfl
   rw [e, z3Z, z3Z, z3Z, z0q, z0q, z0q, List.length_cons]
   omega
theorem z2I {l : List Bs} {N : Nat} (hl : l.length ≤ N) (h : ∀ x ∈ l, x.length ≤ N) : (strE l).length ≤ N ∧ ∀ e ∈ strE l, Fits N .str e := ⟨by rw [z0q]; exact hl, fun e he => by
 simp only [strE, List.mem_map] at he
 obtain ⟨x, hx, rfl⟩ := he
 exact ⟨_, rfl, h x hx⟩⟩
theorem z2r (s : Shp) : ([] : List (List T)).length ≤ 1048576 ∧ ∀ e ∈ ([] : List (List T)), Fits 1048576 s e := ⟨by simp, fun e h => by cases h⟩
theorem z4Q (t : Bs) : CT Try.prog 3 [] [.str t] (.bool true) [] := by
 by_cases ht : (t.length : Int) ≤ 1048576
 ·by_cases hx : ∃ x, WhGood x ∧ t = z1h x
  ·obtain ⟨x, g, rfl⟩ := hx
   have s1 := z6g x g
   have s2 := z7f x g (z1Z g.pf)
   obtain ⟨p1, p2, p3, _, _⟩ := z19.1 g.pf
   obtain ⟨k1, k2, _⟩ := z2C p1
   have gt := g.tl
   have gs := g.sl
   obtain ⟨a1, a2, a3⟩ := zb2 g.sg
   obtain ⟨⟨h1, h2, h3, h4, h5⟩, ⟨g1, ⟨g2, g3⟩, ⟨g4, g5⟩, g6, g7⟩⟩ := (⟨g.hd, g.sg⟩ : x.hd.good ∧ x.sg.good)
   have hp : x.hd.pr.length ≤ 16 := by
    split at h5
    ·rw [h5]; simp
    ·omega
   have b1 : (lvE x.B).length = x.B.length := by simp [lvE]
   have b2 := z0q x.S
   have b3 := z0q x.T
   have b4 := z0q x.sg.op
   have b5 := z0q x.sg.sh
   have b6 := z0q x.sg.si
   have b7 := zaK x.st
   have b8 := z7Y x.st
   have n1 := cnw_lf (lvE x.B)
   have n2 := z3Z (strE x.S)
   have n3 := z3Z (strE x.T)
   have n4 := z3Z (strE x.sg.op)
   have n5 := z3Z (strE x.sg.sh)
   have n6 := z3Z (strE x.sg.si)
   have n7 := zch g.sh
   refine z3X (z1h x) ht true (x.hd.ho : Int) (x.hd.ep : Int) x.hd.ro x.hd.pr (x.sg.a : Int) (lvE x.B) (strE x.S) (strE x.T) (strE x.sg.op) (strE x.sg.sh) (strE x.sg.si) (stD x.st) (stE x.st) (wfw_lf _) (z3Y _) (z3Y _) (z3Y _) (z3Y _) (z3Y _) (wfw_sp g.sh) (by omega) (by omega) (by omega) (by omega) (by omega) (by omega) (by omega) (by omega) (by omega) (by omega) (by omega) (by omega) (by omega) (by omega) (ucw_lf _) (z6d _) (z6d _) (z6d _) (z6d _) (z6d _) (zcg _) ⟨by omega, fun e he => ?_⟩ (z2I (by omega) fun y hy => by have := p3 y hy; omega) (z2I (by omega) fun y hy => by have := g.tw y hy; omega)
    (zaN (by omega) (by omega) (by omega) (by omega) (by omega) (z2I (by omega) fun y hy => by have := g3 y hy; omega) (z2I (by omega) fun y hy => by have := g5 y hy; omega) (z2I (by omega) fun y hy => by have := g7 y hy; omega)) ⟨by omega, fun e he => ?_⟩ s1 s2
   ·simp only [lvE, List.mem_map] at he
    obtain ⟨y, hy, rfl⟩ := he
    have := k2 y hy
    have c1 := z26 this.1
    have c2 := z1T this.2
    exact zd4 (by omega) (by omega)
   ·simp only [stE, List.mem_map] at he
    obtain ⟨y, hy, rfl⟩ := he
    obtain ⟨c0, ⟨c1, ⟨c2, c3⟩, ⟨c4, c5⟩, c6, c7⟩⟩ := g.sh y hy
    exact zbH (by omega) (by omega) (z2I (by omega) fun y hy => by have := c3 y hy; omega) (z2I (by omega) fun y hy => by have := c5 y hy; omega) (z2I (by omega) fun y hy => by have := c7 y hy; omega)
  ·have hn : ∀ x, WhGood x → t ≠ z1h x := fun x g e => hx ⟨x, g, e⟩
   have s1 := z6h t (by omega) hn
   have s2 := z7h t (by omega) hn
   have n0 : ∀ e ∈ ([] : List (List T)), False := fun e h => by cases h
   exact z3X t ht false 0 0 [] [] 0 [] [] [] [] [] [] [] [] (fun e h => (n0 e h).elim) (fun e h => (n0 e h).elim) (fun e h => (n0 e h).elim) (fun e h => (n0 e h).elim) (fun e h => (n0 e h).elim) (fun e h => (n0 e h).elim) (fun e h => (n0 e h).elim) (by decide) (by decide) (by decide) (by decide) (by decide) (by decide) (by decide) (by decide) (by decide) (by decide) (by decide) (by decide) (by decide) (by decide) (by simp [ucE]) (by simp [ucE]) (by simp [ucE]) (by simp [ucE]) (by simp [ucE]) (by simp [ucE]) (by simp [ucE]) (z2r _) (z2r _) (z2r _) (zaN (by omega) (by omega) (by simp) (by simp) (by omega) (z2r _) (z2r _) (z2r _)) (z2r _) s1 s2
 ·exact z9E t (by omega)
end Go.Proofs.Ytnhcfmmdaihneaa
